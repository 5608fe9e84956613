/-
  NARROWER THAN 'FOR EVERY INPUT', by the rows' own cells (each row's printed sentence says how): AbstractionMatchesReference: laid · AbstractionApplyMatchesReference: laid · AbstractionCompose: laid · AbstractionNormal: laid · AbstractionCoarser: laid · AbstractionExactly: laid · AbstractionEach: laid · AbstractionDocument: laid.
  DERIVED. THE GIVEN ROWS OF THIS SEAT. 8 by the template 'for every input the law returns true; each argument reads behind the call as it read before'; 0 by the template 'total and deterministic' (their statements: YtblllibdahkgfaaGreatDoorTotals.lean).
  GIVEN WITH THE SEED: the statements are not yours to turn. If you find one false, say at which input.
  Laid BY PROGRAM, IN A SANDBOX (cutbox-rows.mjs): the forced cells as the released guide's own fill.sh prints them over the translation 4b8c4de1fda16aa0… (all of the seat's roots in one cut). By AI agents, Wed Nov 11 2026. No macro, syntax, notation, axiom, sorry.
-/
import Derived.Test.YtblllibdahkgfaaGreatDoorChecked
import GoSem.PinnedTables
import GoSem.Claim
import GoSem.ClaimJoined
import GoSem.ClaimMapViews
import Derived.JoinedTies
import Derived.KernelRfl
namespace Go.Proofs.YtblllibdahkgfaaGreatDoor
/- THE CELL 'sum', in the pinned program and in every row, IS THE sha256 OF THE DUMP (.gsa) THAT YtblllibdahkgfaaGreatDoorProg.lean LOADS. Nothing in Lean hashes anything: it is a label: what it is worth is what the hold of that sum in a sandbox is worth. -/
noncomputable def Tryz.pinned : Pinned := { name := "ytblllibdahkgfaagreatdoor", sum := "4b8c4de1fda16aa0159cae0e3ff28cb53dc59f348c4fb9b1ed97954c7a122cf1", checked := Tryz.checked }
namespace Rows
def none {H : Type} : Left H := { results := [], args := [] }

/- WHAT THE LISTED PACKAGE-LEVEL VARIABLES READ AS WHEN THE CALL BEGINS. Each datum BY PROGRAM (the guide's laid-datum.mjs) off the statement by which the dump's own 'gosem.cut.vars' lays the variable. In a bare row this is a premise. The card (YtblllibdahkgfaaGreatDoorCards.lean) ties it to the program's text. -/
def laid_unicode_utf8_acceptRanges {H : Type} : DataW H := .agg [.agg [.lit (.int .u8 128), .lit (.int .u8 191)], .agg [.lit (.int .u8 160), .lit (.int .u8 191)], .agg [.lit (.int .u8 128), .lit (.int .u8 159)], .agg [.lit (.int .u8 144), .lit (.int .u8 191)], .agg [.lit (.int .u8 128), .lit (.int .u8 143)], .agg [.lit (.int .u8 0), .lit (.int .u8 0)], .agg [.lit (.int .u8 0), .lit (.int .u8 0)], .agg [.lit (.int .u8 0), .lit (.int .u8 0)], .agg [.lit (.int .u8 0), .lit (.int .u8 0)], .agg [.lit (.int .u8 0), .lit (.int .u8 0)], .agg [.lit (.int .u8 0), .lit (.int .u8 0)], .agg [.lit (.int .u8 0), .lit (.int .u8 0)], .agg [.lit (.int .u8 0), .lit (.int .u8 0)], .agg [.lit (.int .u8 0), .lit (.int .u8 0)], .agg [.lit (.int .u8 0), .lit (.int .u8 0)], .agg [.lit (.int .u8 0), .lit (.int .u8 0)]]
/-- One of Go's own tables, pinned by name: the form's constant. -/
def laid_unicode_CaseRanges : DataW Unit := Go.Pinned.caseRanges
/-- One of Go's own tables, pinned by name: the form's constant. -/
def laid_unicode_utf8_first : DataW Unit := Go.Pinned.utf8First

/-- 'evergreenlaw07.AbstractionMatchesReference': WHATEVER THE INPUT: true; the input reads as it did. -/
def abstractionMatchesReferenceSpec : ChangeSpec := { name := "abstractionMatchesReference", fn := fun _ => fun
  | [d1, d2, d3, d4, d5, d6] => { results := [.lit (.bool true)], args := [d1, d2, d3, d4, d5, d6] }
  | _ => none }
def abstractionMatchesReferenceRow : OpenClaim := { program := "ytblllibdahkgfaagreatdoor", sum := "4b8c4de1fda16aa0159cae0e3ff28cb53dc59f348c4fb9b1ed97954c7a122cf1", func := "evergreen/evergreenlaw07.AbstractionMatchesReference", spec := "abstractionMatchesReference", inPlace := ["internal/abi.NoEscape", "internal/bytealg.MakeNoZero", "internal/bytealg.IndexByteString", "internal/bytealg.IndexString", "internal/bytealg.CountString"], unfollowed := true, recurses := true, named := ["unicode/utf8.first", "unicode/utf8.acceptRanges", "unicode.CaseRanges", "internal/bytealg.MaxLen"], apart := false, laid := [("unicode/utf8.acceptRanges", laid_unicode_utf8_acceptRanges), ("unicode.CaseRanges", laid_unicode_CaseRanges), ("unicode/utf8.first", laid_unicode_utf8_first)] }
def AbstractionMatchesReferenceSaid : Prop := abstractionMatchesReferenceRow.holds Tryz.pinned (OpenSpec.ofChange abstractionMatchesReferenceSpec)

/-- ITS FALSE NEIGHBOUR: 'it returns false'. Refute it at one input. -/
def abstractionMatchesReferenceWrong : ChangeSpec := { name := "abstractionMatchesReference", fn := fun _ => fun
  | [d1, d2, d3, d4, d5, d6] => { results := [.lit (.bool false)], args := [d1, d2, d3, d4, d5, d6] }
  | _ => none }
def AbstractionMatchesReferenceWrongFalsely : Prop := abstractionMatchesReferenceRow.holds Tryz.pinned (OpenSpec.ofChange abstractionMatchesReferenceWrong)

/-- 'evergreenlaw07.AbstractionApplyMatchesReference': WHATEVER THE INPUT: true; the input reads as it did. -/
def abstractionApplyMatchesReferenceSpec : ChangeSpec := { name := "abstractionApplyMatchesReference", fn := fun _ => fun
  | [d1, d2, d3, d4, d5, d6, d7, d8] => { results := [.lit (.bool true)], args := [d1, d2, d3, d4, d5, d6, d7, d8] }
  | _ => none }
def abstractionApplyMatchesReferenceRow : OpenClaim := { program := "ytblllibdahkgfaagreatdoor", sum := "4b8c4de1fda16aa0159cae0e3ff28cb53dc59f348c4fb9b1ed97954c7a122cf1", func := "evergreen/evergreenlaw07.AbstractionApplyMatchesReference", spec := "abstractionApplyMatchesReference", inPlace := ["internal/abi.NoEscape", "internal/bytealg.MakeNoZero", "internal/bytealg.IndexByteString", "internal/bytealg.IndexString", "internal/bytealg.CountString"], unfollowed := true, recurses := true, named := ["unicode/utf8.first", "unicode/utf8.acceptRanges", "unicode.CaseRanges", "internal/bytealg.MaxLen"], apart := false, laid := [("unicode/utf8.acceptRanges", laid_unicode_utf8_acceptRanges), ("unicode.CaseRanges", laid_unicode_CaseRanges), ("unicode/utf8.first", laid_unicode_utf8_first)] }
def AbstractionApplyMatchesReferenceSaid : Prop := abstractionApplyMatchesReferenceRow.holds Tryz.pinned (OpenSpec.ofChange abstractionApplyMatchesReferenceSpec)

/-- ITS FALSE NEIGHBOUR: 'it returns false'. Refute it at one input. -/
def abstractionApplyMatchesReferenceWrong : ChangeSpec := { name := "abstractionApplyMatchesReference", fn := fun _ => fun
  | [d1, d2, d3, d4, d5, d6, d7, d8] => { results := [.lit (.bool false)], args := [d1, d2, d3, d4, d5, d6, d7, d8] }
  | _ => none }
def AbstractionApplyMatchesReferenceWrongFalsely : Prop := abstractionApplyMatchesReferenceRow.holds Tryz.pinned (OpenSpec.ofChange abstractionApplyMatchesReferenceWrong)

/-- 'evergreenlaw07.AbstractionCompose': WHATEVER THE INPUT: true; the input reads as it did. -/
def abstractionComposeSpec : ChangeSpec := { name := "abstractionCompose", fn := fun _ => fun
  | [d1, d2, d3, d4, d5] => { results := [.lit (.bool true)], args := [d1, d2, d3, d4, d5] }
  | _ => none }
def abstractionComposeRow : OpenClaim := { program := "ytblllibdahkgfaagreatdoor", sum := "4b8c4de1fda16aa0159cae0e3ff28cb53dc59f348c4fb9b1ed97954c7a122cf1", func := "evergreen/evergreenlaw07.AbstractionCompose", spec := "abstractionCompose", inPlace := ["internal/abi.NoEscape", "internal/bytealg.MakeNoZero", "internal/bytealg.IndexByteString", "internal/bytealg.IndexString", "internal/bytealg.CountString"], unfollowed := true, recurses := true, named := ["unicode/utf8.first", "unicode/utf8.acceptRanges", "unicode.CaseRanges", "internal/bytealg.MaxLen"], apart := false, laid := [("unicode/utf8.acceptRanges", laid_unicode_utf8_acceptRanges), ("unicode.CaseRanges", laid_unicode_CaseRanges), ("unicode/utf8.first", laid_unicode_utf8_first)] }
def AbstractionComposeSaid : Prop := abstractionComposeRow.holds Tryz.pinned (OpenSpec.ofChange abstractionComposeSpec)

/-- ITS FALSE NEIGHBOUR: 'it returns false'. Refute it at one input. -/
def abstractionComposeWrong : ChangeSpec := { name := "abstractionCompose", fn := fun _ => fun
  | [d1, d2, d3, d4, d5] => { results := [.lit (.bool false)], args := [d1, d2, d3, d4, d5] }
  | _ => none }
def AbstractionComposeWrongFalsely : Prop := abstractionComposeRow.holds Tryz.pinned (OpenSpec.ofChange abstractionComposeWrong)

/-- 'evergreenlaw07.AbstractionNormal': WHATEVER THE INPUT: true; the input reads as it did. -/
def abstractionNormalSpec : ChangeSpec := { name := "abstractionNormal", fn := fun _ => fun
  | [d1, d2, d3, d4] => { results := [.lit (.bool true)], args := [d1, d2, d3, d4] }
  | _ => none }
def abstractionNormalRow : OpenClaim := { program := "ytblllibdahkgfaagreatdoor", sum := "4b8c4de1fda16aa0159cae0e3ff28cb53dc59f348c4fb9b1ed97954c7a122cf1", func := "evergreen/evergreenlaw07.AbstractionNormal", spec := "abstractionNormal", inPlace := ["internal/abi.NoEscape", "internal/bytealg.MakeNoZero", "internal/bytealg.IndexByteString", "internal/bytealg.IndexString", "internal/bytealg.CountString"], unfollowed := true, recurses := true, named := ["unicode/utf8.first", "unicode/utf8.acceptRanges", "unicode.CaseRanges", "internal/bytealg.MaxLen"], apart := false, laid := [("unicode/utf8.acceptRanges", laid_unicode_utf8_acceptRanges), ("unicode.CaseRanges", laid_unicode_CaseRanges), ("unicode/utf8.first", laid_unicode_utf8_first)] }
def AbstractionNormalSaid : Prop := abstractionNormalRow.holds Tryz.pinned (OpenSpec.ofChange abstractionNormalSpec)

/-- ITS FALSE NEIGHBOUR: 'it returns false'. Refute it at one input. -/
def abstractionNormalWrong : ChangeSpec := { name := "abstractionNormal", fn := fun _ => fun
  | [d1, d2, d3, d4] => { results := [.lit (.bool false)], args := [d1, d2, d3, d4] }
  | _ => none }
def AbstractionNormalWrongFalsely : Prop := abstractionNormalRow.holds Tryz.pinned (OpenSpec.ofChange abstractionNormalWrong)

/-- 'evergreenlaw07.AbstractionCoarser': WHATEVER THE INPUT: true; the input reads as it did. -/
def abstractionCoarserSpec : ChangeSpec := { name := "abstractionCoarser", fn := fun _ => fun
  | [d1, d2, d3, d4, d5, d6] => { results := [.lit (.bool true)], args := [d1, d2, d3, d4, d5, d6] }
  | _ => none }
def abstractionCoarserRow : OpenClaim := { program := "ytblllibdahkgfaagreatdoor", sum := "4b8c4de1fda16aa0159cae0e3ff28cb53dc59f348c4fb9b1ed97954c7a122cf1", func := "evergreen/evergreenlaw07.AbstractionCoarser", spec := "abstractionCoarser", inPlace := ["internal/abi.NoEscape", "internal/bytealg.MakeNoZero", "internal/bytealg.IndexByteString", "internal/bytealg.IndexString", "internal/bytealg.CountString"], unfollowed := true, recurses := true, named := ["unicode/utf8.first", "unicode/utf8.acceptRanges", "unicode.CaseRanges", "internal/bytealg.MaxLen"], apart := false, laid := [("unicode/utf8.acceptRanges", laid_unicode_utf8_acceptRanges), ("unicode.CaseRanges", laid_unicode_CaseRanges), ("unicode/utf8.first", laid_unicode_utf8_first)] }
def AbstractionCoarserSaid : Prop := abstractionCoarserRow.holds Tryz.pinned (OpenSpec.ofChange abstractionCoarserSpec)

/-- ITS FALSE NEIGHBOUR: 'it returns false'. Refute it at one input. -/
def abstractionCoarserWrong : ChangeSpec := { name := "abstractionCoarser", fn := fun _ => fun
  | [d1, d2, d3, d4, d5, d6] => { results := [.lit (.bool false)], args := [d1, d2, d3, d4, d5, d6] }
  | _ => none }
def AbstractionCoarserWrongFalsely : Prop := abstractionCoarserRow.holds Tryz.pinned (OpenSpec.ofChange abstractionCoarserWrong)

/-- 'evergreenlaw07.AbstractionExactly': WHATEVER THE INPUT: true; the input reads as it did. -/
def abstractionExactlySpec : ChangeSpec := { name := "abstractionExactly", fn := fun _ => fun
  | [d1, d2, d3] => { results := [.lit (.bool true)], args := [d1, d2, d3] }
  | _ => none }
def abstractionExactlyRow : OpenClaim := { program := "ytblllibdahkgfaagreatdoor", sum := "4b8c4de1fda16aa0159cae0e3ff28cb53dc59f348c4fb9b1ed97954c7a122cf1", func := "evergreen/evergreenlaw07.AbstractionExactly", spec := "abstractionExactly", inPlace := ["internal/abi.NoEscape", "internal/bytealg.MakeNoZero", "internal/bytealg.IndexByteString", "internal/bytealg.IndexString", "internal/bytealg.CountString"], unfollowed := true, recurses := true, named := ["unicode/utf8.first", "unicode/utf8.acceptRanges", "unicode.CaseRanges", "internal/bytealg.MaxLen"], apart := false, laid := [("unicode/utf8.acceptRanges", laid_unicode_utf8_acceptRanges), ("unicode.CaseRanges", laid_unicode_CaseRanges), ("unicode/utf8.first", laid_unicode_utf8_first)] }
def AbstractionExactlySaid : Prop := abstractionExactlyRow.holds Tryz.pinned (OpenSpec.ofChange abstractionExactlySpec)

/-- ITS FALSE NEIGHBOUR: 'it returns false'. Refute it at one input. -/
def abstractionExactlyWrong : ChangeSpec := { name := "abstractionExactly", fn := fun _ => fun
  | [d1, d2, d3] => { results := [.lit (.bool false)], args := [d1, d2, d3] }
  | _ => none }
def AbstractionExactlyWrongFalsely : Prop := abstractionExactlyRow.holds Tryz.pinned (OpenSpec.ofChange abstractionExactlyWrong)

/-- 'evergreenlaw07.AbstractionEach': WHATEVER THE INPUT: true; the input reads as it did. -/
def abstractionEachSpec : ChangeSpec := { name := "abstractionEach", fn := fun _ => fun
  | [d1, d2, d3] => { results := [.lit (.bool true)], args := [d1, d2, d3] }
  | _ => none }
def abstractionEachRow : OpenClaim := { program := "ytblllibdahkgfaagreatdoor", sum := "4b8c4de1fda16aa0159cae0e3ff28cb53dc59f348c4fb9b1ed97954c7a122cf1", func := "evergreen/evergreenlaw07.AbstractionEach", spec := "abstractionEach", inPlace := ["internal/abi.NoEscape", "internal/bytealg.MakeNoZero", "internal/bytealg.IndexByteString", "internal/bytealg.IndexString", "internal/bytealg.CountString"], unfollowed := true, recurses := true, named := ["unicode/utf8.first", "unicode/utf8.acceptRanges", "unicode.CaseRanges", "internal/bytealg.MaxLen"], apart := false, laid := [("unicode/utf8.acceptRanges", laid_unicode_utf8_acceptRanges), ("unicode.CaseRanges", laid_unicode_CaseRanges), ("unicode/utf8.first", laid_unicode_utf8_first)] }
def AbstractionEachSaid : Prop := abstractionEachRow.holds Tryz.pinned (OpenSpec.ofChange abstractionEachSpec)

/-- ITS FALSE NEIGHBOUR: 'it returns false'. Refute it at one input. -/
def abstractionEachWrong : ChangeSpec := { name := "abstractionEach", fn := fun _ => fun
  | [d1, d2, d3] => { results := [.lit (.bool false)], args := [d1, d2, d3] }
  | _ => none }
def AbstractionEachWrongFalsely : Prop := abstractionEachRow.holds Tryz.pinned (OpenSpec.ofChange abstractionEachWrong)

/-- 'evergreenlaw07.AbstractionDocument': WHATEVER THE INPUT: true; the input reads as it did. -/
def abstractionDocumentSpec : ChangeSpec := { name := "abstractionDocument", fn := fun _ => fun
  | [d1, d2] => { results := [.lit (.bool true)], args := [d1, d2] }
  | _ => none }
def abstractionDocumentRow : OpenClaim := { program := "ytblllibdahkgfaagreatdoor", sum := "4b8c4de1fda16aa0159cae0e3ff28cb53dc59f348c4fb9b1ed97954c7a122cf1", func := "evergreen/evergreenlaw07.AbstractionDocument", spec := "abstractionDocument", inPlace := ["internal/abi.NoEscape", "internal/bytealg.MakeNoZero", "internal/bytealg.IndexByteString", "internal/bytealg.IndexString", "internal/bytealg.CountString"], unfollowed := true, recurses := true, named := ["unicode/utf8.first", "unicode/utf8.acceptRanges", "unicode.CaseRanges", "internal/bytealg.MaxLen"], apart := false, laid := [("unicode/utf8.acceptRanges", laid_unicode_utf8_acceptRanges), ("unicode.CaseRanges", laid_unicode_CaseRanges), ("unicode/utf8.first", laid_unicode_utf8_first)] }
def AbstractionDocumentSaid : Prop := abstractionDocumentRow.holds Tryz.pinned (OpenSpec.ofChange abstractionDocumentSpec)

/-- ITS FALSE NEIGHBOUR: 'it returns false'. Refute it at one input. -/
def abstractionDocumentWrong : ChangeSpec := { name := "abstractionDocument", fn := fun _ => fun
  | [d1, d2] => { results := [.lit (.bool false)], args := [d1, d2] }
  | _ => none }
def AbstractionDocumentWrongFalsely : Prop := abstractionDocumentRow.holds Tryz.pinned (OpenSpec.ofChange abstractionDocumentWrong)

/- THE SECOND FORM. 'bulk': how many values and letters a reading holds, each counted each time it is reached (what is shared counts as often as it is met; a slice's spare places count too). A statement '..UptoSaid' is the law's where the arguments, and the package variables that the reading takes, are together of bulk at most 1048576: NARROWER than '..Said'. Prove '..Said' where nothing that the law and all that it calls make is longer than what came in: it says more and counts as full. Else prove '..UptoSaid'. A law counts once. -/
mutual
def uptoBulk {H : Type} : DataW H → Nat
  | .lit (.string bytes) => bytes.length + 1
  | .lit _ => 1
  | .nil => 1
  | .ptr d => uptoBulk d + 1
  | .slice elems spare => uptoBulkAll elems + uptoBulkAll spare + 1
  | .agg parts => uptoBulkAll parts + 1
  | .iface _ d => uptoBulk d + 1
  | .map entries => uptoBulkEntries entries + 1
  | .held _ => 1
def uptoBulkAll {H : Type} : List (DataW H) → Nat
  | [] => 0
  | d :: r => uptoBulk d + uptoBulkAll r
def uptoBulkEntries {H : Type} : List (Lit × DataW H) → Nat
  | [] => 0
  | x :: r => uptoBulkEntry x + uptoBulkEntries r
def uptoBulkEntry {H : Type} : Lit × DataW H → Nat
  | (.string bytes, d) => bytes.length + uptoBulk d + 1
  | (_, d) => uptoBulk d + 1
 end
def uptoSmall : (H : Type) → List (DataW H) → Bool := fun _ ds => decide (uptoBulkAll ds ≤ 1048576)
def OpenSpec.upto (s : _root_.Go.ChangeSpec) : _root_.Go.OpenSpec := { _root_.Go.OpenSpec.ofChange s with cond := some uptoSmall }

/-- 'evergreenlaw07.AbstractionMatchesReference', WHERE WHAT IT READS IS OF BULK AT MOST 1048576: true; the input reads as it did. -/
def abstractionMatchesReferenceUptoRow : OpenClaim := { program := "ytblllibdahkgfaagreatdoor", sum := "4b8c4de1fda16aa0159cae0e3ff28cb53dc59f348c4fb9b1ed97954c7a122cf1", func := "evergreen/evergreenlaw07.AbstractionMatchesReference", spec := "abstractionMatchesReference", inPlace := ["internal/abi.NoEscape", "internal/bytealg.MakeNoZero", "internal/bytealg.IndexByteString", "internal/bytealg.IndexString", "internal/bytealg.CountString"], unfollowed := true, recurses := true, named := ["unicode/utf8.first", "unicode/utf8.acceptRanges", "unicode.CaseRanges", "internal/bytealg.MaxLen"], apart := false, laid := [("unicode/utf8.acceptRanges", laid_unicode_utf8_acceptRanges), ("unicode.CaseRanges", laid_unicode_CaseRanges), ("unicode/utf8.first", laid_unicode_utf8_first)], narrowed := true }
def AbstractionMatchesReferenceUptoSaid : Prop := abstractionMatchesReferenceUptoRow.holds Tryz.pinned (OpenSpec.upto abstractionMatchesReferenceSpec)

/-- 'evergreenlaw07.AbstractionApplyMatchesReference', WHERE WHAT IT READS IS OF BULK AT MOST 1048576: true; the input reads as it did. -/
def abstractionApplyMatchesReferenceUptoRow : OpenClaim := { program := "ytblllibdahkgfaagreatdoor", sum := "4b8c4de1fda16aa0159cae0e3ff28cb53dc59f348c4fb9b1ed97954c7a122cf1", func := "evergreen/evergreenlaw07.AbstractionApplyMatchesReference", spec := "abstractionApplyMatchesReference", inPlace := ["internal/abi.NoEscape", "internal/bytealg.MakeNoZero", "internal/bytealg.IndexByteString", "internal/bytealg.IndexString", "internal/bytealg.CountString"], unfollowed := true, recurses := true, named := ["unicode/utf8.first", "unicode/utf8.acceptRanges", "unicode.CaseRanges", "internal/bytealg.MaxLen"], apart := false, laid := [("unicode/utf8.acceptRanges", laid_unicode_utf8_acceptRanges), ("unicode.CaseRanges", laid_unicode_CaseRanges), ("unicode/utf8.first", laid_unicode_utf8_first)], narrowed := true }
def AbstractionApplyMatchesReferenceUptoSaid : Prop := abstractionApplyMatchesReferenceUptoRow.holds Tryz.pinned (OpenSpec.upto abstractionApplyMatchesReferenceSpec)

/-- 'evergreenlaw07.AbstractionCompose', WHERE WHAT IT READS IS OF BULK AT MOST 1048576: true; the input reads as it did. -/
def abstractionComposeUptoRow : OpenClaim := { program := "ytblllibdahkgfaagreatdoor", sum := "4b8c4de1fda16aa0159cae0e3ff28cb53dc59f348c4fb9b1ed97954c7a122cf1", func := "evergreen/evergreenlaw07.AbstractionCompose", spec := "abstractionCompose", inPlace := ["internal/abi.NoEscape", "internal/bytealg.MakeNoZero", "internal/bytealg.IndexByteString", "internal/bytealg.IndexString", "internal/bytealg.CountString"], unfollowed := true, recurses := true, named := ["unicode/utf8.first", "unicode/utf8.acceptRanges", "unicode.CaseRanges", "internal/bytealg.MaxLen"], apart := false, laid := [("unicode/utf8.acceptRanges", laid_unicode_utf8_acceptRanges), ("unicode.CaseRanges", laid_unicode_CaseRanges), ("unicode/utf8.first", laid_unicode_utf8_first)], narrowed := true }
def AbstractionComposeUptoSaid : Prop := abstractionComposeUptoRow.holds Tryz.pinned (OpenSpec.upto abstractionComposeSpec)

/-- 'evergreenlaw07.AbstractionNormal', WHERE WHAT IT READS IS OF BULK AT MOST 1048576: true; the input reads as it did. -/
def abstractionNormalUptoRow : OpenClaim := { program := "ytblllibdahkgfaagreatdoor", sum := "4b8c4de1fda16aa0159cae0e3ff28cb53dc59f348c4fb9b1ed97954c7a122cf1", func := "evergreen/evergreenlaw07.AbstractionNormal", spec := "abstractionNormal", inPlace := ["internal/abi.NoEscape", "internal/bytealg.MakeNoZero", "internal/bytealg.IndexByteString", "internal/bytealg.IndexString", "internal/bytealg.CountString"], unfollowed := true, recurses := true, named := ["unicode/utf8.first", "unicode/utf8.acceptRanges", "unicode.CaseRanges", "internal/bytealg.MaxLen"], apart := false, laid := [("unicode/utf8.acceptRanges", laid_unicode_utf8_acceptRanges), ("unicode.CaseRanges", laid_unicode_CaseRanges), ("unicode/utf8.first", laid_unicode_utf8_first)], narrowed := true }
def AbstractionNormalUptoSaid : Prop := abstractionNormalUptoRow.holds Tryz.pinned (OpenSpec.upto abstractionNormalSpec)

/-- 'evergreenlaw07.AbstractionCoarser', WHERE WHAT IT READS IS OF BULK AT MOST 1048576: true; the input reads as it did. -/
def abstractionCoarserUptoRow : OpenClaim := { program := "ytblllibdahkgfaagreatdoor", sum := "4b8c4de1fda16aa0159cae0e3ff28cb53dc59f348c4fb9b1ed97954c7a122cf1", func := "evergreen/evergreenlaw07.AbstractionCoarser", spec := "abstractionCoarser", inPlace := ["internal/abi.NoEscape", "internal/bytealg.MakeNoZero", "internal/bytealg.IndexByteString", "internal/bytealg.IndexString", "internal/bytealg.CountString"], unfollowed := true, recurses := true, named := ["unicode/utf8.first", "unicode/utf8.acceptRanges", "unicode.CaseRanges", "internal/bytealg.MaxLen"], apart := false, laid := [("unicode/utf8.acceptRanges", laid_unicode_utf8_acceptRanges), ("unicode.CaseRanges", laid_unicode_CaseRanges), ("unicode/utf8.first", laid_unicode_utf8_first)], narrowed := true }
def AbstractionCoarserUptoSaid : Prop := abstractionCoarserUptoRow.holds Tryz.pinned (OpenSpec.upto abstractionCoarserSpec)

/-- 'evergreenlaw07.AbstractionExactly', WHERE WHAT IT READS IS OF BULK AT MOST 1048576: true; the input reads as it did. -/
def abstractionExactlyUptoRow : OpenClaim := { program := "ytblllibdahkgfaagreatdoor", sum := "4b8c4de1fda16aa0159cae0e3ff28cb53dc59f348c4fb9b1ed97954c7a122cf1", func := "evergreen/evergreenlaw07.AbstractionExactly", spec := "abstractionExactly", inPlace := ["internal/abi.NoEscape", "internal/bytealg.MakeNoZero", "internal/bytealg.IndexByteString", "internal/bytealg.IndexString", "internal/bytealg.CountString"], unfollowed := true, recurses := true, named := ["unicode/utf8.first", "unicode/utf8.acceptRanges", "unicode.CaseRanges", "internal/bytealg.MaxLen"], apart := false, laid := [("unicode/utf8.acceptRanges", laid_unicode_utf8_acceptRanges), ("unicode.CaseRanges", laid_unicode_CaseRanges), ("unicode/utf8.first", laid_unicode_utf8_first)], narrowed := true }
def AbstractionExactlyUptoSaid : Prop := abstractionExactlyUptoRow.holds Tryz.pinned (OpenSpec.upto abstractionExactlySpec)

/-- 'evergreenlaw07.AbstractionEach', WHERE WHAT IT READS IS OF BULK AT MOST 1048576: true; the input reads as it did. -/
def abstractionEachUptoRow : OpenClaim := { program := "ytblllibdahkgfaagreatdoor", sum := "4b8c4de1fda16aa0159cae0e3ff28cb53dc59f348c4fb9b1ed97954c7a122cf1", func := "evergreen/evergreenlaw07.AbstractionEach", spec := "abstractionEach", inPlace := ["internal/abi.NoEscape", "internal/bytealg.MakeNoZero", "internal/bytealg.IndexByteString", "internal/bytealg.IndexString", "internal/bytealg.CountString"], unfollowed := true, recurses := true, named := ["unicode/utf8.first", "unicode/utf8.acceptRanges", "unicode.CaseRanges", "internal/bytealg.MaxLen"], apart := false, laid := [("unicode/utf8.acceptRanges", laid_unicode_utf8_acceptRanges), ("unicode.CaseRanges", laid_unicode_CaseRanges), ("unicode/utf8.first", laid_unicode_utf8_first)], narrowed := true }
def AbstractionEachUptoSaid : Prop := abstractionEachUptoRow.holds Tryz.pinned (OpenSpec.upto abstractionEachSpec)

/-- 'evergreenlaw07.AbstractionDocument', WHERE WHAT IT READS IS OF BULK AT MOST 1048576: true; the input reads as it did. -/
def abstractionDocumentUptoRow : OpenClaim := { program := "ytblllibdahkgfaagreatdoor", sum := "4b8c4de1fda16aa0159cae0e3ff28cb53dc59f348c4fb9b1ed97954c7a122cf1", func := "evergreen/evergreenlaw07.AbstractionDocument", spec := "abstractionDocument", inPlace := ["internal/abi.NoEscape", "internal/bytealg.MakeNoZero", "internal/bytealg.IndexByteString", "internal/bytealg.IndexString", "internal/bytealg.CountString"], unfollowed := true, recurses := true, named := ["unicode/utf8.first", "unicode/utf8.acceptRanges", "unicode.CaseRanges", "internal/bytealg.MaxLen"], apart := false, laid := [("unicode/utf8.acceptRanges", laid_unicode_utf8_acceptRanges), ("unicode.CaseRanges", laid_unicode_CaseRanges), ("unicode/utf8.first", laid_unicode_utf8_first)], narrowed := true }
def AbstractionDocumentUptoSaid : Prop := abstractionDocumentUptoRow.holds Tryz.pinned (OpenSpec.upto abstractionDocumentSpec)

end Rows
end Go.Proofs.YtblllibdahkgfaaGreatDoor
