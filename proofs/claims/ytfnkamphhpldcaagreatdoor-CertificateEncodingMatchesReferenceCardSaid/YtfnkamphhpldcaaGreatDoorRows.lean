/-
  NARROWER THAN 'FOR EVERY INPUT', by the rows' own cells (each row's printed sentence says how): CertificateTrue: laid · CertificateMatchesReference: laid · CertificateMakeMatchesReference: laid · CertificateEncodingMatchesReference: laid · CertificateMigrated: laid · CertificateChain: laid · CertificateGrouped: laid · CertificateBinding: laid · CertificateBack: laid.
  DERIVED. THE GIVEN ROWS OF THIS SEAT. 9 by the template 'for every input the law returns true; each argument reads behind the call as it read before'; 0 by the template 'total and deterministic' (their statements: YtfnkamphhpldcaaGreatDoorTotals.lean).
  GIVEN WITH THE SEED: the statements are not yours to turn. If you find one false, say at which input.
  Laid BY PROGRAM, IN A SANDBOX (cutbox-rows.mjs): the forced cells as the released guide's own fill.sh prints them over the translation 5053d718ed686e11… (all of the seat's roots in one cut). By AI agents, Wed Nov 11 2026. No macro, syntax, notation, axiom, sorry.
-/
import Derived.Test.YtfnkamphhpldcaaGreatDoorChecked
import GoSem.PinnedTables
import GoSem.Claim
import GoSem.ClaimJoined
import GoSem.ClaimMapViews
import Derived.JoinedTies
import Derived.KernelRfl
namespace Go.Proofs.YtfnkamphhpldcaaGreatDoor
/- THE CELL 'sum', in the pinned program and in every row, IS THE sha256 OF THE DUMP (.gsa) THAT YtfnkamphhpldcaaGreatDoorProg.lean LOADS. Nothing in Lean hashes anything: it is a label: what it is worth is what the hold of that sum in a sandbox is worth. -/
noncomputable def Tryz.pinned : Pinned := { name := "ytfnkamphhpldcaagreatdoor", sum := "5053d718ed686e11c6644954a5b7abe7d2b7af72e3aadba75ec6175e15d4061b", checked := Tryz.checked }
namespace Rows
def none {H : Type} : Left H := { results := [], args := [] }

/- WHAT THE LISTED PACKAGE-LEVEL VARIABLES READ AS WHEN THE CALL BEGINS. Each datum BY PROGRAM (the guide's laid-datum.mjs) off the statement by which the dump's own 'gosem.cut.vars' lays the variable. In a bare row this is a premise. The card (YtfnkamphhpldcaaGreatDoorCards.lean) ties it to the program's text. -/
def laid_unicode_utf8_acceptRanges {H : Type} : DataW H := .agg [.agg [.lit (.int .u8 128), .lit (.int .u8 191)], .agg [.lit (.int .u8 160), .lit (.int .u8 191)], .agg [.lit (.int .u8 128), .lit (.int .u8 159)], .agg [.lit (.int .u8 144), .lit (.int .u8 191)], .agg [.lit (.int .u8 128), .lit (.int .u8 143)], .agg [.lit (.int .u8 0), .lit (.int .u8 0)], .agg [.lit (.int .u8 0), .lit (.int .u8 0)], .agg [.lit (.int .u8 0), .lit (.int .u8 0)], .agg [.lit (.int .u8 0), .lit (.int .u8 0)], .agg [.lit (.int .u8 0), .lit (.int .u8 0)], .agg [.lit (.int .u8 0), .lit (.int .u8 0)], .agg [.lit (.int .u8 0), .lit (.int .u8 0)], .agg [.lit (.int .u8 0), .lit (.int .u8 0)], .agg [.lit (.int .u8 0), .lit (.int .u8 0)], .agg [.lit (.int .u8 0), .lit (.int .u8 0)], .agg [.lit (.int .u8 0), .lit (.int .u8 0)]]
def laid_evergreen_digest_round {H : Type} : DataW H := .agg [.lit (.int .u32 1116352408), .lit (.int .u32 1899447441), .lit (.int .u32 3049323471), .lit (.int .u32 3921009573), .lit (.int .u32 961987163), .lit (.int .u32 1508970993), .lit (.int .u32 2453635748), .lit (.int .u32 2870763221), .lit (.int .u32 3624381080), .lit (.int .u32 310598401), .lit (.int .u32 607225278), .lit (.int .u32 1426881987), .lit (.int .u32 1925078388), .lit (.int .u32 2162078206), .lit (.int .u32 2614888103), .lit (.int .u32 3248222580), .lit (.int .u32 3835390401), .lit (.int .u32 4022224774), .lit (.int .u32 264347078), .lit (.int .u32 604807628), .lit (.int .u32 770255983), .lit (.int .u32 1249150122), .lit (.int .u32 1555081692), .lit (.int .u32 1996064986), .lit (.int .u32 2554220882), .lit (.int .u32 2821834349), .lit (.int .u32 2952996808), .lit (.int .u32 3210313671), .lit (.int .u32 3336571891), .lit (.int .u32 3584528711), .lit (.int .u32 113926993), .lit (.int .u32 338241895), .lit (.int .u32 666307205), .lit (.int .u32 773529912), .lit (.int .u32 1294757372), .lit (.int .u32 1396182291), .lit (.int .u32 1695183700), .lit (.int .u32 1986661051), .lit (.int .u32 2177026350), .lit (.int .u32 2456956037), .lit (.int .u32 2730485921), .lit (.int .u32 2820302411), .lit (.int .u32 3259730800), .lit (.int .u32 3345764771), .lit (.int .u32 3516065817), .lit (.int .u32 3600352804), .lit (.int .u32 4094571909), .lit (.int .u32 275423344), .lit (.int .u32 430227734), .lit (.int .u32 506948616), .lit (.int .u32 659060556), .lit (.int .u32 883997877), .lit (.int .u32 958139571), .lit (.int .u32 1322822218), .lit (.int .u32 1537002063), .lit (.int .u32 1747873779), .lit (.int .u32 1955562222), .lit (.int .u32 2024104815), .lit (.int .u32 2227730452), .lit (.int .u32 2361852424), .lit (.int .u32 2428436474), .lit (.int .u32 2756734187), .lit (.int .u32 3204031479), .lit (.int .u32 3329325298)]
/-- One of Go's own tables, pinned by name: the form's constant. -/
def laid_unicode_CaseRanges : DataW Unit := Go.Pinned.caseRanges
/-- One of Go's own tables, pinned by name: the form's constant. -/
def laid_unicode_utf8_first : DataW Unit := Go.Pinned.utf8First

/-- 'evergreenlaw10.CertificateTrue': WHATEVER THE INPUT: true; the input reads as it did. -/
def certificateTrueSpec : ChangeSpec := { name := "certificateTrue", fn := fun _ => fun
  | [d1, d2, d3, d4] => { results := [.lit (.bool true)], args := [d1, d2, d3, d4] }
  | _ => none }
def certificateTrueRow : OpenClaim := { program := "ytfnkamphhpldcaagreatdoor", sum := "5053d718ed686e11c6644954a5b7abe7d2b7af72e3aadba75ec6175e15d4061b", func := "evergreen/evergreenlaw10.CertificateTrue", spec := "certificateTrue", inPlace := ["internal/abi.NoEscape", "internal/bytealg.MakeNoZero", "internal/bytealg.IndexByteString", "internal/bytealg.IndexString", "internal/bytealg.CountString", "internal/reflectlite.TypeOf"], unfollowed := true, recurses := true, named := ["unicode/utf8.first", "unicode/utf8.acceptRanges", "unicode.CaseRanges", "internal/bytealg.MaxLen", "evergreen/digest.round"], apart := false, laid := [("unicode/utf8.acceptRanges", laid_unicode_utf8_acceptRanges), ("evergreen/digest.round", laid_evergreen_digest_round), ("unicode.CaseRanges", laid_unicode_CaseRanges), ("unicode/utf8.first", laid_unicode_utf8_first)] }
def CertificateTrueSaid : Prop := certificateTrueRow.holds Tryz.pinned (OpenSpec.ofChange certificateTrueSpec)

/-- ITS FALSE NEIGHBOUR: 'it returns false'. Refute it at one input. -/
def certificateTrueWrong : ChangeSpec := { name := "certificateTrue", fn := fun _ => fun
  | [d1, d2, d3, d4] => { results := [.lit (.bool false)], args := [d1, d2, d3, d4] }
  | _ => none }
def CertificateTrueWrongFalsely : Prop := certificateTrueRow.holds Tryz.pinned (OpenSpec.ofChange certificateTrueWrong)

/-- 'evergreenlaw10.CertificateMatchesReference': WHATEVER THE INPUT: true; the input reads as it did. -/
def certificateMatchesReferenceSpec : ChangeSpec := { name := "certificateMatchesReference", fn := fun _ => fun
  | [d1, d2, d3, d4, d5] => { results := [.lit (.bool true)], args := [d1, d2, d3, d4, d5] }
  | _ => none }
def certificateMatchesReferenceRow : OpenClaim := { program := "ytfnkamphhpldcaagreatdoor", sum := "5053d718ed686e11c6644954a5b7abe7d2b7af72e3aadba75ec6175e15d4061b", func := "evergreen/evergreenlaw10.CertificateMatchesReference", spec := "certificateMatchesReference", inPlace := ["internal/abi.NoEscape", "internal/bytealg.MakeNoZero", "internal/bytealg.IndexByteString", "internal/bytealg.IndexString", "internal/bytealg.CountString", "internal/reflectlite.TypeOf"], unfollowed := true, recurses := true, named := ["unicode/utf8.first", "unicode/utf8.acceptRanges", "unicode.CaseRanges", "internal/bytealg.MaxLen", "evergreen/digest.round"], apart := false, laid := [("unicode/utf8.acceptRanges", laid_unicode_utf8_acceptRanges), ("evergreen/digest.round", laid_evergreen_digest_round), ("unicode.CaseRanges", laid_unicode_CaseRanges), ("unicode/utf8.first", laid_unicode_utf8_first)] }
def CertificateMatchesReferenceSaid : Prop := certificateMatchesReferenceRow.holds Tryz.pinned (OpenSpec.ofChange certificateMatchesReferenceSpec)

/-- ITS FALSE NEIGHBOUR: 'it returns false'. Refute it at one input. -/
def certificateMatchesReferenceWrong : ChangeSpec := { name := "certificateMatchesReference", fn := fun _ => fun
  | [d1, d2, d3, d4, d5] => { results := [.lit (.bool false)], args := [d1, d2, d3, d4, d5] }
  | _ => none }
def CertificateMatchesReferenceWrongFalsely : Prop := certificateMatchesReferenceRow.holds Tryz.pinned (OpenSpec.ofChange certificateMatchesReferenceWrong)

/-- 'evergreenlaw10.CertificateMakeMatchesReference': WHATEVER THE INPUT: true; the input reads as it did. -/
def certificateMakeMatchesReferenceSpec : ChangeSpec := { name := "certificateMakeMatchesReference", fn := fun _ => fun
  | [d1, d2, d3, d4] => { results := [.lit (.bool true)], args := [d1, d2, d3, d4] }
  | _ => none }
def certificateMakeMatchesReferenceRow : OpenClaim := { program := "ytfnkamphhpldcaagreatdoor", sum := "5053d718ed686e11c6644954a5b7abe7d2b7af72e3aadba75ec6175e15d4061b", func := "evergreen/evergreenlaw10.CertificateMakeMatchesReference", spec := "certificateMakeMatchesReference", inPlace := ["internal/abi.NoEscape", "internal/bytealg.MakeNoZero", "internal/bytealg.IndexByteString", "internal/bytealg.IndexString", "internal/bytealg.CountString", "internal/reflectlite.TypeOf"], unfollowed := true, recurses := true, named := ["unicode/utf8.first", "unicode/utf8.acceptRanges", "unicode.CaseRanges", "internal/bytealg.MaxLen", "evergreen/digest.round"], apart := false, laid := [("unicode/utf8.acceptRanges", laid_unicode_utf8_acceptRanges), ("evergreen/digest.round", laid_evergreen_digest_round), ("unicode.CaseRanges", laid_unicode_CaseRanges), ("unicode/utf8.first", laid_unicode_utf8_first)] }
def CertificateMakeMatchesReferenceSaid : Prop := certificateMakeMatchesReferenceRow.holds Tryz.pinned (OpenSpec.ofChange certificateMakeMatchesReferenceSpec)

/-- ITS FALSE NEIGHBOUR: 'it returns false'. Refute it at one input. -/
def certificateMakeMatchesReferenceWrong : ChangeSpec := { name := "certificateMakeMatchesReference", fn := fun _ => fun
  | [d1, d2, d3, d4] => { results := [.lit (.bool false)], args := [d1, d2, d3, d4] }
  | _ => none }
def CertificateMakeMatchesReferenceWrongFalsely : Prop := certificateMakeMatchesReferenceRow.holds Tryz.pinned (OpenSpec.ofChange certificateMakeMatchesReferenceWrong)

/-- 'evergreenlaw10.CertificateEncodingMatchesReference': WHATEVER THE INPUT: true; the input reads as it did. -/
def certificateEncodingMatchesReferenceSpec : ChangeSpec := { name := "certificateEncodingMatchesReference", fn := fun _ => fun
  | [d1, d2, d3, d4, d5] => { results := [.lit (.bool true)], args := [d1, d2, d3, d4, d5] }
  | _ => none }
def certificateEncodingMatchesReferenceRow : OpenClaim := { program := "ytfnkamphhpldcaagreatdoor", sum := "5053d718ed686e11c6644954a5b7abe7d2b7af72e3aadba75ec6175e15d4061b", func := "evergreen/evergreenlaw10.CertificateEncodingMatchesReference", spec := "certificateEncodingMatchesReference", inPlace := ["internal/abi.NoEscape", "internal/bytealg.MakeNoZero", "internal/bytealg.IndexByteString", "internal/bytealg.IndexString", "internal/bytealg.CountString", "internal/reflectlite.TypeOf"], unfollowed := true, recurses := true, named := ["unicode/utf8.first", "unicode/utf8.acceptRanges", "unicode.CaseRanges", "internal/bytealg.MaxLen", "evergreen/digest.round"], apart := false, laid := [("unicode/utf8.acceptRanges", laid_unicode_utf8_acceptRanges), ("evergreen/digest.round", laid_evergreen_digest_round), ("unicode.CaseRanges", laid_unicode_CaseRanges), ("unicode/utf8.first", laid_unicode_utf8_first)] }
def CertificateEncodingMatchesReferenceSaid : Prop := certificateEncodingMatchesReferenceRow.holds Tryz.pinned (OpenSpec.ofChange certificateEncodingMatchesReferenceSpec)

/-- ITS FALSE NEIGHBOUR: 'it returns false'. Refute it at one input. -/
def certificateEncodingMatchesReferenceWrong : ChangeSpec := { name := "certificateEncodingMatchesReference", fn := fun _ => fun
  | [d1, d2, d3, d4, d5] => { results := [.lit (.bool false)], args := [d1, d2, d3, d4, d5] }
  | _ => none }
def CertificateEncodingMatchesReferenceWrongFalsely : Prop := certificateEncodingMatchesReferenceRow.holds Tryz.pinned (OpenSpec.ofChange certificateEncodingMatchesReferenceWrong)

/-- 'evergreenlaw10.CertificateMigrated': WHATEVER THE INPUT: true; the input reads as it did. -/
def certificateMigratedSpec : ChangeSpec := { name := "certificateMigrated", fn := fun _ => fun
  | [d1, d2] => { results := [.lit (.bool true)], args := [d1, d2] }
  | _ => none }
def certificateMigratedRow : OpenClaim := { program := "ytfnkamphhpldcaagreatdoor", sum := "5053d718ed686e11c6644954a5b7abe7d2b7af72e3aadba75ec6175e15d4061b", func := "evergreen/evergreenlaw10.CertificateMigrated", spec := "certificateMigrated", inPlace := ["internal/abi.NoEscape", "internal/bytealg.MakeNoZero", "internal/bytealg.IndexByteString", "internal/bytealg.IndexString", "internal/bytealg.CountString", "internal/reflectlite.TypeOf"], unfollowed := true, recurses := true, named := ["unicode/utf8.first", "unicode/utf8.acceptRanges", "unicode.CaseRanges", "internal/bytealg.MaxLen", "evergreen/digest.round"], apart := false, laid := [("unicode/utf8.acceptRanges", laid_unicode_utf8_acceptRanges), ("evergreen/digest.round", laid_evergreen_digest_round), ("unicode.CaseRanges", laid_unicode_CaseRanges), ("unicode/utf8.first", laid_unicode_utf8_first)] }
def CertificateMigratedSaid : Prop := certificateMigratedRow.holds Tryz.pinned (OpenSpec.ofChange certificateMigratedSpec)

/-- ITS FALSE NEIGHBOUR: 'it returns false'. Refute it at one input. -/
def certificateMigratedWrong : ChangeSpec := { name := "certificateMigrated", fn := fun _ => fun
  | [d1, d2] => { results := [.lit (.bool false)], args := [d1, d2] }
  | _ => none }
def CertificateMigratedWrongFalsely : Prop := certificateMigratedRow.holds Tryz.pinned (OpenSpec.ofChange certificateMigratedWrong)

/-- 'evergreenlaw10.CertificateChain': WHATEVER THE INPUT: true; the input reads as it did. -/
def certificateChainSpec : ChangeSpec := { name := "certificateChain", fn := fun _ => fun
  | [d] => { results := [.lit (.bool true)], args := [d] }
  | _ => none }
def certificateChainRow : OpenClaim := { program := "ytfnkamphhpldcaagreatdoor", sum := "5053d718ed686e11c6644954a5b7abe7d2b7af72e3aadba75ec6175e15d4061b", func := "evergreen/evergreenlaw10.CertificateChain", spec := "certificateChain", inPlace := ["internal/abi.NoEscape", "internal/bytealg.MakeNoZero", "internal/bytealg.IndexByteString", "internal/bytealg.IndexString", "internal/bytealg.CountString", "internal/reflectlite.TypeOf"], unfollowed := true, recurses := true, named := ["unicode/utf8.first", "unicode/utf8.acceptRanges", "unicode.CaseRanges", "internal/bytealg.MaxLen", "evergreen/digest.round"], apart := false, laid := [("unicode/utf8.acceptRanges", laid_unicode_utf8_acceptRanges), ("evergreen/digest.round", laid_evergreen_digest_round), ("unicode.CaseRanges", laid_unicode_CaseRanges), ("unicode/utf8.first", laid_unicode_utf8_first)] }
def CertificateChainSaid : Prop := certificateChainRow.holds Tryz.pinned (OpenSpec.ofChange certificateChainSpec)

/-- ITS FALSE NEIGHBOUR: 'it returns false'. Refute it at one input. -/
def certificateChainWrong : ChangeSpec := { name := "certificateChain", fn := fun _ => fun
  | [d] => { results := [.lit (.bool false)], args := [d] }
  | _ => none }
def CertificateChainWrongFalsely : Prop := certificateChainRow.holds Tryz.pinned (OpenSpec.ofChange certificateChainWrong)

/-- 'evergreenlaw10.CertificateGrouped': WHATEVER THE INPUT: true; the input reads as it did. -/
def certificateGroupedSpec : ChangeSpec := { name := "certificateGrouped", fn := fun _ => fun
  | [d1, d2, d3] => { results := [.lit (.bool true)], args := [d1, d2, d3] }
  | _ => none }
def certificateGroupedRow : OpenClaim := { program := "ytfnkamphhpldcaagreatdoor", sum := "5053d718ed686e11c6644954a5b7abe7d2b7af72e3aadba75ec6175e15d4061b", func := "evergreen/evergreenlaw10.CertificateGrouped", spec := "certificateGrouped", inPlace := ["internal/abi.NoEscape", "internal/bytealg.MakeNoZero", "internal/bytealg.IndexByteString", "internal/bytealg.IndexString", "internal/bytealg.CountString", "internal/reflectlite.TypeOf"], unfollowed := true, recurses := true, named := ["unicode/utf8.first", "unicode/utf8.acceptRanges", "unicode.CaseRanges", "internal/bytealg.MaxLen", "evergreen/digest.round"], apart := false, laid := [("unicode/utf8.acceptRanges", laid_unicode_utf8_acceptRanges), ("evergreen/digest.round", laid_evergreen_digest_round), ("unicode.CaseRanges", laid_unicode_CaseRanges), ("unicode/utf8.first", laid_unicode_utf8_first)] }
def CertificateGroupedSaid : Prop := certificateGroupedRow.holds Tryz.pinned (OpenSpec.ofChange certificateGroupedSpec)

/-- ITS FALSE NEIGHBOUR: 'it returns false'. Refute it at one input. -/
def certificateGroupedWrong : ChangeSpec := { name := "certificateGrouped", fn := fun _ => fun
  | [d1, d2, d3] => { results := [.lit (.bool false)], args := [d1, d2, d3] }
  | _ => none }
def CertificateGroupedWrongFalsely : Prop := certificateGroupedRow.holds Tryz.pinned (OpenSpec.ofChange certificateGroupedWrong)

/-- 'evergreenlaw10.CertificateBinding': WHATEVER THE INPUT: true; the input reads as it did. -/
def certificateBindingSpec : ChangeSpec := { name := "certificateBinding", fn := fun _ => fun
  | [d1, d2, d3, d4, d5] => { results := [.lit (.bool true)], args := [d1, d2, d3, d4, d5] }
  | _ => none }
def certificateBindingRow : OpenClaim := { program := "ytfnkamphhpldcaagreatdoor", sum := "5053d718ed686e11c6644954a5b7abe7d2b7af72e3aadba75ec6175e15d4061b", func := "evergreen/evergreenlaw10.CertificateBinding", spec := "certificateBinding", inPlace := ["internal/abi.NoEscape", "internal/bytealg.MakeNoZero", "internal/bytealg.IndexByteString", "internal/bytealg.IndexString", "internal/bytealg.CountString", "internal/reflectlite.TypeOf"], unfollowed := true, recurses := true, named := ["unicode/utf8.first", "unicode/utf8.acceptRanges", "unicode.CaseRanges", "internal/bytealg.MaxLen", "evergreen/digest.round"], apart := false, laid := [("unicode/utf8.acceptRanges", laid_unicode_utf8_acceptRanges), ("evergreen/digest.round", laid_evergreen_digest_round), ("unicode.CaseRanges", laid_unicode_CaseRanges), ("unicode/utf8.first", laid_unicode_utf8_first)] }
def CertificateBindingSaid : Prop := certificateBindingRow.holds Tryz.pinned (OpenSpec.ofChange certificateBindingSpec)

/-- ITS FALSE NEIGHBOUR: 'it returns false'. Refute it at one input. -/
def certificateBindingWrong : ChangeSpec := { name := "certificateBinding", fn := fun _ => fun
  | [d1, d2, d3, d4, d5] => { results := [.lit (.bool false)], args := [d1, d2, d3, d4, d5] }
  | _ => none }
def CertificateBindingWrongFalsely : Prop := certificateBindingRow.holds Tryz.pinned (OpenSpec.ofChange certificateBindingWrong)

/-- 'evergreenlaw10.CertificateBack': WHATEVER THE INPUT: true; the input reads as it did. -/
def certificateBackSpec : ChangeSpec := { name := "certificateBack", fn := fun _ => fun
  | [d1, d2] => { results := [.lit (.bool true)], args := [d1, d2] }
  | _ => none }
def certificateBackRow : OpenClaim := { program := "ytfnkamphhpldcaagreatdoor", sum := "5053d718ed686e11c6644954a5b7abe7d2b7af72e3aadba75ec6175e15d4061b", func := "evergreen/evergreenlaw10.CertificateBack", spec := "certificateBack", inPlace := ["internal/abi.NoEscape", "internal/bytealg.MakeNoZero", "internal/bytealg.IndexByteString", "internal/bytealg.IndexString", "internal/bytealg.CountString", "internal/reflectlite.TypeOf"], unfollowed := true, recurses := true, named := ["unicode/utf8.first", "unicode/utf8.acceptRanges", "unicode.CaseRanges", "internal/bytealg.MaxLen", "evergreen/digest.round"], apart := false, laid := [("unicode/utf8.acceptRanges", laid_unicode_utf8_acceptRanges), ("evergreen/digest.round", laid_evergreen_digest_round), ("unicode.CaseRanges", laid_unicode_CaseRanges), ("unicode/utf8.first", laid_unicode_utf8_first)] }
def CertificateBackSaid : Prop := certificateBackRow.holds Tryz.pinned (OpenSpec.ofChange certificateBackSpec)

/-- ITS FALSE NEIGHBOUR: 'it returns false'. Refute it at one input. -/
def certificateBackWrong : ChangeSpec := { name := "certificateBack", fn := fun _ => fun
  | [d1, d2] => { results := [.lit (.bool false)], args := [d1, d2] }
  | _ => none }
def CertificateBackWrongFalsely : Prop := certificateBackRow.holds Tryz.pinned (OpenSpec.ofChange certificateBackWrong)

/- THE SECOND FORM. 'bulk': how many values and letters a reading holds, each counted each time it is reached (what is shared counts as often as it is met; a slice's spare places count too). A statement '..UptoSaid' is the law's where the arguments, and the package variables that the reading takes, are together of bulk at most 1048576: NARROWER than '..Said'. Prove '..Said' where nothing that the law and all that it calls make is longer than what came in: it says more and counts as full. Else prove '..UptoSaid'. A law counts once. -/
mutual
def uptoBulk {H : Type} : DataW H → Nat
  | .lit (.string bytes) => bytes.length + 1
  | .lit _ => 1
  | .nil => 1
  | .ptr d => uptoBulk d + 1
  | .slice elems spare => uptoBulkAll elems + uptoBulkAll spare + 1
  | .agg parts => uptoBulkAll parts + 1
  | .iface _ d => uptoBulk d + 1
  | .map entries => uptoBulkEntries entries + 1
  | .held _ => 1
def uptoBulkAll {H : Type} : List (DataW H) → Nat
  | [] => 0
  | d :: r => uptoBulk d + uptoBulkAll r
def uptoBulkEntries {H : Type} : List (Lit × DataW H) → Nat
  | [] => 0
  | x :: r => uptoBulkEntry x + uptoBulkEntries r
def uptoBulkEntry {H : Type} : Lit × DataW H → Nat
  | (.string bytes, d) => bytes.length + uptoBulk d + 1
  | (_, d) => uptoBulk d + 1
 end
def uptoSmall : (H : Type) → List (DataW H) → Bool := fun _ ds => decide (uptoBulkAll ds ≤ 1048576)
def OpenSpec.upto (s : _root_.Go.ChangeSpec) : _root_.Go.OpenSpec := { _root_.Go.OpenSpec.ofChange s with cond := some uptoSmall }

/-- 'evergreenlaw10.CertificateTrue', WHERE WHAT IT READS IS OF BULK AT MOST 1048576: true; the input reads as it did. -/
def certificateTrueUptoRow : OpenClaim := { program := "ytfnkamphhpldcaagreatdoor", sum := "5053d718ed686e11c6644954a5b7abe7d2b7af72e3aadba75ec6175e15d4061b", func := "evergreen/evergreenlaw10.CertificateTrue", spec := "certificateTrue", inPlace := ["internal/abi.NoEscape", "internal/bytealg.MakeNoZero", "internal/bytealg.IndexByteString", "internal/bytealg.IndexString", "internal/bytealg.CountString", "internal/reflectlite.TypeOf"], unfollowed := true, recurses := true, named := ["unicode/utf8.first", "unicode/utf8.acceptRanges", "unicode.CaseRanges", "internal/bytealg.MaxLen", "evergreen/digest.round"], apart := false, laid := [("unicode/utf8.acceptRanges", laid_unicode_utf8_acceptRanges), ("evergreen/digest.round", laid_evergreen_digest_round), ("unicode.CaseRanges", laid_unicode_CaseRanges), ("unicode/utf8.first", laid_unicode_utf8_first)], narrowed := true }
def CertificateTrueUptoSaid : Prop := certificateTrueUptoRow.holds Tryz.pinned (OpenSpec.upto certificateTrueSpec)

/-- 'evergreenlaw10.CertificateMatchesReference', WHERE WHAT IT READS IS OF BULK AT MOST 1048576: true; the input reads as it did. -/
def certificateMatchesReferenceUptoRow : OpenClaim := { program := "ytfnkamphhpldcaagreatdoor", sum := "5053d718ed686e11c6644954a5b7abe7d2b7af72e3aadba75ec6175e15d4061b", func := "evergreen/evergreenlaw10.CertificateMatchesReference", spec := "certificateMatchesReference", inPlace := ["internal/abi.NoEscape", "internal/bytealg.MakeNoZero", "internal/bytealg.IndexByteString", "internal/bytealg.IndexString", "internal/bytealg.CountString", "internal/reflectlite.TypeOf"], unfollowed := true, recurses := true, named := ["unicode/utf8.first", "unicode/utf8.acceptRanges", "unicode.CaseRanges", "internal/bytealg.MaxLen", "evergreen/digest.round"], apart := false, laid := [("unicode/utf8.acceptRanges", laid_unicode_utf8_acceptRanges), ("evergreen/digest.round", laid_evergreen_digest_round), ("unicode.CaseRanges", laid_unicode_CaseRanges), ("unicode/utf8.first", laid_unicode_utf8_first)], narrowed := true }
def CertificateMatchesReferenceUptoSaid : Prop := certificateMatchesReferenceUptoRow.holds Tryz.pinned (OpenSpec.upto certificateMatchesReferenceSpec)

/-- 'evergreenlaw10.CertificateMakeMatchesReference', WHERE WHAT IT READS IS OF BULK AT MOST 1048576: true; the input reads as it did. -/
def certificateMakeMatchesReferenceUptoRow : OpenClaim := { program := "ytfnkamphhpldcaagreatdoor", sum := "5053d718ed686e11c6644954a5b7abe7d2b7af72e3aadba75ec6175e15d4061b", func := "evergreen/evergreenlaw10.CertificateMakeMatchesReference", spec := "certificateMakeMatchesReference", inPlace := ["internal/abi.NoEscape", "internal/bytealg.MakeNoZero", "internal/bytealg.IndexByteString", "internal/bytealg.IndexString", "internal/bytealg.CountString", "internal/reflectlite.TypeOf"], unfollowed := true, recurses := true, named := ["unicode/utf8.first", "unicode/utf8.acceptRanges", "unicode.CaseRanges", "internal/bytealg.MaxLen", "evergreen/digest.round"], apart := false, laid := [("unicode/utf8.acceptRanges", laid_unicode_utf8_acceptRanges), ("evergreen/digest.round", laid_evergreen_digest_round), ("unicode.CaseRanges", laid_unicode_CaseRanges), ("unicode/utf8.first", laid_unicode_utf8_first)], narrowed := true }
def CertificateMakeMatchesReferenceUptoSaid : Prop := certificateMakeMatchesReferenceUptoRow.holds Tryz.pinned (OpenSpec.upto certificateMakeMatchesReferenceSpec)

/-- 'evergreenlaw10.CertificateEncodingMatchesReference', WHERE WHAT IT READS IS OF BULK AT MOST 1048576: true; the input reads as it did. -/
def certificateEncodingMatchesReferenceUptoRow : OpenClaim := { program := "ytfnkamphhpldcaagreatdoor", sum := "5053d718ed686e11c6644954a5b7abe7d2b7af72e3aadba75ec6175e15d4061b", func := "evergreen/evergreenlaw10.CertificateEncodingMatchesReference", spec := "certificateEncodingMatchesReference", inPlace := ["internal/abi.NoEscape", "internal/bytealg.MakeNoZero", "internal/bytealg.IndexByteString", "internal/bytealg.IndexString", "internal/bytealg.CountString", "internal/reflectlite.TypeOf"], unfollowed := true, recurses := true, named := ["unicode/utf8.first", "unicode/utf8.acceptRanges", "unicode.CaseRanges", "internal/bytealg.MaxLen", "evergreen/digest.round"], apart := false, laid := [("unicode/utf8.acceptRanges", laid_unicode_utf8_acceptRanges), ("evergreen/digest.round", laid_evergreen_digest_round), ("unicode.CaseRanges", laid_unicode_CaseRanges), ("unicode/utf8.first", laid_unicode_utf8_first)], narrowed := true }
def CertificateEncodingMatchesReferenceUptoSaid : Prop := certificateEncodingMatchesReferenceUptoRow.holds Tryz.pinned (OpenSpec.upto certificateEncodingMatchesReferenceSpec)

/-- 'evergreenlaw10.CertificateMigrated', WHERE WHAT IT READS IS OF BULK AT MOST 1048576: true; the input reads as it did. -/
def certificateMigratedUptoRow : OpenClaim := { program := "ytfnkamphhpldcaagreatdoor", sum := "5053d718ed686e11c6644954a5b7abe7d2b7af72e3aadba75ec6175e15d4061b", func := "evergreen/evergreenlaw10.CertificateMigrated", spec := "certificateMigrated", inPlace := ["internal/abi.NoEscape", "internal/bytealg.MakeNoZero", "internal/bytealg.IndexByteString", "internal/bytealg.IndexString", "internal/bytealg.CountString", "internal/reflectlite.TypeOf"], unfollowed := true, recurses := true, named := ["unicode/utf8.first", "unicode/utf8.acceptRanges", "unicode.CaseRanges", "internal/bytealg.MaxLen", "evergreen/digest.round"], apart := false, laid := [("unicode/utf8.acceptRanges", laid_unicode_utf8_acceptRanges), ("evergreen/digest.round", laid_evergreen_digest_round), ("unicode.CaseRanges", laid_unicode_CaseRanges), ("unicode/utf8.first", laid_unicode_utf8_first)], narrowed := true }
def CertificateMigratedUptoSaid : Prop := certificateMigratedUptoRow.holds Tryz.pinned (OpenSpec.upto certificateMigratedSpec)

/-- 'evergreenlaw10.CertificateChain', WHERE WHAT IT READS IS OF BULK AT MOST 1048576: true; the input reads as it did. -/
def certificateChainUptoRow : OpenClaim := { program := "ytfnkamphhpldcaagreatdoor", sum := "5053d718ed686e11c6644954a5b7abe7d2b7af72e3aadba75ec6175e15d4061b", func := "evergreen/evergreenlaw10.CertificateChain", spec := "certificateChain", inPlace := ["internal/abi.NoEscape", "internal/bytealg.MakeNoZero", "internal/bytealg.IndexByteString", "internal/bytealg.IndexString", "internal/bytealg.CountString", "internal/reflectlite.TypeOf"], unfollowed := true, recurses := true, named := ["unicode/utf8.first", "unicode/utf8.acceptRanges", "unicode.CaseRanges", "internal/bytealg.MaxLen", "evergreen/digest.round"], apart := false, laid := [("unicode/utf8.acceptRanges", laid_unicode_utf8_acceptRanges), ("evergreen/digest.round", laid_evergreen_digest_round), ("unicode.CaseRanges", laid_unicode_CaseRanges), ("unicode/utf8.first", laid_unicode_utf8_first)], narrowed := true }
def CertificateChainUptoSaid : Prop := certificateChainUptoRow.holds Tryz.pinned (OpenSpec.upto certificateChainSpec)

/-- 'evergreenlaw10.CertificateGrouped', WHERE WHAT IT READS IS OF BULK AT MOST 1048576: true; the input reads as it did. -/
def certificateGroupedUptoRow : OpenClaim := { program := "ytfnkamphhpldcaagreatdoor", sum := "5053d718ed686e11c6644954a5b7abe7d2b7af72e3aadba75ec6175e15d4061b", func := "evergreen/evergreenlaw10.CertificateGrouped", spec := "certificateGrouped", inPlace := ["internal/abi.NoEscape", "internal/bytealg.MakeNoZero", "internal/bytealg.IndexByteString", "internal/bytealg.IndexString", "internal/bytealg.CountString", "internal/reflectlite.TypeOf"], unfollowed := true, recurses := true, named := ["unicode/utf8.first", "unicode/utf8.acceptRanges", "unicode.CaseRanges", "internal/bytealg.MaxLen", "evergreen/digest.round"], apart := false, laid := [("unicode/utf8.acceptRanges", laid_unicode_utf8_acceptRanges), ("evergreen/digest.round", laid_evergreen_digest_round), ("unicode.CaseRanges", laid_unicode_CaseRanges), ("unicode/utf8.first", laid_unicode_utf8_first)], narrowed := true }
def CertificateGroupedUptoSaid : Prop := certificateGroupedUptoRow.holds Tryz.pinned (OpenSpec.upto certificateGroupedSpec)

/-- 'evergreenlaw10.CertificateBinding', WHERE WHAT IT READS IS OF BULK AT MOST 1048576: true; the input reads as it did. -/
def certificateBindingUptoRow : OpenClaim := { program := "ytfnkamphhpldcaagreatdoor", sum := "5053d718ed686e11c6644954a5b7abe7d2b7af72e3aadba75ec6175e15d4061b", func := "evergreen/evergreenlaw10.CertificateBinding", spec := "certificateBinding", inPlace := ["internal/abi.NoEscape", "internal/bytealg.MakeNoZero", "internal/bytealg.IndexByteString", "internal/bytealg.IndexString", "internal/bytealg.CountString", "internal/reflectlite.TypeOf"], unfollowed := true, recurses := true, named := ["unicode/utf8.first", "unicode/utf8.acceptRanges", "unicode.CaseRanges", "internal/bytealg.MaxLen", "evergreen/digest.round"], apart := false, laid := [("unicode/utf8.acceptRanges", laid_unicode_utf8_acceptRanges), ("evergreen/digest.round", laid_evergreen_digest_round), ("unicode.CaseRanges", laid_unicode_CaseRanges), ("unicode/utf8.first", laid_unicode_utf8_first)], narrowed := true }
def CertificateBindingUptoSaid : Prop := certificateBindingUptoRow.holds Tryz.pinned (OpenSpec.upto certificateBindingSpec)

/-- 'evergreenlaw10.CertificateBack', WHERE WHAT IT READS IS OF BULK AT MOST 1048576: true; the input reads as it did. -/
def certificateBackUptoRow : OpenClaim := { program := "ytfnkamphhpldcaagreatdoor", sum := "5053d718ed686e11c6644954a5b7abe7d2b7af72e3aadba75ec6175e15d4061b", func := "evergreen/evergreenlaw10.CertificateBack", spec := "certificateBack", inPlace := ["internal/abi.NoEscape", "internal/bytealg.MakeNoZero", "internal/bytealg.IndexByteString", "internal/bytealg.IndexString", "internal/bytealg.CountString", "internal/reflectlite.TypeOf"], unfollowed := true, recurses := true, named := ["unicode/utf8.first", "unicode/utf8.acceptRanges", "unicode.CaseRanges", "internal/bytealg.MaxLen", "evergreen/digest.round"], apart := false, laid := [("unicode/utf8.acceptRanges", laid_unicode_utf8_acceptRanges), ("evergreen/digest.round", laid_evergreen_digest_round), ("unicode.CaseRanges", laid_unicode_CaseRanges), ("unicode/utf8.first", laid_unicode_utf8_first)], narrowed := true }
def CertificateBackUptoSaid : Prop := certificateBackUptoRow.holds Tryz.pinned (OpenSpec.upto certificateBackSpec)

end Rows
end Go.Proofs.YtfnkamphhpldcaaGreatDoor
