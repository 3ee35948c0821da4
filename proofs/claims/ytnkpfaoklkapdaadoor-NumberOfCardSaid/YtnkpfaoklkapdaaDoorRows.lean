/-
  NARROWER THAN 'FOR EVERY INPUT', by the rows' own cells (each row's printed sentence says how): NumberOf: laid · NumberPowers: laid · NumberTexts: laid · NumberReads: laid · NumberDivides: laid · NumberValid: laid · NumberSums: laid · NumberRing: laid.
  DERIVED. THE GIVEN ROWS OF THIS SEAT. 8 by the template 'for every input the law returns true; each argument reads behind the call as it read before'; 0 by the template 'total and deterministic' (their statements: YtnkpfaoklkapdaaDoorTotals.lean).
  GIVEN WITH THE SEED: the statements are not yours to turn. If you find one false, say at which input.
  Laid BY PROGRAM, IN A SANDBOX (cutbox-rows.mjs): the forced cells as the released guide's own fill.sh prints them over the translation 21cb7bc53638e8b2… (all of the seat's roots in one cut). By AI agents, Wed Nov 11 2026. No macro, syntax, notation, axiom, sorry.
-/
import Derived.Test.YtnkpfaoklkapdaaDoorChecked
import GoSem.PinnedTables
import GoSem.Claim
import GoSem.ClaimJoined
import GoSem.ClaimMapViews
import Derived.JoinedTies
import Derived.KernelRfl
namespace Go.Proofs.YtnkpfaoklkapdaaDoor
/- THE CELL 'sum', in the pinned program and in every row, IS THE sha256 OF THE DUMP (.gsa) THAT YtnkpfaoklkapdaaDoorProg.lean LOADS. Nothing in Lean hashes anything: it is a label: what it is worth is what the hold of that sum in a sandbox is worth. -/
noncomputable def Tryd.pinned : Pinned := { name := "ytnkpfaoklkapdaadoor", sum := "21cb7bc53638e8b25b9cf616060ae140170cb65f6902ddeb4f29e6610676a9e6", checked := Tryd.checked }
namespace Rows
def none {H : Type} : Left H := { results := [], args := [] }

/- WHAT THE LISTED PACKAGE-LEVEL VARIABLES READ AS WHEN THE CALL BEGINS. Each datum BY PROGRAM (the guide's laid-datum.mjs) off the statement by which the dump's own 'gosem.cut.vars' lays the variable. In a bare row this is a premise. The card (YtnkpfaoklkapdaaDoorCards.lean) ties it to the program's text. -/
def laid_unicode_utf8_acceptRanges {H : Type} : DataW H := .agg [.agg [.lit (.int .u8 128), .lit (.int .u8 191)], .agg [.lit (.int .u8 160), .lit (.int .u8 191)], .agg [.lit (.int .u8 128), .lit (.int .u8 159)], .agg [.lit (.int .u8 144), .lit (.int .u8 191)], .agg [.lit (.int .u8 128), .lit (.int .u8 143)], .agg [.lit (.int .u8 0), .lit (.int .u8 0)], .agg [.lit (.int .u8 0), .lit (.int .u8 0)], .agg [.lit (.int .u8 0), .lit (.int .u8 0)], .agg [.lit (.int .u8 0), .lit (.int .u8 0)], .agg [.lit (.int .u8 0), .lit (.int .u8 0)], .agg [.lit (.int .u8 0), .lit (.int .u8 0)], .agg [.lit (.int .u8 0), .lit (.int .u8 0)], .agg [.lit (.int .u8 0), .lit (.int .u8 0)], .agg [.lit (.int .u8 0), .lit (.int .u8 0)], .agg [.lit (.int .u8 0), .lit (.int .u8 0)], .agg [.lit (.int .u8 0), .lit (.int .u8 0)]]
/-- One of Go's own tables, pinned by name: the form's constant. -/
def laid_unicode_utf8_first : DataW Unit := Go.Pinned.utf8First

/-- 'bandplanlaw01.NumberOf': WHATEVER THE INPUT: true; the input reads as it did. -/
def numberOfSpec : ChangeSpec := { name := "numberOf", fn := fun _ => fun
  | [d] => { results := [.lit (.bool true)], args := [d] }
  | _ => none }
def numberOfRow : OpenClaim := { program := "ytnkpfaoklkapdaadoor", sum := "21cb7bc53638e8b25b9cf616060ae140170cb65f6902ddeb4f29e6610676a9e6", func := "bandplan/bandplanlaw01.NumberOf", spec := "numberOf", inPlace := ["internal/bytealg.IndexByteString", "internal/bytealg.IndexString"], unfollowed := true, recurses := true, named := ["unicode/utf8.first", "unicode/utf8.acceptRanges", "internal/bytealg.MaxLen"], apart := false, laid := [("unicode/utf8.acceptRanges", laid_unicode_utf8_acceptRanges), ("unicode/utf8.first", laid_unicode_utf8_first)] }
def NumberOfSaid : Prop := numberOfRow.holds Tryd.pinned (OpenSpec.ofChange numberOfSpec)

/-- ITS FALSE NEIGHBOUR: 'it returns false'. Refute it at one input. -/
def numberOfWrong : ChangeSpec := { name := "numberOf", fn := fun _ => fun
  | [d] => { results := [.lit (.bool false)], args := [d] }
  | _ => none }
def NumberOfWrongFalsely : Prop := numberOfRow.holds Tryd.pinned (OpenSpec.ofChange numberOfWrong)

/-- 'bandplanlaw01.NumberPowers': WHATEVER THE INPUT: true; the input reads as it did. -/
def numberPowersSpec : ChangeSpec := { name := "numberPowers", fn := fun _ => fun
  | [d1, d2] => { results := [.lit (.bool true)], args := [d1, d2] }
  | _ => none }
def numberPowersRow : OpenClaim := { program := "ytnkpfaoklkapdaadoor", sum := "21cb7bc53638e8b25b9cf616060ae140170cb65f6902ddeb4f29e6610676a9e6", func := "bandplan/bandplanlaw01.NumberPowers", spec := "numberPowers", inPlace := ["internal/bytealg.IndexByteString", "internal/bytealg.IndexString"], unfollowed := true, recurses := true, named := ["unicode/utf8.first", "unicode/utf8.acceptRanges", "internal/bytealg.MaxLen"], apart := false, laid := [("unicode/utf8.acceptRanges", laid_unicode_utf8_acceptRanges), ("unicode/utf8.first", laid_unicode_utf8_first)] }
def NumberPowersSaid : Prop := numberPowersRow.holds Tryd.pinned (OpenSpec.ofChange numberPowersSpec)

/-- ITS FALSE NEIGHBOUR: 'it returns false'. Refute it at one input. -/
def numberPowersWrong : ChangeSpec := { name := "numberPowers", fn := fun _ => fun
  | [d1, d2] => { results := [.lit (.bool false)], args := [d1, d2] }
  | _ => none }
def NumberPowersWrongFalsely : Prop := numberPowersRow.holds Tryd.pinned (OpenSpec.ofChange numberPowersWrong)

/-- 'bandplanlaw01.NumberTexts': WHATEVER THE INPUT: true; the input reads as it did. -/
def numberTextsSpec : ChangeSpec := { name := "numberTexts", fn := fun _ => fun
  | [d] => { results := [.lit (.bool true)], args := [d] }
  | _ => none }
def numberTextsRow : OpenClaim := { program := "ytnkpfaoklkapdaadoor", sum := "21cb7bc53638e8b25b9cf616060ae140170cb65f6902ddeb4f29e6610676a9e6", func := "bandplan/bandplanlaw01.NumberTexts", spec := "numberTexts", inPlace := ["internal/bytealg.IndexByteString", "internal/bytealg.IndexString"], unfollowed := true, recurses := true, named := ["unicode/utf8.first", "unicode/utf8.acceptRanges", "internal/bytealg.MaxLen"], apart := false, laid := [("unicode/utf8.acceptRanges", laid_unicode_utf8_acceptRanges), ("unicode/utf8.first", laid_unicode_utf8_first)] }
def NumberTextsSaid : Prop := numberTextsRow.holds Tryd.pinned (OpenSpec.ofChange numberTextsSpec)

/-- ITS FALSE NEIGHBOUR: 'it returns false'. Refute it at one input. -/
def numberTextsWrong : ChangeSpec := { name := "numberTexts", fn := fun _ => fun
  | [d] => { results := [.lit (.bool false)], args := [d] }
  | _ => none }
def NumberTextsWrongFalsely : Prop := numberTextsRow.holds Tryd.pinned (OpenSpec.ofChange numberTextsWrong)

/-- 'bandplanlaw01.NumberReads': WHATEVER THE INPUT: true; the input reads as it did. -/
def numberReadsSpec : ChangeSpec := { name := "numberReads", fn := fun _ => fun
  | [d] => { results := [.lit (.bool true)], args := [d] }
  | _ => none }
def numberReadsRow : OpenClaim := { program := "ytnkpfaoklkapdaadoor", sum := "21cb7bc53638e8b25b9cf616060ae140170cb65f6902ddeb4f29e6610676a9e6", func := "bandplan/bandplanlaw01.NumberReads", spec := "numberReads", inPlace := ["internal/bytealg.IndexByteString", "internal/bytealg.IndexString"], unfollowed := true, recurses := true, named := ["unicode/utf8.first", "unicode/utf8.acceptRanges", "internal/bytealg.MaxLen"], apart := false, laid := [("unicode/utf8.acceptRanges", laid_unicode_utf8_acceptRanges), ("unicode/utf8.first", laid_unicode_utf8_first)] }
def NumberReadsSaid : Prop := numberReadsRow.holds Tryd.pinned (OpenSpec.ofChange numberReadsSpec)

/-- ITS FALSE NEIGHBOUR: 'it returns false'. Refute it at one input. -/
def numberReadsWrong : ChangeSpec := { name := "numberReads", fn := fun _ => fun
  | [d] => { results := [.lit (.bool false)], args := [d] }
  | _ => none }
def NumberReadsWrongFalsely : Prop := numberReadsRow.holds Tryd.pinned (OpenSpec.ofChange numberReadsWrong)

/-- 'bandplanlaw01.NumberDivides': WHATEVER THE INPUT: true; the input reads as it did. -/
def numberDividesSpec : ChangeSpec := { name := "numberDivides", fn := fun _ => fun
  | [d1, d2] => { results := [.lit (.bool true)], args := [d1, d2] }
  | _ => none }
def numberDividesRow : OpenClaim := { program := "ytnkpfaoklkapdaadoor", sum := "21cb7bc53638e8b25b9cf616060ae140170cb65f6902ddeb4f29e6610676a9e6", func := "bandplan/bandplanlaw01.NumberDivides", spec := "numberDivides", inPlace := ["internal/bytealg.IndexByteString", "internal/bytealg.IndexString"], unfollowed := true, recurses := true, named := ["unicode/utf8.first", "unicode/utf8.acceptRanges", "internal/bytealg.MaxLen"], apart := false, laid := [("unicode/utf8.acceptRanges", laid_unicode_utf8_acceptRanges), ("unicode/utf8.first", laid_unicode_utf8_first)] }
def NumberDividesSaid : Prop := numberDividesRow.holds Tryd.pinned (OpenSpec.ofChange numberDividesSpec)

/-- ITS FALSE NEIGHBOUR: 'it returns false'. Refute it at one input. -/
def numberDividesWrong : ChangeSpec := { name := "numberDivides", fn := fun _ => fun
  | [d1, d2] => { results := [.lit (.bool false)], args := [d1, d2] }
  | _ => none }
def NumberDividesWrongFalsely : Prop := numberDividesRow.holds Tryd.pinned (OpenSpec.ofChange numberDividesWrong)

/-- 'bandplanlaw01.NumberValid': WHATEVER THE INPUT: true; the input reads as it did. -/
def numberValidSpec : ChangeSpec := { name := "numberValid", fn := fun _ => fun
  | [d] => { results := [.lit (.bool true)], args := [d] }
  | _ => none }
def numberValidRow : OpenClaim := { program := "ytnkpfaoklkapdaadoor", sum := "21cb7bc53638e8b25b9cf616060ae140170cb65f6902ddeb4f29e6610676a9e6", func := "bandplan/bandplanlaw01.NumberValid", spec := "numberValid", inPlace := ["internal/bytealg.IndexByteString", "internal/bytealg.IndexString"], unfollowed := true, recurses := true, named := ["unicode/utf8.first", "unicode/utf8.acceptRanges", "internal/bytealg.MaxLen"], apart := false, laid := [("unicode/utf8.acceptRanges", laid_unicode_utf8_acceptRanges), ("unicode/utf8.first", laid_unicode_utf8_first)] }
def NumberValidSaid : Prop := numberValidRow.holds Tryd.pinned (OpenSpec.ofChange numberValidSpec)

/-- ITS FALSE NEIGHBOUR: 'it returns false'. Refute it at one input. -/
def numberValidWrong : ChangeSpec := { name := "numberValid", fn := fun _ => fun
  | [d] => { results := [.lit (.bool false)], args := [d] }
  | _ => none }
def NumberValidWrongFalsely : Prop := numberValidRow.holds Tryd.pinned (OpenSpec.ofChange numberValidWrong)

/-- 'bandplanlaw01.NumberSums': WHATEVER THE INPUT: true; the input reads as it did. -/
def numberSumsSpec : ChangeSpec := { name := "numberSums", fn := fun _ => fun
  | [d1, d2] => { results := [.lit (.bool true)], args := [d1, d2] }
  | _ => none }
def numberSumsRow : OpenClaim := { program := "ytnkpfaoklkapdaadoor", sum := "21cb7bc53638e8b25b9cf616060ae140170cb65f6902ddeb4f29e6610676a9e6", func := "bandplan/bandplanlaw01.NumberSums", spec := "numberSums", inPlace := ["internal/bytealg.IndexByteString", "internal/bytealg.IndexString"], unfollowed := true, recurses := true, named := ["unicode/utf8.first", "unicode/utf8.acceptRanges", "internal/bytealg.MaxLen"], apart := false, laid := [("unicode/utf8.acceptRanges", laid_unicode_utf8_acceptRanges), ("unicode/utf8.first", laid_unicode_utf8_first)] }
def NumberSumsSaid : Prop := numberSumsRow.holds Tryd.pinned (OpenSpec.ofChange numberSumsSpec)

/-- ITS FALSE NEIGHBOUR: 'it returns false'. Refute it at one input. -/
def numberSumsWrong : ChangeSpec := { name := "numberSums", fn := fun _ => fun
  | [d1, d2] => { results := [.lit (.bool false)], args := [d1, d2] }
  | _ => none }
def NumberSumsWrongFalsely : Prop := numberSumsRow.holds Tryd.pinned (OpenSpec.ofChange numberSumsWrong)

/-- 'bandplanlaw01.NumberRing': WHATEVER THE INPUT: true; the input reads as it did. -/
def numberRingSpec : ChangeSpec := { name := "numberRing", fn := fun _ => fun
  | [d1, d2, d3] => { results := [.lit (.bool true)], args := [d1, d2, d3] }
  | _ => none }
def numberRingRow : OpenClaim := { program := "ytnkpfaoklkapdaadoor", sum := "21cb7bc53638e8b25b9cf616060ae140170cb65f6902ddeb4f29e6610676a9e6", func := "bandplan/bandplanlaw01.NumberRing", spec := "numberRing", inPlace := ["internal/bytealg.IndexByteString", "internal/bytealg.IndexString"], unfollowed := true, recurses := true, named := ["unicode/utf8.first", "unicode/utf8.acceptRanges", "internal/bytealg.MaxLen"], apart := false, laid := [("unicode/utf8.acceptRanges", laid_unicode_utf8_acceptRanges), ("unicode/utf8.first", laid_unicode_utf8_first)] }
def NumberRingSaid : Prop := numberRingRow.holds Tryd.pinned (OpenSpec.ofChange numberRingSpec)

/-- ITS FALSE NEIGHBOUR: 'it returns false'. Refute it at one input. -/
def numberRingWrong : ChangeSpec := { name := "numberRing", fn := fun _ => fun
  | [d1, d2, d3] => { results := [.lit (.bool false)], args := [d1, d2, d3] }
  | _ => none }
def NumberRingWrongFalsely : Prop := numberRingRow.holds Tryd.pinned (OpenSpec.ofChange numberRingWrong)

/- THE SECOND FORM. 'bulk': how many values and letters a reading holds, each counted each time it is reached (what is shared counts as often as it is met; a slice's spare places count too). A statement '..UptoSaid' is the law's where the arguments, and the package variables that the reading takes, are together of bulk at most 1048576: NARROWER than '..Said'. Prove '..Said' where nothing that the law and all that it calls make is longer than what came in: it says more and counts as full. Else prove '..UptoSaid'. A law counts once. -/
mutual
def uptoBulk {H : Type} : DataW H → Nat
  | .lit (.string bytes) => bytes.length + 1
  | .lit _ => 1
  | .nil => 1
  | .ptr d => uptoBulk d + 1
  | .slice elems spare => uptoBulkAll elems + uptoBulkAll spare + 1
  | .agg parts => uptoBulkAll parts + 1
  | .iface _ d => uptoBulk d + 1
  | .map entries => uptoBulkEntries entries + 1
  | .held _ => 1
def uptoBulkAll {H : Type} : List (DataW H) → Nat
  | [] => 0
  | d :: r => uptoBulk d + uptoBulkAll r
def uptoBulkEntries {H : Type} : List (Lit × DataW H) → Nat
  | [] => 0
  | x :: r => uptoBulkEntry x + uptoBulkEntries r
def uptoBulkEntry {H : Type} : Lit × DataW H → Nat
  | (.string bytes, d) => bytes.length + uptoBulk d + 1
  | (_, d) => uptoBulk d + 1
 end
def uptoSmall : (H : Type) → List (DataW H) → Bool := fun _ ds => decide (uptoBulkAll ds ≤ 1048576)
def OpenSpec.upto (s : _root_.Go.ChangeSpec) : _root_.Go.OpenSpec := { _root_.Go.OpenSpec.ofChange s with cond := some uptoSmall }

/-- 'bandplanlaw01.NumberOf', WHERE WHAT IT READS IS OF BULK AT MOST 1048576: true; the input reads as it did. -/
def numberOfUptoRow : OpenClaim := { program := "ytnkpfaoklkapdaadoor", sum := "21cb7bc53638e8b25b9cf616060ae140170cb65f6902ddeb4f29e6610676a9e6", func := "bandplan/bandplanlaw01.NumberOf", spec := "numberOf", inPlace := ["internal/bytealg.IndexByteString", "internal/bytealg.IndexString"], unfollowed := true, recurses := true, named := ["unicode/utf8.first", "unicode/utf8.acceptRanges", "internal/bytealg.MaxLen"], apart := false, laid := [("unicode/utf8.acceptRanges", laid_unicode_utf8_acceptRanges), ("unicode/utf8.first", laid_unicode_utf8_first)], narrowed := true }
def NumberOfUptoSaid : Prop := numberOfUptoRow.holds Tryd.pinned (OpenSpec.upto numberOfSpec)

/-- 'bandplanlaw01.NumberPowers', WHERE WHAT IT READS IS OF BULK AT MOST 1048576: true; the input reads as it did. -/
def numberPowersUptoRow : OpenClaim := { program := "ytnkpfaoklkapdaadoor", sum := "21cb7bc53638e8b25b9cf616060ae140170cb65f6902ddeb4f29e6610676a9e6", func := "bandplan/bandplanlaw01.NumberPowers", spec := "numberPowers", inPlace := ["internal/bytealg.IndexByteString", "internal/bytealg.IndexString"], unfollowed := true, recurses := true, named := ["unicode/utf8.first", "unicode/utf8.acceptRanges", "internal/bytealg.MaxLen"], apart := false, laid := [("unicode/utf8.acceptRanges", laid_unicode_utf8_acceptRanges), ("unicode/utf8.first", laid_unicode_utf8_first)], narrowed := true }
def NumberPowersUptoSaid : Prop := numberPowersUptoRow.holds Tryd.pinned (OpenSpec.upto numberPowersSpec)

/-- 'bandplanlaw01.NumberTexts', WHERE WHAT IT READS IS OF BULK AT MOST 1048576: true; the input reads as it did. -/
def numberTextsUptoRow : OpenClaim := { program := "ytnkpfaoklkapdaadoor", sum := "21cb7bc53638e8b25b9cf616060ae140170cb65f6902ddeb4f29e6610676a9e6", func := "bandplan/bandplanlaw01.NumberTexts", spec := "numberTexts", inPlace := ["internal/bytealg.IndexByteString", "internal/bytealg.IndexString"], unfollowed := true, recurses := true, named := ["unicode/utf8.first", "unicode/utf8.acceptRanges", "internal/bytealg.MaxLen"], apart := false, laid := [("unicode/utf8.acceptRanges", laid_unicode_utf8_acceptRanges), ("unicode/utf8.first", laid_unicode_utf8_first)], narrowed := true }
def NumberTextsUptoSaid : Prop := numberTextsUptoRow.holds Tryd.pinned (OpenSpec.upto numberTextsSpec)

/-- 'bandplanlaw01.NumberReads', WHERE WHAT IT READS IS OF BULK AT MOST 1048576: true; the input reads as it did. -/
def numberReadsUptoRow : OpenClaim := { program := "ytnkpfaoklkapdaadoor", sum := "21cb7bc53638e8b25b9cf616060ae140170cb65f6902ddeb4f29e6610676a9e6", func := "bandplan/bandplanlaw01.NumberReads", spec := "numberReads", inPlace := ["internal/bytealg.IndexByteString", "internal/bytealg.IndexString"], unfollowed := true, recurses := true, named := ["unicode/utf8.first", "unicode/utf8.acceptRanges", "internal/bytealg.MaxLen"], apart := false, laid := [("unicode/utf8.acceptRanges", laid_unicode_utf8_acceptRanges), ("unicode/utf8.first", laid_unicode_utf8_first)], narrowed := true }
def NumberReadsUptoSaid : Prop := numberReadsUptoRow.holds Tryd.pinned (OpenSpec.upto numberReadsSpec)

/-- 'bandplanlaw01.NumberDivides', WHERE WHAT IT READS IS OF BULK AT MOST 1048576: true; the input reads as it did. -/
def numberDividesUptoRow : OpenClaim := { program := "ytnkpfaoklkapdaadoor", sum := "21cb7bc53638e8b25b9cf616060ae140170cb65f6902ddeb4f29e6610676a9e6", func := "bandplan/bandplanlaw01.NumberDivides", spec := "numberDivides", inPlace := ["internal/bytealg.IndexByteString", "internal/bytealg.IndexString"], unfollowed := true, recurses := true, named := ["unicode/utf8.first", "unicode/utf8.acceptRanges", "internal/bytealg.MaxLen"], apart := false, laid := [("unicode/utf8.acceptRanges", laid_unicode_utf8_acceptRanges), ("unicode/utf8.first", laid_unicode_utf8_first)], narrowed := true }
def NumberDividesUptoSaid : Prop := numberDividesUptoRow.holds Tryd.pinned (OpenSpec.upto numberDividesSpec)

/-- 'bandplanlaw01.NumberValid', WHERE WHAT IT READS IS OF BULK AT MOST 1048576: true; the input reads as it did. -/
def numberValidUptoRow : OpenClaim := { program := "ytnkpfaoklkapdaadoor", sum := "21cb7bc53638e8b25b9cf616060ae140170cb65f6902ddeb4f29e6610676a9e6", func := "bandplan/bandplanlaw01.NumberValid", spec := "numberValid", inPlace := ["internal/bytealg.IndexByteString", "internal/bytealg.IndexString"], unfollowed := true, recurses := true, named := ["unicode/utf8.first", "unicode/utf8.acceptRanges", "internal/bytealg.MaxLen"], apart := false, laid := [("unicode/utf8.acceptRanges", laid_unicode_utf8_acceptRanges), ("unicode/utf8.first", laid_unicode_utf8_first)], narrowed := true }
def NumberValidUptoSaid : Prop := numberValidUptoRow.holds Tryd.pinned (OpenSpec.upto numberValidSpec)

/-- 'bandplanlaw01.NumberSums', WHERE WHAT IT READS IS OF BULK AT MOST 1048576: true; the input reads as it did. -/
def numberSumsUptoRow : OpenClaim := { program := "ytnkpfaoklkapdaadoor", sum := "21cb7bc53638e8b25b9cf616060ae140170cb65f6902ddeb4f29e6610676a9e6", func := "bandplan/bandplanlaw01.NumberSums", spec := "numberSums", inPlace := ["internal/bytealg.IndexByteString", "internal/bytealg.IndexString"], unfollowed := true, recurses := true, named := ["unicode/utf8.first", "unicode/utf8.acceptRanges", "internal/bytealg.MaxLen"], apart := false, laid := [("unicode/utf8.acceptRanges", laid_unicode_utf8_acceptRanges), ("unicode/utf8.first", laid_unicode_utf8_first)], narrowed := true }
def NumberSumsUptoSaid : Prop := numberSumsUptoRow.holds Tryd.pinned (OpenSpec.upto numberSumsSpec)

/-- 'bandplanlaw01.NumberRing', WHERE WHAT IT READS IS OF BULK AT MOST 1048576: true; the input reads as it did. -/
def numberRingUptoRow : OpenClaim := { program := "ytnkpfaoklkapdaadoor", sum := "21cb7bc53638e8b25b9cf616060ae140170cb65f6902ddeb4f29e6610676a9e6", func := "bandplan/bandplanlaw01.NumberRing", spec := "numberRing", inPlace := ["internal/bytealg.IndexByteString", "internal/bytealg.IndexString"], unfollowed := true, recurses := true, named := ["unicode/utf8.first", "unicode/utf8.acceptRanges", "internal/bytealg.MaxLen"], apart := false, laid := [("unicode/utf8.acceptRanges", laid_unicode_utf8_acceptRanges), ("unicode/utf8.first", laid_unicode_utf8_first)], narrowed := true }
def NumberRingUptoSaid : Prop := numberRingUptoRow.holds Tryd.pinned (OpenSpec.upto numberRingSpec)

end Rows
end Go.Proofs.YtnkpfaoklkapdaaDoor
