/-
  No cell of these rows narrows 'for every input' (looked for: loops, veiled, ifaces, maps, wideKeys, modest, calm, conditions, laid).
  DERIVED. THE GIVEN ROWS OF THIS SEAT. 5 by the template 'for every input the law returns true; each argument reads behind the call as it read before'; 0 by the template 'total and deterministic' (their statements: YtmioondgjolaoaaTotals.lean).
  GIVEN WITH THE SEED: the statements are not yours to turn. If you find one false, say at which input.
  Laid BY PROGRAM, IN A SANDBOX (cutbox-rows.mjs): the forced cells as the released guide's own fill.sh prints them over the translation 6c9a15c7eb99c195… (all of the seat's roots in one cut). By AI agents, Wed Nov 11 2026. No macro, syntax, notation, axiom, sorry.
-/
import Derived.Test.YtmioondgjolaoaaChecked
import GoSem.Claim
import GoSem.ClaimJoined
import GoSem.ClaimMapViews
import Derived.JoinedTies
import Derived.KernelRfl
namespace Go.Proofs.Ytmioondgjolaoaa
/- THE CELL 'sum', in the pinned program and in every row, IS THE sha256 OF THE DUMP (.gsa) THAT YtmioondgjolaoaaProg.lean LOADS. Nothing in Lean hashes anything: it is a label: what it is worth is what the hold of that sum in a sandbox is worth. -/
noncomputable def Try.pinned : Pinned := { name := "ytmioondgjolaoaa", sum := "6c9a15c7eb99c195afc1bde2d195f384358aa53d0b0771368b23b31c19ec9e8f", checked := Try.checked }
namespace Rows
def none {H : Type} : Left H := { results := [], args := [] }

/-- 'bandplanlaw03.RandomNumbers': WHATEVER THE INPUT: true; the input reads as it did. -/
def randomNumbersSpec : ChangeSpec := { name := "randomNumbers", fn := fun _ => fun
  | [d1, d2] => { results := [.lit (.bool true)], args := [d1, d2] }
  | _ => none }
def randomNumbersRow : OpenClaim := { program := "ytmioondgjolaoaa", sum := "6c9a15c7eb99c195afc1bde2d195f384358aa53d0b0771368b23b31c19ec9e8f", func := "bandplan/bandplanlaw03.RandomNumbers", spec := "randomNumbers", named := ["math/bits.divideError", "math/bits.overflowError"], apart := false }
def RandomNumbersSaid : Prop := randomNumbersRow.holds Try.pinned (OpenSpec.ofChange randomNumbersSpec)

/-- ITS FALSE NEIGHBOUR: 'it returns false'. Refute it at one input. -/
def randomNumbersWrong : ChangeSpec := { name := "randomNumbers", fn := fun _ => fun
  | [d1, d2] => { results := [.lit (.bool false)], args := [d1, d2] }
  | _ => none }
def RandomNumbersWrongFalsely : Prop := randomNumbersRow.holds Try.pinned (OpenSpec.ofChange randomNumbersWrong)

/-- 'bandplanlaw03.RandomAgain': WHATEVER THE INPUT: true; the input reads as it did. -/
def randomAgainSpec : ChangeSpec := { name := "randomAgain", fn := fun _ => fun
  | [d1, d2, d3, d4] => { results := [.lit (.bool true)], args := [d1, d2, d3, d4] }
  | _ => none }
def randomAgainRow : OpenClaim := { program := "ytmioondgjolaoaa", sum := "6c9a15c7eb99c195afc1bde2d195f384358aa53d0b0771368b23b31c19ec9e8f", func := "bandplan/bandplanlaw03.RandomAgain", spec := "randomAgain", named := ["math/bits.divideError", "math/bits.overflowError"], apart := false }
def RandomAgainSaid : Prop := randomAgainRow.holds Try.pinned (OpenSpec.ofChange randomAgainSpec)

/-- ITS FALSE NEIGHBOUR: 'it returns false'. Refute it at one input. -/
def randomAgainWrong : ChangeSpec := { name := "randomAgain", fn := fun _ => fun
  | [d1, d2, d3, d4] => { results := [.lit (.bool false)], args := [d1, d2, d3, d4] }
  | _ => none }
def RandomAgainWrongFalsely : Prop := randomAgainRow.holds Try.pinned (OpenSpec.ofChange randomAgainWrong)

/-- 'bandplanlaw03.RandomShuffles': WHATEVER THE INPUT: true; the input reads as it did. -/
def randomShufflesSpec : ChangeSpec := { name := "randomShuffles", fn := fun _ => fun
  | [d1, d2] => { results := [.lit (.bool true)], args := [d1, d2] }
  | _ => none }
def randomShufflesRow : OpenClaim := { program := "ytmioondgjolaoaa", sum := "6c9a15c7eb99c195afc1bde2d195f384358aa53d0b0771368b23b31c19ec9e8f", func := "bandplan/bandplanlaw03.RandomShuffles", spec := "randomShuffles", named := ["math/bits.divideError", "math/bits.overflowError"], apart := false }
def RandomShufflesSaid : Prop := randomShufflesRow.holds Try.pinned (OpenSpec.ofChange randomShufflesSpec)

/-- ITS FALSE NEIGHBOUR: 'it returns false'. Refute it at one input. -/
def randomShufflesWrong : ChangeSpec := { name := "randomShuffles", fn := fun _ => fun
  | [d1, d2] => { results := [.lit (.bool false)], args := [d1, d2] }
  | _ => none }
def RandomShufflesWrongFalsely : Prop := randomShufflesRow.holds Try.pinned (OpenSpec.ofChange randomShufflesWrong)

/-- 'bandplanlaw03.RandomPlays': WHATEVER THE INPUT: true; the input reads as it did. -/
def randomPlaysSpec : ChangeSpec := { name := "randomPlays", fn := fun _ => fun
  | [d1, d2] => { results := [.lit (.bool true)], args := [d1, d2] }
  | _ => none }
def randomPlaysRow : OpenClaim := { program := "ytmioondgjolaoaa", sum := "6c9a15c7eb99c195afc1bde2d195f384358aa53d0b0771368b23b31c19ec9e8f", func := "bandplan/bandplanlaw03.RandomPlays", spec := "randomPlays", unfollowed := true, recurses := true, named := ["math/bits.divideError", "math/bits.overflowError"], apart := false }
def RandomPlaysSaid : Prop := randomPlaysRow.holds Try.pinned (OpenSpec.ofChange randomPlaysSpec)

/-- ITS FALSE NEIGHBOUR: 'it returns false'. Refute it at one input. -/
def randomPlaysWrong : ChangeSpec := { name := "randomPlays", fn := fun _ => fun
  | [d1, d2] => { results := [.lit (.bool false)], args := [d1, d2] }
  | _ => none }
def RandomPlaysWrongFalsely : Prop := randomPlaysRow.holds Try.pinned (OpenSpec.ofChange randomPlaysWrong)

/-- 'bandplanlaw03.RandomNone': WHATEVER THE INPUT: true; the input reads as it did. -/
def randomNoneSpec : ChangeSpec := { name := "randomNone", fn := fun _ => fun
  | [d] => { results := [.lit (.bool true)], args := [d] }
  | _ => none }
def randomNoneRow : OpenClaim := { program := "ytmioondgjolaoaa", sum := "6c9a15c7eb99c195afc1bde2d195f384358aa53d0b0771368b23b31c19ec9e8f", func := "bandplan/bandplanlaw03.RandomNone", spec := "randomNone", unfollowed := true, recurses := true, named := ["math/bits.divideError", "math/bits.overflowError"], apart := false }
def RandomNoneSaid : Prop := randomNoneRow.holds Try.pinned (OpenSpec.ofChange randomNoneSpec)

/-- ITS FALSE NEIGHBOUR: 'it returns false'. Refute it at one input. -/
def randomNoneWrong : ChangeSpec := { name := "randomNone", fn := fun _ => fun
  | [d] => { results := [.lit (.bool false)], args := [d] }
  | _ => none }
def RandomNoneWrongFalsely : Prop := randomNoneRow.holds Try.pinned (OpenSpec.ofChange randomNoneWrong)

/- THE SECOND FORM. 'bulk': how many values and letters a reading holds, each counted each time it is reached (what is shared counts as often as it is met; a slice's spare places count too). A statement '..UptoSaid' is the law's where the arguments, and the package variables that the reading takes, are together of bulk at most 1048576: NARROWER than '..Said'. Prove '..Said' where nothing that the law and all that it calls make is longer than what came in: it says more and counts as full. Else prove '..UptoSaid'. A law counts once. -/
mutual
def uptoBulk {H : Type} : DataW H → Nat
  | .lit (.string bytes) => bytes.length + 1
  | .lit _ => 1
  | .nil => 1
  | .ptr d => uptoBulk d + 1
  | .slice elems spare => uptoBulkAll elems + uptoBulkAll spare + 1
  | .agg parts => uptoBulkAll parts + 1
  | .iface _ d => uptoBulk d + 1
  | .map entries => uptoBulkEntries entries + 1
  | .held _ => 1
def uptoBulkAll {H : Type} : List (DataW H) → Nat
  | [] => 0
  | d :: r => uptoBulk d + uptoBulkAll r
def uptoBulkEntries {H : Type} : List (Lit × DataW H) → Nat
  | [] => 0
  | x :: r => uptoBulkEntry x + uptoBulkEntries r
def uptoBulkEntry {H : Type} : Lit × DataW H → Nat
  | (.string bytes, d) => bytes.length + uptoBulk d + 1
  | (_, d) => uptoBulk d + 1
 end
def uptoSmall : (H : Type) → List (DataW H) → Bool := fun _ ds => decide (uptoBulkAll ds ≤ 1048576)
def OpenSpec.upto (s : _root_.Go.ChangeSpec) : _root_.Go.OpenSpec := { _root_.Go.OpenSpec.ofChange s with cond := some uptoSmall }

/-- 'bandplanlaw03.RandomNumbers', WHERE WHAT IT READS IS OF BULK AT MOST 1048576: true; the input reads as it did. -/
def randomNumbersUptoRow : OpenClaim := { program := "ytmioondgjolaoaa", sum := "6c9a15c7eb99c195afc1bde2d195f384358aa53d0b0771368b23b31c19ec9e8f", func := "bandplan/bandplanlaw03.RandomNumbers", spec := "randomNumbers", named := ["math/bits.divideError", "math/bits.overflowError"], apart := false, narrowed := true }
def RandomNumbersUptoSaid : Prop := randomNumbersUptoRow.holds Try.pinned (OpenSpec.upto randomNumbersSpec)

/-- 'bandplanlaw03.RandomAgain', WHERE WHAT IT READS IS OF BULK AT MOST 1048576: true; the input reads as it did. -/
def randomAgainUptoRow : OpenClaim := { program := "ytmioondgjolaoaa", sum := "6c9a15c7eb99c195afc1bde2d195f384358aa53d0b0771368b23b31c19ec9e8f", func := "bandplan/bandplanlaw03.RandomAgain", spec := "randomAgain", named := ["math/bits.divideError", "math/bits.overflowError"], apart := false, narrowed := true }
def RandomAgainUptoSaid : Prop := randomAgainUptoRow.holds Try.pinned (OpenSpec.upto randomAgainSpec)

/-- 'bandplanlaw03.RandomShuffles', WHERE WHAT IT READS IS OF BULK AT MOST 1048576: true; the input reads as it did. -/
def randomShufflesUptoRow : OpenClaim := { program := "ytmioondgjolaoaa", sum := "6c9a15c7eb99c195afc1bde2d195f384358aa53d0b0771368b23b31c19ec9e8f", func := "bandplan/bandplanlaw03.RandomShuffles", spec := "randomShuffles", named := ["math/bits.divideError", "math/bits.overflowError"], apart := false, narrowed := true }
def RandomShufflesUptoSaid : Prop := randomShufflesUptoRow.holds Try.pinned (OpenSpec.upto randomShufflesSpec)

/-- 'bandplanlaw03.RandomPlays', WHERE WHAT IT READS IS OF BULK AT MOST 1048576: true; the input reads as it did. -/
def randomPlaysUptoRow : OpenClaim := { program := "ytmioondgjolaoaa", sum := "6c9a15c7eb99c195afc1bde2d195f384358aa53d0b0771368b23b31c19ec9e8f", func := "bandplan/bandplanlaw03.RandomPlays", spec := "randomPlays", unfollowed := true, recurses := true, named := ["math/bits.divideError", "math/bits.overflowError"], apart := false, narrowed := true }
def RandomPlaysUptoSaid : Prop := randomPlaysUptoRow.holds Try.pinned (OpenSpec.upto randomPlaysSpec)

/-- 'bandplanlaw03.RandomNone', WHERE WHAT IT READS IS OF BULK AT MOST 1048576: true; the input reads as it did. -/
def randomNoneUptoRow : OpenClaim := { program := "ytmioondgjolaoaa", sum := "6c9a15c7eb99c195afc1bde2d195f384358aa53d0b0771368b23b31c19ec9e8f", func := "bandplan/bandplanlaw03.RandomNone", spec := "randomNone", unfollowed := true, recurses := true, named := ["math/bits.divideError", "math/bits.overflowError"], apart := false, narrowed := true }
def RandomNoneUptoSaid : Prop := randomNoneUptoRow.holds Try.pinned (OpenSpec.upto randomNoneSpec)

end Rows
end Go.Proofs.Ytmioondgjolaoaa
