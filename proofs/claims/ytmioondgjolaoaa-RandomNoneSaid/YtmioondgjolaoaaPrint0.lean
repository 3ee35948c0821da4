-- Written by a program of this session (a turned copy of the kit's printer). Lean checks it.
import Derived.Test.YtmioondgjolaoaaProg
import Derived.Below
import Derived.Deep.Draws
import Derived.Deep.AppendLies
import Derived.Maps.AppendAt
import Derived.OwnWalk
import Derived.Laws.BytesArg
import Derived.Laws.MakeOwn
import Derived.Laws.OwnMore
import Derived.Deep.OwnRows
import Derived.Tactics
import Derived.Lib.ConvBytes
import Derived.Laws.Slices
import Derived.WalkKit
import Derived.KernelRfl
import Derived.RowKit3
import Derived.Deep.LoopGhost
import Derived.Deep.QuietTactic
import Derived.BigQuiet
import Derived.WideLaws
import Derived.Deep.DeepCutAuto
import Derived.Deep.CutBlock
import Derived.Deep.RegionHeld3
import Derived.Laws.Rows
import Derived.Lib.AppendStr
import Derived.ArgAppend
import Derived.Laws.IdiomCopy
import Derived.OrdersHeld
import Derived.Laws.BitsLemmas
import Derived.RowKit
import Derived.Test.YtmioondgjolaoaaWWords
import Derived.Test.YtmioondgjolaoaaWLast
import Derived.Test.YtmioondgjolaoaaWTab
import Derived.Test.YtmioondgjolaoaaWFour
import Derived.Test.YtmioondgjolaoaaWQPut
import Derived.Test.YtmioondgjolaoaaWApart
import Derived.Test.YtmioondgjolaoaaWArr
import Derived.Test.YtmioondgjolaoaaWZeros
import Derived.Test.YtmioondgjolaoaaWFoot
import Derived.Test.YtmioondgjolaoaaWKept
import Derived.Test.YtmioondgjolaoaaWShare
import Derived.Test.YtmioondgjolaoaaWN
import Derived.Test.YtmioondgjolaoaaWFootNe
import Derived.Test.YtmioondgjolaoaaWAt
import Derived.Test.YtmioondgjolaoaaWEqStruct
import Derived.Test.YtmioondgjolaoaaWRepsOne
import Derived.Test.YtmioondgjolaoaaWInv
import Derived.Test.YtmioondgjolaoaaWInvWords
import Derived.Test.YtmioondgjolaoaaWGuard
import Derived.Test.YtmioondgjolaoaaWNEv
import Derived.Test.YtmioondgjolaoaaWMore
namespace Go.Proofs.Ytmioondgjolaoaa.Print
open Go.RowKit Go.Proofs.YtmioondgjolaoaaW.PrintWords Go.Proofs.YtmioondgjolaoaaW.PrintLast Go.Proofs.YtmioondgjolaoaaW.PrintMore
attribute [local go_sem] max2_int min2_int max_two min_two max_three min_three max_four min_four   -- for this text's walks alone
set_option linter.unusedVariables false
set_option linter.unusedSimpArgs false



def errW : Option Int → Value
  | none => .nilIface
  | some c => .iface 0 (.int .i64 c)
theorem errW_none : errW none = .nilIface := rfl
theorem errW_some (c : Int) : errW (some c) = .iface 0 (.int .i64 c) := rfl

theorem info3 : (Try.prog.info? 3).map (fun i => (i.zero, i.size, i.bytes)) = some (some (.int .i64 0), 1, 8) := by kernel_rfl
-- the values' own types

end Go.Proofs.Ytmioondgjolaoaa.Print
