/- The declarations of Rwx0 that the claim Qc needs. -/
import Derived.Test.YtdpolfflemocaaaProg
import Derived.Below
import Derived.Deep.Draws
import Derived.Deep.AppendLies
import Derived.Maps.AppendAt
import Derived.OwnWalk
import Derived.Laws.BytesArg
import Derived.Laws.MakeOwn
import Derived.Laws.OwnMore
import Derived.Deep.OwnRows
import Derived.Tactics
import Derived.Lib.ConvBytes
import Derived.Laws.Slices
import Derived.WalkKit
import Derived.KernelRfl
import Derived.RowKit3
import Derived.Deep.LoopGhost
import Derived.Deep.QuietTactic
import Derived.BigQuiet
import Derived.WideLaws
import Derived.Deep.DeepCutAuto
import Derived.Deep.CutBlock
import Derived.Deep.RegionHeld3
import Derived.Laws.Rows
import Derived.Lib.AppendStr
import Derived.ArgAppend
import Derived.Laws.IdiomCopy
import Derived.OrdersHeld
import Derived.Laws.BitsLemmas
import Derived.RowKit
import Derived.Test.YtdpolfflemocaaaQcRxx2
import Derived.Test.YtdpolfflemocaaaQcRxx14
import Derived.Test.YtdpolfflemocaaaQcTkP
import Derived.Test.YtdpolfflemocaaaQcRex0
import Derived.Test.YtdpolfflemocaaaQcRmp
import Derived.Test.YtdpolfflemocaaaQcWWords
import Derived.Test.YtdpolfflemocaaaQcWLast
import Derived.Test.YtdpolfflemocaaaQcWTab
import Derived.Test.YtdpolfflemocaaaQcWApart
import Derived.Test.YtdpolfflemocaaaQcWFoot
import Derived.Test.YtdpolfflemocaaaQcWKept
import Derived.Test.YtdpolfflemocaaaQcWShare
import Derived.Test.YtdpolfflemocaaaQcWN
import Derived.Test.YtdpolfflemocaaaQcWEqStruct
import Derived.Test.YtdpolfflemocaaaQcWRepsOne
import Derived.Test.YtdpolfflemocaaaQcWInv
import Derived.Test.YtdpolfflemocaaaQcWGuard
import Derived.Test.YtdpolfflemocaaaQcWNEv
import Derived.Test.YtdpolfflemocaaaQcWMore
namespace Go.Proofs.Ytdpolfflemocaaa.Rw
open Go.RowKit Go.Proofs.Ytdpolfflemocaaa.Own Go.Proofs.Ytdpolfflemocaaa.Rx Go.Proofs.YtdpolfflemocaaaW.PrintWords Go.Proofs.YtdpolfflemocaaaW.PrintLast Go.Proofs.YtdpolfflemocaaaW.PrintMore
attribute [local go_sem] max2_int min2_int max_two min_two max_three min_three max_four min_four
set_option linter.unusedVariables false
set_option linter.unusedSimpArgs false
def errW : Option Int → Value
  | none => .nilIface
  | some c => .iface 0 (.int .i64 c)
theorem errW_none : errW none = .nilIface := rfl
theorem errW_some (c : Int) : errW (some c) = .iface 0 (.int .i64 c) := rfl
theorem info3 : (Try.prog.info? 3).map (fun i => (i.zero, i.size, i.bytes)) = some (some (.int .i64 0), 1, 8) := by kernel_rfl
end Go.Proofs.Ytdpolfflemocaaa.Rw
