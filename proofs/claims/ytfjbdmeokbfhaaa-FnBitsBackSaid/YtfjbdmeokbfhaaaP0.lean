/- Go functions of this seat as Lean functions, and the proofs that the calls come to what these say; printed by a program of this session. No condition. -/
import Derived.Test.YtfjbdmeokbfhaaaProg
import Derived.Test.YtfjbdmeokbfhaaaHof
import Derived.Test.YtfjbdmeokbfhaaaLw
import Derived.Test.YtfjbdmeokbfhaaaSh
import Derived.Below
import Derived.Deep.Draws
import Derived.Deep.AppendLies
import Derived.Maps.AppendAt
import Derived.OwnWalk
import Derived.Laws.BytesArg
import Derived.Laws.MakeOwn
import Derived.Laws.OwnMore
import Derived.Deep.OwnRows
import Derived.Tactics
import Derived.Lib.ConvBytes
import Derived.Laws.Slices
import Derived.WalkKit
import Derived.KernelRfl
import Derived.RowKit3
import Derived.Deep.LoopGhost
import Derived.Deep.QuietTactic
import Derived.BigQuiet
import Derived.WideLaws
import Derived.Deep.DeepCutAuto
import Derived.Deep.CutBlock
import Derived.Deep.RegionHeld3
import Derived.Laws.Rows
import Derived.Lib.AppendStr
import Derived.ArgAppend
import Derived.Laws.IdiomCopy
import Derived.OrdersHeld
import Derived.Shelf.Abstract
import Derived.Laws.BitsLemmas
import Derived.Laws.Bits64b
import Derived.Laws.CopyOwn
import Derived.Deep.RegionLaw
import Derived.RowKit
import Derived.Test.YtfjbdmeokbfhaaaWWords
import Derived.Test.YtfjbdmeokbfhaaaWLast
import Derived.Test.YtfjbdmeokbfhaaaWTab
import Derived.Test.YtfjbdmeokbfhaaaWFour
import Derived.Test.YtfjbdmeokbfhaaaWQPut
import Derived.Test.YtfjbdmeokbfhaaaWApart
import Derived.Test.YtfjbdmeokbfhaaaWArr
import Derived.Test.YtfjbdmeokbfhaaaWZeros
import Derived.Test.YtfjbdmeokbfhaaaWFoot
import Derived.Test.YtfjbdmeokbfhaaaWKept
import Derived.Test.YtfjbdmeokbfhaaaWShare
import Derived.Test.YtfjbdmeokbfhaaaWN
import Derived.Test.YtfjbdmeokbfhaaaWFootNe
import Derived.Test.YtfjbdmeokbfhaaaWAt
import Derived.Test.YtfjbdmeokbfhaaaWEqStruct
import Derived.Test.YtfjbdmeokbfhaaaWRepsOne
import Derived.Test.YtfjbdmeokbfhaaaWInv
import Derived.Test.YtfjbdmeokbfhaaaWInvWords
import Derived.Test.YtfjbdmeokbfhaaaWGuard
import Derived.Test.YtfjbdmeokbfhaaaWNEv
import Derived.Test.YtfjbdmeokbfhaaaWMore
namespace Go.Proofs.Ytfjbdmeokbfhaaa.P
open Go.RowKit Go.Proofs.YtfjbdmeokbfhaaaW.PrintWords Go.Proofs.YtfjbdmeokbfhaaaW.PrintLast Go.Proofs.YtfjbdmeokbfhaaaW.PrintMore Go.Proofs.Ytfjbdmeokbfhaaa.Hof
attribute [local go_sem] max2_int min2_int max_two min_two max_three min_three max_four min_four   -- for this text's walks alone
set_option linter.unusedVariables false
set_option linter.unusedSimpArgs false



def errW : Option Int → Value
 | none => .nilIface
 | some c => .iface 0 (.int .i64 c)
theorem errW_none : errW none = .nilIface := rfl
theorem errW_some (c : Int) : errW (some c) = .iface 0 (.int .i64 c) := rfl

theorem info3 : (Try.prog.info? 3).map (fun i => (i.zero, i.size, i.bytes)) = some (some (.int .i64 0), 1, 8) := by kernel_rfl
theorem info4 : (Try.prog.info? 4).map (fun i => (i.zero, i.size, i.bytes)) = some (some (.bool false), 1, 1) := by kernel_rfl
theorem info37 : (Try.prog.info? 37).map (fun i => (i.zero, i.size, i.bytes)) = some (some (.int .u64 0), 1, 8) := by kernel_rfl
-- the values' own types

end Go.Proofs.Ytfjbdmeokbfhaaa.P
