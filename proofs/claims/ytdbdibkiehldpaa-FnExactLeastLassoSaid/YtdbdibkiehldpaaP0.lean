/- Go functions of this seat as Lean functions, and the proofs that the calls come to what these say; printed by a program of this session. No condition. -/
import Derived.Test.YtdbdibkiehldpaaProg
import Derived.Test.YtdbdibkiehldpaaHof
import Derived.Test.YtdbdibkiehldpaaLw
import Derived.Test.YtdbdibkiehldpaaSh
import Derived.Below
import Derived.Deep.Draws
import Derived.Deep.AppendLies
import Derived.Maps.AppendAt
import Derived.OwnWalk
import Derived.Laws.BytesArg
import Derived.Laws.MakeOwn
import Derived.Laws.OwnMore
import Derived.Deep.OwnRows
import Derived.Tactics
import Derived.Lib.ConvBytes
import Derived.Laws.Slices
import Derived.WalkKit
import Derived.KernelRfl
import Derived.RowKit3
import Derived.Deep.LoopGhost
import Derived.Deep.QuietTactic
import Derived.BigQuiet
import Derived.WideLaws
import Derived.Deep.DeepCutAuto
import Derived.Deep.CutBlock
import Derived.Deep.RegionHeld3
import Derived.Laws.Rows
import Derived.Lib.AppendStr
import Derived.ArgAppend
import Derived.Laws.IdiomCopy
import Derived.OrdersHeld
import Derived.Shelf.Abstract
import Derived.Laws.BitsLemmas
import Derived.Laws.Bits64b
import Derived.Laws.CopyOwn
import Derived.Deep.RegionLaw
import Derived.RowKit
import Derived.Test.YtdbdibkiehldpaaWWords
import Derived.Test.YtdbdibkiehldpaaWLast
import Derived.Test.YtdbdibkiehldpaaWTab
import Derived.Test.YtdbdibkiehldpaaWFour
import Derived.Test.YtdbdibkiehldpaaWQPut
import Derived.Test.YtdbdibkiehldpaaWApart
import Derived.Test.YtdbdibkiehldpaaWArr
import Derived.Test.YtdbdibkiehldpaaWZeros
import Derived.Test.YtdbdibkiehldpaaWFoot
import Derived.Test.YtdbdibkiehldpaaWKept
import Derived.Test.YtdbdibkiehldpaaWShare
import Derived.Test.YtdbdibkiehldpaaWN
import Derived.Test.YtdbdibkiehldpaaWFootNe
import Derived.Test.YtdbdibkiehldpaaWAt
import Derived.Test.YtdbdibkiehldpaaWEqStruct
import Derived.Test.YtdbdibkiehldpaaWRepsOne
import Derived.Test.YtdbdibkiehldpaaWInv
import Derived.Test.YtdbdibkiehldpaaWInvWords
import Derived.Test.YtdbdibkiehldpaaWGuard
import Derived.Test.YtdbdibkiehldpaaWNEv
import Derived.Test.YtdbdibkiehldpaaWMore
namespace Go.Proofs.Ytdbdibkiehldpaa.P
open Go.RowKit Go.Proofs.YtdbdibkiehldpaaW.PrintWords Go.Proofs.YtdbdibkiehldpaaW.PrintLast Go.Proofs.YtdbdibkiehldpaaW.PrintMore Go.Proofs.Ytdbdibkiehldpaa.Hof
attribute [local go_sem] max2_int min2_int max_two min_two max_three min_three max_four min_four   -- for this text's walks alone
set_option linter.unusedVariables false
set_option linter.unusedSimpArgs false



def errW : Option Int → Value
 | none => .nilIface
 | some c => .iface 0 (.int .i64 c)
theorem errW_none : errW none = .nilIface := rfl
theorem errW_some (c : Int) : errW (some c) = .iface 0 (.int .i64 c) := rfl

theorem info3 : (Try.prog.info? 3).map (fun i => (i.zero, i.size, i.bytes)) = some (some (.int .i64 0), 1, 8) := by kernel_rfl
-- the values' own types

end Go.Proofs.Ytdbdibkiehldpaa.P
