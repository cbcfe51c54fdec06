/- Words of the printed proofs, as far as they are used here. No condition. -/
import Derived.Test.YtejlobcjgbeeaaaWInv
import Derived.Test.YtejlobcjgbeeaaaWFootNe
namespace Go.Proofs.YtejlobcjgbeeaaaW.PrintWords
open Go.RowKit
end Go.Proofs.YtejlobcjgbeeaaaW.PrintWords
namespace Go.Proofs.YtejlobcjgbeeaaaW.PrintLast
end Go.Proofs.YtejlobcjgbeeaaaW.PrintLast

