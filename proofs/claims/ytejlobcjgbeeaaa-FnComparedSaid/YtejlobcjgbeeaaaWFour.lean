/- Words of the printed proofs, as far as they are used here. No condition. -/
import Derived.Test.YtejlobcjgbeeaaaWTab
namespace Go.Proofs.YtejlobcjgbeeaaaW.PrintLast
end Go.Proofs.YtejlobcjgbeeaaaW.PrintLast

