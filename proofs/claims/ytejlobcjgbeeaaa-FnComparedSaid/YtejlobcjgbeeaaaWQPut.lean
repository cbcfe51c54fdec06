/- Words of the printed proofs, as far as they are used here. No condition. -/
import Derived.Test.YtejlobcjgbeeaaaWWords
import Derived.Test.YtejlobcjgbeeaaaWLast
namespace Go.Proofs.YtejlobcjgbeeaaaW.PrintWords
open Go.RowKit
namespace Kd
end Kd
end Go.Proofs.YtejlobcjgbeeaaaW.PrintWords

