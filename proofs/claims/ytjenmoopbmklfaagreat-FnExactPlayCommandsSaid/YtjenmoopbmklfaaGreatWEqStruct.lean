/- Words of the printed proofs, as far as they are used here. No condition. -/
import Derived.Test.YtjenmoopbmklfaaGreatWWords
import Derived.Laws.StructEq
namespace Go.Proofs.YtjenmoopbmklfaaGreatW.PrintWords
open Go.RowKit
end Go.Proofs.YtjenmoopbmklfaaGreatW.PrintWords

