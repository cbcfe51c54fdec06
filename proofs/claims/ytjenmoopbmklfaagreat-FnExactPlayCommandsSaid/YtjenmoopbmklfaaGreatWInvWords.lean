/- Words of the printed proofs, as far as they are used here. No condition. -/
import Derived.Test.YtjenmoopbmklfaaGreatWInv
import Derived.Test.YtjenmoopbmklfaaGreatWFootNe
namespace Go.Proofs.YtjenmoopbmklfaaGreatW.PrintWords
open Go.RowKit
end Go.Proofs.YtjenmoopbmklfaaGreatW.PrintWords
namespace Go.Proofs.YtjenmoopbmklfaaGreatW.PrintLast
end Go.Proofs.YtjenmoopbmklfaaGreatW.PrintLast

