/- Words of the printed proofs, as far as they are used here. No condition. -/
import Derived.Test.YtjenmoopbmklfaaGreatWTab
namespace Go.Proofs.YtjenmoopbmklfaaGreatW.PrintLast
end Go.Proofs.YtjenmoopbmklfaaGreatW.PrintLast

