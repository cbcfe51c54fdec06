/- Words of the printed proofs, as far as they are used here. No condition. -/
import Derived.Test.YtjenmoopbmklfaaGreatWWords
namespace Go.Proofs.YtjenmoopbmklfaaGreatW.PrintWords
end Go.Proofs.YtjenmoopbmklfaaGreatW.PrintWords

