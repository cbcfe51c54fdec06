/- Words of the printed proofs, as far as they are used here. No condition. -/
import Derived.Test.YtjenmoopbmklfaaGreatWN
namespace Go.Proofs.YtjenmoopbmklfaaGreatW.PrintWords
open Go.RowKit
namespace Kd
end Kd
end Go.Proofs.YtjenmoopbmklfaaGreatW.PrintWords

