/- Words of the printed proofs, as far as they are used here. No condition. -/
import Derived.Test.YtngefmofelengaaGreatWN
namespace Go.Proofs.YtngefmofelengaaGreatW.PrintWords
open Go.RowKit
namespace Kd
end Kd
end Go.Proofs.YtngefmofelengaaGreatW.PrintWords

