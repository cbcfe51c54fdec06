/- Words of the printed proofs, as far as they are used here. No condition. -/
import Derived.Test.YtjnolbjaagmooaaWFootNe
namespace Go.Proofs.YtjnolbjaagmooaaW.PrintWords
open Go.RowKit
namespace Kd
end Kd
end Go.Proofs.YtjnolbjaagmooaaW.PrintWords

