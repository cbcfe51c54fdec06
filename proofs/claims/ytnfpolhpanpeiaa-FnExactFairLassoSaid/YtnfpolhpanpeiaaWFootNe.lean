/- Words of the printed proofs, as far as they are used here. No condition. -/
import Derived.Test.YtnfpolhpanpeiaaWN
namespace Go.Proofs.YtnfpolhpanpeiaaW.PrintWords
open Go.RowKit
namespace Kd
end Kd
end Go.Proofs.YtnfpolhpanpeiaaW.PrintWords

