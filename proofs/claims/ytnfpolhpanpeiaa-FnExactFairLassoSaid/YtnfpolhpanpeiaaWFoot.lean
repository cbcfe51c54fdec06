/- Words of the printed proofs, as far as they are used here. No condition. -/
import Derived.Test.YtnfpolhpanpeiaaWApart
import Derived.Test.YtnfpolhpanpeiaaWArr
namespace Go.Proofs.YtnfpolhpanpeiaaW.PrintWords
open Go.RowKit
namespace Kd
end Kd
end Go.Proofs.YtnfpolhpanpeiaaW.PrintWords

