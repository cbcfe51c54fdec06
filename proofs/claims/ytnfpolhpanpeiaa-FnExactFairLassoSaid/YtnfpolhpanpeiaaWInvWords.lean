/- Words of the printed proofs, as far as they are used here. No condition. -/
import Derived.Test.YtnfpolhpanpeiaaWInv
import Derived.Test.YtnfpolhpanpeiaaWFootNe
namespace Go.Proofs.YtnfpolhpanpeiaaW.PrintWords
open Go.RowKit
end Go.Proofs.YtnfpolhpanpeiaaW.PrintWords
namespace Go.Proofs.YtnfpolhpanpeiaaW.PrintLast
end Go.Proofs.YtnfpolhpanpeiaaW.PrintLast

