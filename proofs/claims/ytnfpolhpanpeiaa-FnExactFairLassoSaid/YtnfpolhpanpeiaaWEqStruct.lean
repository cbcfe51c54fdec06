/- Words of the printed proofs, as far as they are used here. No condition. -/
import Derived.Test.YtnfpolhpanpeiaaWWords
import Derived.Laws.StructEq
namespace Go.Proofs.YtnfpolhpanpeiaaW.PrintWords
open Go.RowKit
end Go.Proofs.YtnfpolhpanpeiaaW.PrintWords

