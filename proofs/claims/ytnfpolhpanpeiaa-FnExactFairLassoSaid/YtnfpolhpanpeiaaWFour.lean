/- Words of the printed proofs, as far as they are used here. No condition. -/
import Derived.Test.YtnfpolhpanpeiaaWTab
namespace Go.Proofs.YtnfpolhpanpeiaaW.PrintLast
end Go.Proofs.YtnfpolhpanpeiaaW.PrintLast

