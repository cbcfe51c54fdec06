/- Words of the printed proofs, as far as they are used here. No condition. -/
import Derived.Test.YtjnolbjaagmooaaWTab
namespace Go.Proofs.YtjnolbjaagmooaaW.PrintLast
end Go.Proofs.YtjnolbjaagmooaaW.PrintLast

