/- Words of the printed proofs, as far as they are used here. No condition. -/
import Derived.Test.YtjnolbjaagmooaaWInv
import Derived.Test.YtjnolbjaagmooaaWFootNe
namespace Go.Proofs.YtjnolbjaagmooaaW.PrintWords
open Go.RowKit
end Go.Proofs.YtjnolbjaagmooaaW.PrintWords
namespace Go.Proofs.YtjnolbjaagmooaaW.PrintLast
end Go.Proofs.YtjnolbjaagmooaaW.PrintLast

