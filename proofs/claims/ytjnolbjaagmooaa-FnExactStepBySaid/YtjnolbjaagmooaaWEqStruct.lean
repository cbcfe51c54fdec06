/- Words of the printed proofs, as far as they are used here. No condition. -/
import Derived.Test.YtjnolbjaagmooaaWWords
import Derived.Laws.StructEq
namespace Go.Proofs.YtjnolbjaagmooaaW.PrintWords
open Go.RowKit
end Go.Proofs.YtjnolbjaagmooaaW.PrintWords

