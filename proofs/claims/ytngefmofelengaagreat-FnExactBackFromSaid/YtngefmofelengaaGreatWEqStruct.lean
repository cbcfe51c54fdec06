/- Words of the printed proofs, as far as they are used here. No condition. -/
import Derived.Test.YtngefmofelengaaGreatWWords
import Derived.Laws.StructEq
namespace Go.Proofs.YtngefmofelengaaGreatW.PrintWords
open Go.RowKit
end Go.Proofs.YtngefmofelengaaGreatW.PrintWords

