/- Words of the printed proofs, as far as they are used here. No condition. -/
import Derived.Test.YtdbfcmoifpgnbaaGreatWWords
import Derived.Laws.StructEq
namespace Go.Proofs.YtdbfcmoifpgnbaaGreatW.PrintWords
open Go.RowKit
end Go.Proofs.YtdbfcmoifpgnbaaGreatW.PrintWords

