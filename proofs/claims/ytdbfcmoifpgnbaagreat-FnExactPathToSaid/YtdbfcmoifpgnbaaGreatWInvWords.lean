/- Words of the printed proofs, as far as they are used here. No condition. -/
import Derived.Test.YtdbfcmoifpgnbaaGreatWInv
import Derived.Test.YtdbfcmoifpgnbaaGreatWFootNe
namespace Go.Proofs.YtdbfcmoifpgnbaaGreatW.PrintWords
open Go.RowKit
end Go.Proofs.YtdbfcmoifpgnbaaGreatW.PrintWords
namespace Go.Proofs.YtdbfcmoifpgnbaaGreatW.PrintLast
end Go.Proofs.YtdbfcmoifpgnbaaGreatW.PrintLast

