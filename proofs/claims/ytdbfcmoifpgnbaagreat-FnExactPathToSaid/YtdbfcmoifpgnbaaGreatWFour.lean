/- Words of the printed proofs, as far as they are used here. No condition. -/
import Derived.Test.YtdbfcmoifpgnbaaGreatWTab
namespace Go.Proofs.YtdbfcmoifpgnbaaGreatW.PrintLast
end Go.Proofs.YtdbfcmoifpgnbaaGreatW.PrintLast

