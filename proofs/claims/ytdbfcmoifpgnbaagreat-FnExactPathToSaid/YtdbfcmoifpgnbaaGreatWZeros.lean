/- Words of the printed proofs, as far as they are used here. No condition. -/
import Derived.Test.YtdbfcmoifpgnbaaGreatWApart
import Derived.Test.YtdbfcmoifpgnbaaGreatWArr
namespace Go.Proofs.YtdbfcmoifpgnbaaGreatW.PrintWords
open Go.RowKit
namespace Kd
end Kd
end Go.Proofs.YtdbfcmoifpgnbaaGreatW.PrintWords

