/- Words of the printed proofs, as far as they are used here. No condition. -/
import Derived.Test.YtngefmofelengaaGreatWInv
import Derived.Test.YtngefmofelengaaGreatWFootNe
namespace Go.Proofs.YtngefmofelengaaGreatW.PrintWords
open Go.RowKit
end Go.Proofs.YtngefmofelengaaGreatW.PrintWords
namespace Go.Proofs.YtngefmofelengaaGreatW.PrintLast
end Go.Proofs.YtngefmofelengaaGreatW.PrintLast

