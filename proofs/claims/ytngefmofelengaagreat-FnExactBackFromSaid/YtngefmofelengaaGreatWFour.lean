/- Words of the printed proofs, as far as they are used here. No condition. -/
import Derived.Test.YtngefmofelengaaGreatWTab
namespace Go.Proofs.YtngefmofelengaaGreatW.PrintLast
end Go.Proofs.YtngefmofelengaaGreatW.PrintLast

