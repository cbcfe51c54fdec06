/- Words of the printed proofs, as far as they are used here. No condition. -/
import Derived.Test.YtnfpolhpanpeiaaWTab
namespace Go.Proofs.YtnfpolhpanpeiaaW.PrintLast
def up (b : Nat → Bool) (i : Nat) : Nat → Bool := fun j => if j = i then true else b j
end Go.Proofs.YtnfpolhpanpeiaaW.PrintLast

