/- Words of the printed proofs, as far as they are used here. No condition. -/
import Derived.Test.YtejlobcjgbeeaaaWTab
namespace Go.Proofs.YtejlobcjgbeeaaaW.PrintLast
def up (b : Nat → Bool) (i : Nat) : Nat → Bool := fun j => if j = i then true else b j
end Go.Proofs.YtejlobcjgbeeaaaW.PrintLast

