/-
  No cell of these rows narrows 'for every input' (looked for: loops, veiled, ifaces, maps, wideKeys, modest, calm, conditions, laid).
  DERIVED. THE GIVEN ROWS OF THIS SEAT. 8 by the template 'for every input the law returns true; each argument reads behind the call as it read before'; 0 by the template 'total and deterministic' (their statements: YtngefmofelengaaGreatTotals.lean).
  GIVEN WITH THE SEED: the statements are not yours to turn. If you find one false, say at which input.
  Laid BY PROGRAM, IN A SANDBOX (cutbox-rows.mjs): the forced cells as the released guide's own fill.sh prints them over the translation 5e44f7b28925aec6… (all of the seat's roots in one cut). By AI agents, Wed Nov 11 2026. No macro, syntax, notation, axiom, sorry.
-/
import Derived.Test.YtngefmofelengaaGreatChecked
import GoSem.Claim
import GoSem.ClaimJoined
import GoSem.ClaimMapViews
import Derived.JoinedTies
import Derived.KernelRfl
namespace Go.Proofs.YtngefmofelengaaGreat
/- THE CELL 'sum', in the pinned program and in every row, IS THE sha256 OF THE DUMP (.gsa) THAT YtngefmofelengaaGreatProg.lean LOADS. Nothing in Lean hashes anything: it is a label: what it is worth is what the hold of that sum in a sandbox is worth. -/
noncomputable def Tryz.pinned : Pinned := { name := "ytngefmofelengaagreat", sum := "5e44f7b28925aec63c90b13688083389e8616e58299dfa26c5a27f3b6cf602db", checked := Tryz.checked }
namespace Rows
def none {H : Type} : Left H := { results := [], args := [] }

/-- 'laws.FnExactNextOf': WHATEVER THE INPUT: true; the input reads as it did. -/
def fnExactNextOfSpec : ChangeSpec := { name := "fnExactNextOf", fn := fun _ => fun
  | [d1, d2] => { results := [.lit (.bool true)], args := [d1, d2] }
  | _ => none }
def fnExactNextOfRow : OpenClaim := { program := "ytngefmofelengaagreat", sum := "5e44f7b28925aec63c90b13688083389e8616e58299dfa26c5a27f3b6cf602db", func := "loop.example/g00649/laws.FnExactNextOf", spec := "fnExactNextOf", unfollowed := true, recurses := true, named := ["math/bits.divideError", "math/bits.overflowError"], apart := false }
def FnExactNextOfSaid : Prop := fnExactNextOfRow.holds Tryz.pinned (OpenSpec.ofChange fnExactNextOfSpec)

/-- ITS FALSE NEIGHBOUR: 'it returns false'. Refute it at one input. -/
def fnExactNextOfWrong : ChangeSpec := { name := "fnExactNextOf", fn := fun _ => fun
  | [d1, d2] => { results := [.lit (.bool false)], args := [d1, d2] }
  | _ => none }
def FnExactNextOfWrongFalsely : Prop := fnExactNextOfRow.holds Tryz.pinned (OpenSpec.ofChange fnExactNextOfWrong)

/-- 'laws.FnExactIsPath': WHATEVER THE INPUT: true; the input reads as it did. -/
def fnExactIsPathSpec : ChangeSpec := { name := "fnExactIsPath", fn := fun _ => fun
  | [d1, d2] => { results := [.lit (.bool true)], args := [d1, d2] }
  | _ => none }
def fnExactIsPathRow : OpenClaim := { program := "ytngefmofelengaagreat", sum := "5e44f7b28925aec63c90b13688083389e8616e58299dfa26c5a27f3b6cf602db", func := "loop.example/g00649/laws.FnExactIsPath", spec := "fnExactIsPath", unfollowed := true, recurses := true, named := ["math/bits.divideError", "math/bits.overflowError"], apart := false }
def FnExactIsPathSaid : Prop := fnExactIsPathRow.holds Tryz.pinned (OpenSpec.ofChange fnExactIsPathSpec)

/-- ITS FALSE NEIGHBOUR: 'it returns false'. Refute it at one input. -/
def fnExactIsPathWrong : ChangeSpec := { name := "fnExactIsPath", fn := fun _ => fun
  | [d1, d2] => { results := [.lit (.bool false)], args := [d1, d2] }
  | _ => none }
def FnExactIsPathWrongFalsely : Prop := fnExactIsPathRow.holds Tryz.pinned (OpenSpec.ofChange fnExactIsPathWrong)

/-- 'laws.FnExactAlwaysIn': WHATEVER THE INPUT: true; the input reads as it did. -/
def fnExactAlwaysInSpec : ChangeSpec := { name := "fnExactAlwaysIn", fn := fun _ => fun
  | [d1, d2] => { results := [.lit (.bool true)], args := [d1, d2] }
  | _ => none }
def fnExactAlwaysInRow : OpenClaim := { program := "ytngefmofelengaagreat", sum := "5e44f7b28925aec63c90b13688083389e8616e58299dfa26c5a27f3b6cf602db", func := "loop.example/g00649/laws.FnExactAlwaysIn", spec := "fnExactAlwaysIn", unfollowed := true, recurses := true, named := ["math/bits.divideError", "math/bits.overflowError"], apart := false }
def FnExactAlwaysInSaid : Prop := fnExactAlwaysInRow.holds Tryz.pinned (OpenSpec.ofChange fnExactAlwaysInSpec)

/-- ITS FALSE NEIGHBOUR: 'it returns false'. Refute it at one input. -/
def fnExactAlwaysInWrong : ChangeSpec := { name := "fnExactAlwaysIn", fn := fun _ => fun
  | [d1, d2] => { results := [.lit (.bool false)], args := [d1, d2] }
  | _ => none }
def FnExactAlwaysInWrongFalsely : Prop := fnExactAlwaysInRow.holds Tryz.pinned (OpenSpec.ofChange fnExactAlwaysInWrong)

/-- 'laws.FnExactStepsTo': WHATEVER THE INPUT: true; the input reads as it did. -/
def fnExactStepsToSpec : ChangeSpec := { name := "fnExactStepsTo", fn := fun _ => fun
  | [d1, d2] => { results := [.lit (.bool true)], args := [d1, d2] }
  | _ => none }
def fnExactStepsToRow : OpenClaim := { program := "ytngefmofelengaagreat", sum := "5e44f7b28925aec63c90b13688083389e8616e58299dfa26c5a27f3b6cf602db", func := "loop.example/g00649/laws.FnExactStepsTo", spec := "fnExactStepsTo", unfollowed := true, recurses := true, named := ["math/bits.divideError", "math/bits.overflowError"], apart := false }
def FnExactStepsToSaid : Prop := fnExactStepsToRow.holds Tryz.pinned (OpenSpec.ofChange fnExactStepsToSpec)

/-- ITS FALSE NEIGHBOUR: 'it returns false'. Refute it at one input. -/
def fnExactStepsToWrong : ChangeSpec := { name := "fnExactStepsTo", fn := fun _ => fun
  | [d1, d2] => { results := [.lit (.bool false)], args := [d1, d2] }
  | _ => none }
def FnExactStepsToWrongFalsely : Prop := fnExactStepsToRow.holds Tryz.pinned (OpenSpec.ofChange fnExactStepsToWrong)

/-- 'laws.FnExactReachOf': WHATEVER THE INPUT: true; the input reads as it did. -/
def fnExactReachOfSpec : ChangeSpec := { name := "fnExactReachOf", fn := fun _ => fun
  | [d] => { results := [.lit (.bool true)], args := [d] }
  | _ => none }
def fnExactReachOfRow : OpenClaim := { program := "ytngefmofelengaagreat", sum := "5e44f7b28925aec63c90b13688083389e8616e58299dfa26c5a27f3b6cf602db", func := "loop.example/g00649/laws.FnExactReachOf", spec := "fnExactReachOf", unfollowed := true, recurses := true, named := ["math/bits.divideError", "math/bits.overflowError"], apart := false }
def FnExactReachOfSaid : Prop := fnExactReachOfRow.holds Tryz.pinned (OpenSpec.ofChange fnExactReachOfSpec)

/-- ITS FALSE NEIGHBOUR: 'it returns false'. Refute it at one input. -/
def fnExactReachOfWrong : ChangeSpec := { name := "fnExactReachOf", fn := fun _ => fun
  | [d] => { results := [.lit (.bool false)], args := [d] }
  | _ => none }
def FnExactReachOfWrongFalsely : Prop := fnExactReachOfRow.holds Tryz.pinned (OpenSpec.ofChange fnExactReachOfWrong)

/-- 'laws.FnExactStuckIn': WHATEVER THE INPUT: true; the input reads as it did. -/
def fnExactStuckInSpec : ChangeSpec := { name := "fnExactStuckIn", fn := fun _ => fun
  | [d] => { results := [.lit (.bool true)], args := [d] }
  | _ => none }
def fnExactStuckInRow : OpenClaim := { program := "ytngefmofelengaagreat", sum := "5e44f7b28925aec63c90b13688083389e8616e58299dfa26c5a27f3b6cf602db", func := "loop.example/g00649/laws.FnExactStuckIn", spec := "fnExactStuckIn", unfollowed := true, recurses := true, named := ["math/bits.divideError", "math/bits.overflowError"], apart := false }
def FnExactStuckInSaid : Prop := fnExactStuckInRow.holds Tryz.pinned (OpenSpec.ofChange fnExactStuckInSpec)

/-- ITS FALSE NEIGHBOUR: 'it returns false'. Refute it at one input. -/
def fnExactStuckInWrong : ChangeSpec := { name := "fnExactStuckIn", fn := fun _ => fun
  | [d] => { results := [.lit (.bool false)], args := [d] }
  | _ => none }
def FnExactStuckInWrongFalsely : Prop := fnExactStuckInRow.holds Tryz.pinned (OpenSpec.ofChange fnExactStuckInWrong)

/-- 'laws.FnExactBackFrom': WHATEVER THE INPUT: true; the input reads as it did. -/
def fnExactBackFromSpec : ChangeSpec := { name := "fnExactBackFrom", fn := fun _ => fun
  | [d1, d2] => { results := [.lit (.bool true)], args := [d1, d2] }
  | _ => none }
def fnExactBackFromRow : OpenClaim := { program := "ytngefmofelengaagreat", sum := "5e44f7b28925aec63c90b13688083389e8616e58299dfa26c5a27f3b6cf602db", func := "loop.example/g00649/laws.FnExactBackFrom", spec := "fnExactBackFrom", unfollowed := true, recurses := true, named := ["math/bits.divideError", "math/bits.overflowError"], apart := false }
def FnExactBackFromSaid : Prop := fnExactBackFromRow.holds Tryz.pinned (OpenSpec.ofChange fnExactBackFromSpec)

/-- ITS FALSE NEIGHBOUR: 'it returns false'. Refute it at one input. -/
def fnExactBackFromWrong : ChangeSpec := { name := "fnExactBackFrom", fn := fun _ => fun
  | [d1, d2] => { results := [.lit (.bool false)], args := [d1, d2] }
  | _ => none }
def FnExactBackFromWrongFalsely : Prop := fnExactBackFromRow.holds Tryz.pinned (OpenSpec.ofChange fnExactBackFromWrong)

/-- 'laws.FnExactPathTo': WHATEVER THE INPUT: true; the input reads as it did. -/
def fnExactPathToSpec : ChangeSpec := { name := "fnExactPathTo", fn := fun _ => fun
  | [d1, d2] => { results := [.lit (.bool true)], args := [d1, d2] }
  | _ => none }
def fnExactPathToRow : OpenClaim := { program := "ytngefmofelengaagreat", sum := "5e44f7b28925aec63c90b13688083389e8616e58299dfa26c5a27f3b6cf602db", func := "loop.example/g00649/laws.FnExactPathTo", spec := "fnExactPathTo", unfollowed := true, recurses := true, named := ["math/bits.divideError", "math/bits.overflowError"], apart := false }
def FnExactPathToSaid : Prop := fnExactPathToRow.holds Tryz.pinned (OpenSpec.ofChange fnExactPathToSpec)

/-- ITS FALSE NEIGHBOUR: 'it returns false'. Refute it at one input. -/
def fnExactPathToWrong : ChangeSpec := { name := "fnExactPathTo", fn := fun _ => fun
  | [d1, d2] => { results := [.lit (.bool false)], args := [d1, d2] }
  | _ => none }
def FnExactPathToWrongFalsely : Prop := fnExactPathToRow.holds Tryz.pinned (OpenSpec.ofChange fnExactPathToWrong)

/- THE SECOND FORM. 'bulk': how many values and letters a reading holds, each counted each time it is reached (what is shared counts as often as it is met; a slice's spare places count too). A statement '..UptoSaid' is the law's where the arguments, and the package variables that the reading takes, are together of bulk at most 1048576: NARROWER than '..Said'. Prove '..Said' where nothing that the law and all that it calls make is longer than what came in: it says more and counts as full. Else prove '..UptoSaid'. A law counts once. -/
mutual
def uptoBulk {H : Type} : DataW H → Nat
  | .lit (.string bytes) => bytes.length + 1
  | .lit _ => 1
  | .nil => 1
  | .ptr d => uptoBulk d + 1
  | .slice elems spare => uptoBulkAll elems + uptoBulkAll spare + 1
  | .agg parts => uptoBulkAll parts + 1
  | .iface _ d => uptoBulk d + 1
  | .map entries => uptoBulkEntries entries + 1
  | .held _ => 1
def uptoBulkAll {H : Type} : List (DataW H) → Nat
  | [] => 0
  | d :: r => uptoBulk d + uptoBulkAll r
def uptoBulkEntries {H : Type} : List (Lit × DataW H) → Nat
  | [] => 0
  | x :: r => uptoBulkEntry x + uptoBulkEntries r
def uptoBulkEntry {H : Type} : Lit × DataW H → Nat
  | (.string bytes, d) => bytes.length + uptoBulk d + 1
  | (_, d) => uptoBulk d + 1
 end
def uptoSmall : (H : Type) → List (DataW H) → Bool := fun _ ds => decide (uptoBulkAll ds ≤ 1048576)
def OpenSpec.upto (s : _root_.Go.ChangeSpec) : _root_.Go.OpenSpec := { _root_.Go.OpenSpec.ofChange s with cond := some uptoSmall }

/-- 'laws.FnExactNextOf', WHERE WHAT IT READS IS OF BULK AT MOST 1048576: true; the input reads as it did. -/
def fnExactNextOfUptoRow : OpenClaim := { program := "ytngefmofelengaagreat", sum := "5e44f7b28925aec63c90b13688083389e8616e58299dfa26c5a27f3b6cf602db", func := "loop.example/g00649/laws.FnExactNextOf", spec := "fnExactNextOf", unfollowed := true, recurses := true, named := ["math/bits.divideError", "math/bits.overflowError"], apart := false, narrowed := true }
def FnExactNextOfUptoSaid : Prop := fnExactNextOfUptoRow.holds Tryz.pinned (OpenSpec.upto fnExactNextOfSpec)

/-- 'laws.FnExactIsPath', WHERE WHAT IT READS IS OF BULK AT MOST 1048576: true; the input reads as it did. -/
def fnExactIsPathUptoRow : OpenClaim := { program := "ytngefmofelengaagreat", sum := "5e44f7b28925aec63c90b13688083389e8616e58299dfa26c5a27f3b6cf602db", func := "loop.example/g00649/laws.FnExactIsPath", spec := "fnExactIsPath", unfollowed := true, recurses := true, named := ["math/bits.divideError", "math/bits.overflowError"], apart := false, narrowed := true }
def FnExactIsPathUptoSaid : Prop := fnExactIsPathUptoRow.holds Tryz.pinned (OpenSpec.upto fnExactIsPathSpec)

/-- 'laws.FnExactAlwaysIn', WHERE WHAT IT READS IS OF BULK AT MOST 1048576: true; the input reads as it did. -/
def fnExactAlwaysInUptoRow : OpenClaim := { program := "ytngefmofelengaagreat", sum := "5e44f7b28925aec63c90b13688083389e8616e58299dfa26c5a27f3b6cf602db", func := "loop.example/g00649/laws.FnExactAlwaysIn", spec := "fnExactAlwaysIn", unfollowed := true, recurses := true, named := ["math/bits.divideError", "math/bits.overflowError"], apart := false, narrowed := true }
def FnExactAlwaysInUptoSaid : Prop := fnExactAlwaysInUptoRow.holds Tryz.pinned (OpenSpec.upto fnExactAlwaysInSpec)

/-- 'laws.FnExactStepsTo', WHERE WHAT IT READS IS OF BULK AT MOST 1048576: true; the input reads as it did. -/
def fnExactStepsToUptoRow : OpenClaim := { program := "ytngefmofelengaagreat", sum := "5e44f7b28925aec63c90b13688083389e8616e58299dfa26c5a27f3b6cf602db", func := "loop.example/g00649/laws.FnExactStepsTo", spec := "fnExactStepsTo", unfollowed := true, recurses := true, named := ["math/bits.divideError", "math/bits.overflowError"], apart := false, narrowed := true }
def FnExactStepsToUptoSaid : Prop := fnExactStepsToUptoRow.holds Tryz.pinned (OpenSpec.upto fnExactStepsToSpec)

/-- 'laws.FnExactReachOf', WHERE WHAT IT READS IS OF BULK AT MOST 1048576: true; the input reads as it did. -/
def fnExactReachOfUptoRow : OpenClaim := { program := "ytngefmofelengaagreat", sum := "5e44f7b28925aec63c90b13688083389e8616e58299dfa26c5a27f3b6cf602db", func := "loop.example/g00649/laws.FnExactReachOf", spec := "fnExactReachOf", unfollowed := true, recurses := true, named := ["math/bits.divideError", "math/bits.overflowError"], apart := false, narrowed := true }
def FnExactReachOfUptoSaid : Prop := fnExactReachOfUptoRow.holds Tryz.pinned (OpenSpec.upto fnExactReachOfSpec)

/-- 'laws.FnExactStuckIn', WHERE WHAT IT READS IS OF BULK AT MOST 1048576: true; the input reads as it did. -/
def fnExactStuckInUptoRow : OpenClaim := { program := "ytngefmofelengaagreat", sum := "5e44f7b28925aec63c90b13688083389e8616e58299dfa26c5a27f3b6cf602db", func := "loop.example/g00649/laws.FnExactStuckIn", spec := "fnExactStuckIn", unfollowed := true, recurses := true, named := ["math/bits.divideError", "math/bits.overflowError"], apart := false, narrowed := true }
def FnExactStuckInUptoSaid : Prop := fnExactStuckInUptoRow.holds Tryz.pinned (OpenSpec.upto fnExactStuckInSpec)

/-- 'laws.FnExactBackFrom', WHERE WHAT IT READS IS OF BULK AT MOST 1048576: true; the input reads as it did. -/
def fnExactBackFromUptoRow : OpenClaim := { program := "ytngefmofelengaagreat", sum := "5e44f7b28925aec63c90b13688083389e8616e58299dfa26c5a27f3b6cf602db", func := "loop.example/g00649/laws.FnExactBackFrom", spec := "fnExactBackFrom", unfollowed := true, recurses := true, named := ["math/bits.divideError", "math/bits.overflowError"], apart := false, narrowed := true }
def FnExactBackFromUptoSaid : Prop := fnExactBackFromUptoRow.holds Tryz.pinned (OpenSpec.upto fnExactBackFromSpec)

/-- 'laws.FnExactPathTo', WHERE WHAT IT READS IS OF BULK AT MOST 1048576: true; the input reads as it did. -/
def fnExactPathToUptoRow : OpenClaim := { program := "ytngefmofelengaagreat", sum := "5e44f7b28925aec63c90b13688083389e8616e58299dfa26c5a27f3b6cf602db", func := "loop.example/g00649/laws.FnExactPathTo", spec := "fnExactPathTo", unfollowed := true, recurses := true, named := ["math/bits.divideError", "math/bits.overflowError"], apart := false, narrowed := true }
def FnExactPathToUptoSaid : Prop := fnExactPathToUptoRow.holds Tryz.pinned (OpenSpec.upto fnExactPathToSpec)

end Rows
end Go.Proofs.YtngefmofelengaaGreat
