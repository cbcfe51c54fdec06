/-
  No cell of these rows narrows 'for every input' (looked for: loops, veiled, ifaces, maps, wideKeys, modest, calm, conditions, laid).
  DERIVED. THE GIVEN ROWS OF THIS SEAT. 5 by the template 'for every input the law returns true; each argument reads behind the call as it read before'; 0 by the template 'total and deterministic' (their statements: YtjnolbjaagmooaaTotals.lean).
  GIVEN WITH THE SEED: the statements are not yours to turn. If you find one false, say at which input.
  Laid BY PROGRAM, IN A SANDBOX (cutbox-rows.mjs): the forced cells as the released guide's own fill.sh prints them over the translation 172a4f8098743b84… (all of the seat's roots in one cut). By AI agents, Wed Nov 11 2026. No macro, syntax, notation, axiom, sorry.
-/
import Derived.Test.YtjnolbjaagmooaaChecked
import GoSem.Claim
import GoSem.ClaimJoined
import GoSem.ClaimMapViews
import Derived.JoinedTies
import Derived.KernelRfl
namespace Go.Proofs.Ytjnolbjaagmooaa
/- THE CELL 'sum', in the pinned program and in every row, IS THE sha256 OF THE DUMP (.gsa) THAT YtjnolbjaagmooaaProg.lean LOADS. Nothing in Lean hashes anything: it is a label: what it is worth is what the hold of that sum in a sandbox is worth. -/
noncomputable def Try.pinned : Pinned := { name := "ytjnolbjaagmooaa", sum := "172a4f8098743b84119e8b7a1c84a91464a42e1c5c08e45263755dab9b7355e0", checked := Try.checked }
namespace Rows
def none {H : Type} : Left H := { results := [], args := [] }

/-- 'laws.FnExactIsStart': WHATEVER THE INPUT: true; the input reads as it did. -/
def fnExactIsStartSpec : ChangeSpec := { name := "fnExactIsStart", fn := fun _ => fun
  | [d1, d2] => { results := [.lit (.bool true)], args := [d1, d2] }
  | _ => none }
def fnExactIsStartRow : OpenClaim := { program := "ytjnolbjaagmooaa", sum := "172a4f8098743b84119e8b7a1c84a91464a42e1c5c08e45263755dab9b7355e0", func := "loop.example/g00649/laws.FnExactIsStart", spec := "fnExactIsStart", unfollowed := true, recurses := true, named := ["math/bits.divideError", "math/bits.overflowError"], apart := false }
def FnExactIsStartSaid : Prop := fnExactIsStartRow.holds Try.pinned (OpenSpec.ofChange fnExactIsStartSpec)

/-- ITS FALSE NEIGHBOUR: 'it returns false'. Refute it at one input. -/
def fnExactIsStartWrong : ChangeSpec := { name := "fnExactIsStart", fn := fun _ => fun
  | [d1, d2] => { results := [.lit (.bool false)], args := [d1, d2] }
  | _ => none }
def FnExactIsStartWrongFalsely : Prop := fnExactIsStartRow.holds Try.pinned (OpenSpec.ofChange fnExactIsStartWrong)

/-- 'laws.FnExactStarts': WHATEVER THE INPUT: true; the input reads as it did. -/
def fnExactStartsSpec : ChangeSpec := { name := "fnExactStarts", fn := fun _ => fun
  | [d] => { results := [.lit (.bool true)], args := [d] }
  | _ => none }
def fnExactStartsRow : OpenClaim := { program := "ytjnolbjaagmooaa", sum := "172a4f8098743b84119e8b7a1c84a91464a42e1c5c08e45263755dab9b7355e0", func := "loop.example/g00649/laws.FnExactStarts", spec := "fnExactStarts", unfollowed := true, recurses := true, named := ["math/bits.divideError", "math/bits.overflowError"], apart := false }
def FnExactStartsSaid : Prop := fnExactStartsRow.holds Try.pinned (OpenSpec.ofChange fnExactStartsSpec)

/-- ITS FALSE NEIGHBOUR: 'it returns false'. Refute it at one input. -/
def fnExactStartsWrong : ChangeSpec := { name := "fnExactStarts", fn := fun _ => fun
  | [d] => { results := [.lit (.bool false)], args := [d] }
  | _ => none }
def FnExactStartsWrongFalsely : Prop := fnExactStartsRow.holds Try.pinned (OpenSpec.ofChange fnExactStartsWrong)

/-- 'laws.FnExactEnabled': WHATEVER THE INPUT: true; the input reads as it did. -/
def fnExactEnabledSpec : ChangeSpec := { name := "fnExactEnabled", fn := fun _ => fun
  | [d1, d2] => { results := [.lit (.bool true)], args := [d1, d2] }
  | _ => none }
def fnExactEnabledRow : OpenClaim := { program := "ytjnolbjaagmooaa", sum := "172a4f8098743b84119e8b7a1c84a91464a42e1c5c08e45263755dab9b7355e0", func := "loop.example/g00649/laws.FnExactEnabled", spec := "fnExactEnabled", unfollowed := true, recurses := true, named := ["math/bits.divideError", "math/bits.overflowError"], apart := false }
def FnExactEnabledSaid : Prop := fnExactEnabledRow.holds Try.pinned (OpenSpec.ofChange fnExactEnabledSpec)

/-- ITS FALSE NEIGHBOUR: 'it returns false'. Refute it at one input. -/
def fnExactEnabledWrong : ChangeSpec := { name := "fnExactEnabled", fn := fun _ => fun
  | [d1, d2] => { results := [.lit (.bool false)], args := [d1, d2] }
  | _ => none }
def FnExactEnabledWrongFalsely : Prop := fnExactEnabledRow.holds Try.pinned (OpenSpec.ofChange fnExactEnabledWrong)

/-- 'laws.FnExactStepBy': WHATEVER THE INPUT: true; the input reads as it did. -/
def fnExactStepBySpec : ChangeSpec := { name := "fnExactStepBy", fn := fun _ => fun
  | [d1, d2, d3] => { results := [.lit (.bool true)], args := [d1, d2, d3] }
  | _ => none }
def fnExactStepByRow : OpenClaim := { program := "ytjnolbjaagmooaa", sum := "172a4f8098743b84119e8b7a1c84a91464a42e1c5c08e45263755dab9b7355e0", func := "loop.example/g00649/laws.FnExactStepBy", spec := "fnExactStepBy", unfollowed := true, recurses := true, named := ["math/bits.divideError", "math/bits.overflowError"], apart := false }
def FnExactStepBySaid : Prop := fnExactStepByRow.holds Try.pinned (OpenSpec.ofChange fnExactStepBySpec)

/-- ITS FALSE NEIGHBOUR: 'it returns false'. Refute it at one input. -/
def fnExactStepByWrong : ChangeSpec := { name := "fnExactStepBy", fn := fun _ => fun
  | [d1, d2, d3] => { results := [.lit (.bool false)], args := [d1, d2, d3] }
  | _ => none }
def FnExactStepByWrongFalsely : Prop := fnExactStepByRow.holds Try.pinned (OpenSpec.ofChange fnExactStepByWrong)

/-- 'laws.FnExactHoldsIn': WHATEVER THE INPUT: true; the input reads as it did. -/
def fnExactHoldsInSpec : ChangeSpec := { name := "fnExactHoldsIn", fn := fun _ => fun
  | [d1, d2, d3] => { results := [.lit (.bool true)], args := [d1, d2, d3] }
  | _ => none }
def fnExactHoldsInRow : OpenClaim := { program := "ytjnolbjaagmooaa", sum := "172a4f8098743b84119e8b7a1c84a91464a42e1c5c08e45263755dab9b7355e0", func := "loop.example/g00649/laws.FnExactHoldsIn", spec := "fnExactHoldsIn", unfollowed := true, recurses := true, named := ["math/bits.divideError", "math/bits.overflowError"], apart := false }
def FnExactHoldsInSaid : Prop := fnExactHoldsInRow.holds Try.pinned (OpenSpec.ofChange fnExactHoldsInSpec)

/-- ITS FALSE NEIGHBOUR: 'it returns false'. Refute it at one input. -/
def fnExactHoldsInWrong : ChangeSpec := { name := "fnExactHoldsIn", fn := fun _ => fun
  | [d1, d2, d3] => { results := [.lit (.bool false)], args := [d1, d2, d3] }
  | _ => none }
def FnExactHoldsInWrongFalsely : Prop := fnExactHoldsInRow.holds Try.pinned (OpenSpec.ofChange fnExactHoldsInWrong)

/- THE SECOND FORM. 'bulk': how many values and letters a reading holds, each counted each time it is reached (what is shared counts as often as it is met; a slice's spare places count too). A statement '..UptoSaid' is the law's where the arguments, and the package variables that the reading takes, are together of bulk at most 1048576: NARROWER than '..Said'. Prove '..Said' where nothing that the law and all that it calls make is longer than what came in: it says more and counts as full. Else prove '..UptoSaid'. A law counts once. -/
mutual
def uptoBulk {H : Type} : DataW H → Nat
  | .lit (.string bytes) => bytes.length + 1
  | .lit _ => 1
  | .nil => 1
  | .ptr d => uptoBulk d + 1
  | .slice elems spare => uptoBulkAll elems + uptoBulkAll spare + 1
  | .agg parts => uptoBulkAll parts + 1
  | .iface _ d => uptoBulk d + 1
  | .map entries => uptoBulkEntries entries + 1
  | .held _ => 1
def uptoBulkAll {H : Type} : List (DataW H) → Nat
  | [] => 0
  | d :: r => uptoBulk d + uptoBulkAll r
def uptoBulkEntries {H : Type} : List (Lit × DataW H) → Nat
  | [] => 0
  | x :: r => uptoBulkEntry x + uptoBulkEntries r
def uptoBulkEntry {H : Type} : Lit × DataW H → Nat
  | (.string bytes, d) => bytes.length + uptoBulk d + 1
  | (_, d) => uptoBulk d + 1
 end
def uptoSmall : (H : Type) → List (DataW H) → Bool := fun _ ds => decide (uptoBulkAll ds ≤ 1048576)
def OpenSpec.upto (s : _root_.Go.ChangeSpec) : _root_.Go.OpenSpec := { _root_.Go.OpenSpec.ofChange s with cond := some uptoSmall }

/-- 'laws.FnExactIsStart', WHERE WHAT IT READS IS OF BULK AT MOST 1048576: true; the input reads as it did. -/
def fnExactIsStartUptoRow : OpenClaim := { program := "ytjnolbjaagmooaa", sum := "172a4f8098743b84119e8b7a1c84a91464a42e1c5c08e45263755dab9b7355e0", func := "loop.example/g00649/laws.FnExactIsStart", spec := "fnExactIsStart", unfollowed := true, recurses := true, named := ["math/bits.divideError", "math/bits.overflowError"], apart := false, narrowed := true }
def FnExactIsStartUptoSaid : Prop := fnExactIsStartUptoRow.holds Try.pinned (OpenSpec.upto fnExactIsStartSpec)

/-- 'laws.FnExactStarts', WHERE WHAT IT READS IS OF BULK AT MOST 1048576: true; the input reads as it did. -/
def fnExactStartsUptoRow : OpenClaim := { program := "ytjnolbjaagmooaa", sum := "172a4f8098743b84119e8b7a1c84a91464a42e1c5c08e45263755dab9b7355e0", func := "loop.example/g00649/laws.FnExactStarts", spec := "fnExactStarts", unfollowed := true, recurses := true, named := ["math/bits.divideError", "math/bits.overflowError"], apart := false, narrowed := true }
def FnExactStartsUptoSaid : Prop := fnExactStartsUptoRow.holds Try.pinned (OpenSpec.upto fnExactStartsSpec)

/-- 'laws.FnExactEnabled', WHERE WHAT IT READS IS OF BULK AT MOST 1048576: true; the input reads as it did. -/
def fnExactEnabledUptoRow : OpenClaim := { program := "ytjnolbjaagmooaa", sum := "172a4f8098743b84119e8b7a1c84a91464a42e1c5c08e45263755dab9b7355e0", func := "loop.example/g00649/laws.FnExactEnabled", spec := "fnExactEnabled", unfollowed := true, recurses := true, named := ["math/bits.divideError", "math/bits.overflowError"], apart := false, narrowed := true }
def FnExactEnabledUptoSaid : Prop := fnExactEnabledUptoRow.holds Try.pinned (OpenSpec.upto fnExactEnabledSpec)

/-- 'laws.FnExactStepBy', WHERE WHAT IT READS IS OF BULK AT MOST 1048576: true; the input reads as it did. -/
def fnExactStepByUptoRow : OpenClaim := { program := "ytjnolbjaagmooaa", sum := "172a4f8098743b84119e8b7a1c84a91464a42e1c5c08e45263755dab9b7355e0", func := "loop.example/g00649/laws.FnExactStepBy", spec := "fnExactStepBy", unfollowed := true, recurses := true, named := ["math/bits.divideError", "math/bits.overflowError"], apart := false, narrowed := true }
def FnExactStepByUptoSaid : Prop := fnExactStepByUptoRow.holds Try.pinned (OpenSpec.upto fnExactStepBySpec)

/-- 'laws.FnExactHoldsIn', WHERE WHAT IT READS IS OF BULK AT MOST 1048576: true; the input reads as it did. -/
def fnExactHoldsInUptoRow : OpenClaim := { program := "ytjnolbjaagmooaa", sum := "172a4f8098743b84119e8b7a1c84a91464a42e1c5c08e45263755dab9b7355e0", func := "loop.example/g00649/laws.FnExactHoldsIn", spec := "fnExactHoldsIn", unfollowed := true, recurses := true, named := ["math/bits.divideError", "math/bits.overflowError"], apart := false, narrowed := true }
def FnExactHoldsInUptoSaid : Prop := fnExactHoldsInUptoRow.holds Try.pinned (OpenSpec.upto fnExactHoldsInSpec)

end Rows
end Go.Proofs.Ytjnolbjaagmooaa
