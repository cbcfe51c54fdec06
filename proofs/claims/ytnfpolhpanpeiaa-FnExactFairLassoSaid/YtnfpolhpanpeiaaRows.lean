/-
  No cell of these rows narrows 'for every input' (looked for: loops, veiled, ifaces, maps, wideKeys, modest, calm, conditions, laid).
  DERIVED. THE GIVEN ROWS OF THIS SEAT. 4 by the template 'for every input the law returns true; each argument reads behind the call as it read before'; 0 by the template 'total and deterministic' (their statements: YtnfpolhpanpeiaaTotals.lean).
  GIVEN WITH THE SEED: the statements are not yours to turn. If you find one false, say at which input.
  Laid BY PROGRAM, IN A SANDBOX (cutbox-rows.mjs): the forced cells as the released guide's own fill.sh prints them over the translation 3b63cec794cc620b… (all of the seat's roots in one cut). By AI agents, Wed Nov 11 2026. No macro, syntax, notation, axiom, sorry.
-/
import Derived.Test.YtnfpolhpanpeiaaChecked
import GoSem.Claim
import GoSem.ClaimJoined
import GoSem.ClaimMapViews
import Derived.JoinedTies
import Derived.KernelRfl
namespace Go.Proofs.Ytnfpolhpanpeiaa
/- THE CELL 'sum', in the pinned program and in every row, IS THE sha256 OF THE DUMP (.gsa) THAT YtnfpolhpanpeiaaProg.lean LOADS. Nothing in Lean hashes anything: it is a label: what it is worth is what the hold of that sum in a sandbox is worth. -/
noncomputable def Try.pinned : Pinned := { name := "ytnfpolhpanpeiaa", sum := "3b63cec794cc620b4d24e955184781ee2b201838ffb72bde764ab4d76f29634c", checked := Try.checked }
namespace Rows
def none {H : Type} : Left H := { results := [], args := [] }

/-- 'laws.FnExactPartsOf': WHATEVER THE INPUT: true; the input reads as it did. -/
def fnExactPartsOfSpec : ChangeSpec := { name := "fnExactPartsOf", fn := fun _ => fun
  | [d] => { results := [.lit (.bool true)], args := [d] }
  | _ => none }
def fnExactPartsOfRow : OpenClaim := { program := "ytnfpolhpanpeiaa", sum := "3b63cec794cc620b4d24e955184781ee2b201838ffb72bde764ab4d76f29634c", func := "loop.example/g00649/laws.FnExactPartsOf", spec := "fnExactPartsOf", recurses := true, apart := false }
def FnExactPartsOfSaid : Prop := fnExactPartsOfRow.holds Try.pinned (OpenSpec.ofChange fnExactPartsOfSpec)

/-- ITS FALSE NEIGHBOUR: 'it returns false'. Refute it at one input. -/
def fnExactPartsOfWrong : ChangeSpec := { name := "fnExactPartsOf", fn := fun _ => fun
  | [d] => { results := [.lit (.bool false)], args := [d] }
  | _ => none }
def FnExactPartsOfWrongFalsely : Prop := fnExactPartsOfRow.holds Try.pinned (OpenSpec.ofChange fnExactPartsOfWrong)

/-- 'laws.FnExactLevelsOf': WHATEVER THE INPUT: true; the input reads as it did. -/
def fnExactLevelsOfSpec : ChangeSpec := { name := "fnExactLevelsOf", fn := fun _ => fun
  | [d] => { results := [.lit (.bool true)], args := [d] }
  | _ => none }
def fnExactLevelsOfRow : OpenClaim := { program := "ytnfpolhpanpeiaa", sum := "3b63cec794cc620b4d24e955184781ee2b201838ffb72bde764ab4d76f29634c", func := "loop.example/g00649/laws.FnExactLevelsOf", spec := "fnExactLevelsOf", unfollowed := true, recurses := true, apart := false }
def FnExactLevelsOfSaid : Prop := fnExactLevelsOfRow.holds Try.pinned (OpenSpec.ofChange fnExactLevelsOfSpec)

/-- ITS FALSE NEIGHBOUR: 'it returns false'. Refute it at one input. -/
def fnExactLevelsOfWrong : ChangeSpec := { name := "fnExactLevelsOf", fn := fun _ => fun
  | [d] => { results := [.lit (.bool false)], args := [d] }
  | _ => none }
def FnExactLevelsOfWrongFalsely : Prop := fnExactLevelsOfRow.holds Try.pinned (OpenSpec.ofChange fnExactLevelsOfWrong)

/-- 'laws.FnExactFairPoints': WHATEVER THE INPUT: true; the input reads as it did. -/
def fnExactFairPointsSpec : ChangeSpec := { name := "fnExactFairPoints", fn := fun _ => fun
  | [d1, d2] => { results := [.lit (.bool true)], args := [d1, d2] }
  | _ => none }
def fnExactFairPointsRow : OpenClaim := { program := "ytnfpolhpanpeiaa", sum := "3b63cec794cc620b4d24e955184781ee2b201838ffb72bde764ab4d76f29634c", func := "loop.example/g00649/laws.FnExactFairPoints", spec := "fnExactFairPoints", unfollowed := true, recurses := true, apart := false }
def FnExactFairPointsSaid : Prop := fnExactFairPointsRow.holds Try.pinned (OpenSpec.ofChange fnExactFairPointsSpec)

/-- ITS FALSE NEIGHBOUR: 'it returns false'. Refute it at one input. -/
def fnExactFairPointsWrong : ChangeSpec := { name := "fnExactFairPoints", fn := fun _ => fun
  | [d1, d2] => { results := [.lit (.bool false)], args := [d1, d2] }
  | _ => none }
def FnExactFairPointsWrongFalsely : Prop := fnExactFairPointsRow.holds Try.pinned (OpenSpec.ofChange fnExactFairPointsWrong)

/-- 'laws.FnExactFairLasso': WHATEVER THE INPUT: true; the input reads as it did. -/
def fnExactFairLassoSpec : ChangeSpec := { name := "fnExactFairLasso", fn := fun _ => fun
  | [d1, d2, d3] => { results := [.lit (.bool true)], args := [d1, d2, d3] }
  | _ => none }
def fnExactFairLassoRow : OpenClaim := { program := "ytnfpolhpanpeiaa", sum := "3b63cec794cc620b4d24e955184781ee2b201838ffb72bde764ab4d76f29634c", func := "loop.example/g00649/laws.FnExactFairLasso", spec := "fnExactFairLasso", unfollowed := true, recurses := true, apart := false }
def FnExactFairLassoSaid : Prop := fnExactFairLassoRow.holds Try.pinned (OpenSpec.ofChange fnExactFairLassoSpec)

/-- ITS FALSE NEIGHBOUR: 'it returns false'. Refute it at one input. -/
def fnExactFairLassoWrong : ChangeSpec := { name := "fnExactFairLasso", fn := fun _ => fun
  | [d1, d2, d3] => { results := [.lit (.bool false)], args := [d1, d2, d3] }
  | _ => none }
def FnExactFairLassoWrongFalsely : Prop := fnExactFairLassoRow.holds Try.pinned (OpenSpec.ofChange fnExactFairLassoWrong)

/- THE SECOND FORM. 'bulk': how many values and letters a reading holds, each counted each time it is reached (what is shared counts as often as it is met; a slice's spare places count too). A statement '..UptoSaid' is the law's where the arguments, and the package variables that the reading takes, are together of bulk at most 1048576: NARROWER than '..Said'. Prove '..Said' where nothing that the law and all that it calls make is longer than what came in: it says more and counts as full. Else prove '..UptoSaid'. A law counts once. -/
mutual
def uptoBulk {H : Type} : DataW H → Nat
  | .lit (.string bytes) => bytes.length + 1
  | .lit _ => 1
  | .nil => 1
  | .ptr d => uptoBulk d + 1
  | .slice elems spare => uptoBulkAll elems + uptoBulkAll spare + 1
  | .agg parts => uptoBulkAll parts + 1
  | .iface _ d => uptoBulk d + 1
  | .map entries => uptoBulkEntries entries + 1
  | .held _ => 1
def uptoBulkAll {H : Type} : List (DataW H) → Nat
  | [] => 0
  | d :: r => uptoBulk d + uptoBulkAll r
def uptoBulkEntries {H : Type} : List (Lit × DataW H) → Nat
  | [] => 0
  | x :: r => uptoBulkEntry x + uptoBulkEntries r
def uptoBulkEntry {H : Type} : Lit × DataW H → Nat
  | (.string bytes, d) => bytes.length + uptoBulk d + 1
  | (_, d) => uptoBulk d + 1
 end
def uptoSmall : (H : Type) → List (DataW H) → Bool := fun _ ds => decide (uptoBulkAll ds ≤ 1048576)
def OpenSpec.upto (s : _root_.Go.ChangeSpec) : _root_.Go.OpenSpec := { _root_.Go.OpenSpec.ofChange s with cond := some uptoSmall }

/-- 'laws.FnExactPartsOf', WHERE WHAT IT READS IS OF BULK AT MOST 1048576: true; the input reads as it did. -/
def fnExactPartsOfUptoRow : OpenClaim := { program := "ytnfpolhpanpeiaa", sum := "3b63cec794cc620b4d24e955184781ee2b201838ffb72bde764ab4d76f29634c", func := "loop.example/g00649/laws.FnExactPartsOf", spec := "fnExactPartsOf", recurses := true, apart := false, narrowed := true }
def FnExactPartsOfUptoSaid : Prop := fnExactPartsOfUptoRow.holds Try.pinned (OpenSpec.upto fnExactPartsOfSpec)

/-- 'laws.FnExactLevelsOf', WHERE WHAT IT READS IS OF BULK AT MOST 1048576: true; the input reads as it did. -/
def fnExactLevelsOfUptoRow : OpenClaim := { program := "ytnfpolhpanpeiaa", sum := "3b63cec794cc620b4d24e955184781ee2b201838ffb72bde764ab4d76f29634c", func := "loop.example/g00649/laws.FnExactLevelsOf", spec := "fnExactLevelsOf", unfollowed := true, recurses := true, apart := false, narrowed := true }
def FnExactLevelsOfUptoSaid : Prop := fnExactLevelsOfUptoRow.holds Try.pinned (OpenSpec.upto fnExactLevelsOfSpec)

/-- 'laws.FnExactFairPoints', WHERE WHAT IT READS IS OF BULK AT MOST 1048576: true; the input reads as it did. -/
def fnExactFairPointsUptoRow : OpenClaim := { program := "ytnfpolhpanpeiaa", sum := "3b63cec794cc620b4d24e955184781ee2b201838ffb72bde764ab4d76f29634c", func := "loop.example/g00649/laws.FnExactFairPoints", spec := "fnExactFairPoints", unfollowed := true, recurses := true, apart := false, narrowed := true }
def FnExactFairPointsUptoSaid : Prop := fnExactFairPointsUptoRow.holds Try.pinned (OpenSpec.upto fnExactFairPointsSpec)

/-- 'laws.FnExactFairLasso', WHERE WHAT IT READS IS OF BULK AT MOST 1048576: true; the input reads as it did. -/
def fnExactFairLassoUptoRow : OpenClaim := { program := "ytnfpolhpanpeiaa", sum := "3b63cec794cc620b4d24e955184781ee2b201838ffb72bde764ab4d76f29634c", func := "loop.example/g00649/laws.FnExactFairLasso", spec := "fnExactFairLasso", unfollowed := true, recurses := true, apart := false, narrowed := true }
def FnExactFairLassoUptoSaid : Prop := fnExactFairLassoUptoRow.holds Try.pinned (OpenSpec.upto fnExactFairLassoSpec)

end Rows
end Go.Proofs.Ytnfpolhpanpeiaa
