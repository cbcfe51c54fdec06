/-
  No cell of these rows narrows 'for every input' (looked for: loops, veiled, ifaces, maps, wideKeys, modest, calm, conditions, laid).
  DERIVED. THE GIVEN ROWS OF THIS SEAT. 12 by the template 'for every input the law returns true; each argument reads behind the call as it read before'; 0 by the template 'total and deterministic' (their statements: YtbgbidgnlioomaaTotals.lean).
  GIVEN WITH THE SEED: the statements are not yours to turn. If you find one false, say at which input.
  Laid BY PROGRAM, IN A SANDBOX (cutbox-rows.mjs): the forced cells as the released guide's own fill.sh prints them over the translation e95eb92068e85426… (all of the seat's roots in one cut). By AI agents, Wed Nov 11 2026. No macro, syntax, notation, axiom, sorry.
-/
import Derived.Test.YtbgbidgnlioomaaChecked
import GoSem.Claim
import GoSem.ClaimJoined
import GoSem.ClaimMapViews
import Derived.JoinedTies
import Derived.KernelRfl
namespace Go.Proofs.Ytbgbidgnlioomaa
/- THE CELL 'sum', in the pinned program and in every row, IS THE sha256 OF THE DUMP (.gsa) THAT YtbgbidgnlioomaaProg.lean LOADS. Nothing in Lean hashes anything: it is a label: what it is worth is what the hold of that sum in a sandbox is worth. -/
noncomputable def Try.pinned : Pinned := { name := "ytbgbidgnlioomaa", sum := "e95eb92068e85426f7dba3eeb3f377403baaa3d44242c92f79485770763fbdc4", checked := Try.checked }
namespace Rows
def none {H : Type} : Left H := { results := [], args := [] }

/-- 'laws.FnExactJoinSaid': WHATEVER THE INPUT: true; the input reads as it did. -/
def fnExactJoinSaidSpec : ChangeSpec := { name := "fnExactJoinSaid", fn := fun _ => fun
  | [d1, d2, d3] => { results := [.lit (.bool true)], args := [d1, d2, d3] }
  | _ => none }
def fnExactJoinSaidRow : OpenClaim := { program := "ytbgbidgnlioomaa", sum := "e95eb92068e85426f7dba3eeb3f377403baaa3d44242c92f79485770763fbdc4", func := "loop.example/g00649/laws.FnExactJoinSaid", spec := "fnExactJoinSaid", apart := false }
def FnExactJoinSaidSaid : Prop := fnExactJoinSaidRow.holds Try.pinned (OpenSpec.ofChange fnExactJoinSaidSpec)

/-- ITS FALSE NEIGHBOUR: 'it returns false'. Refute it at one input. -/
def fnExactJoinSaidWrong : ChangeSpec := { name := "fnExactJoinSaid", fn := fun _ => fun
  | [d1, d2, d3] => { results := [.lit (.bool false)], args := [d1, d2, d3] }
  | _ => none }
def FnExactJoinSaidWrongFalsely : Prop := fnExactJoinSaidRow.holds Try.pinned (OpenSpec.ofChange fnExactJoinSaidWrong)

/-- 'laws.FnExactSuffixOf': WHATEVER THE INPUT: true; the input reads as it did. -/
def fnExactSuffixOfSpec : ChangeSpec := { name := "fnExactSuffixOf", fn := fun _ => fun
  | [d1, d2] => { results := [.lit (.bool true)], args := [d1, d2] }
  | _ => none }
def fnExactSuffixOfRow : OpenClaim := { program := "ytbgbidgnlioomaa", sum := "e95eb92068e85426f7dba3eeb3f377403baaa3d44242c92f79485770763fbdc4", func := "loop.example/g00649/laws.FnExactSuffixOf", spec := "fnExactSuffixOf", unfollowed := true, recurses := true, apart := false }
def FnExactSuffixOfSaid : Prop := fnExactSuffixOfRow.holds Try.pinned (OpenSpec.ofChange fnExactSuffixOfSpec)

/-- ITS FALSE NEIGHBOUR: 'it returns false'. Refute it at one input. -/
def fnExactSuffixOfWrong : ChangeSpec := { name := "fnExactSuffixOf", fn := fun _ => fun
  | [d1, d2] => { results := [.lit (.bool false)], args := [d1, d2] }
  | _ => none }
def FnExactSuffixOfWrongFalsely : Prop := fnExactSuffixOfRow.holds Try.pinned (OpenSpec.ofChange fnExactSuffixOfWrong)

/-- 'laws.FnExactTurnArcs': WHATEVER THE INPUT: true; the input reads as it did. -/
def fnExactTurnArcsSpec : ChangeSpec := { name := "fnExactTurnArcs", fn := fun _ => fun
  | [d] => { results := [.lit (.bool true)], args := [d] }
  | _ => none }
def fnExactTurnArcsRow : OpenClaim := { program := "ytbgbidgnlioomaa", sum := "e95eb92068e85426f7dba3eeb3f377403baaa3d44242c92f79485770763fbdc4", func := "loop.example/g00649/laws.FnExactTurnArcs", spec := "fnExactTurnArcs", apart := false }
def FnExactTurnArcsSaid : Prop := fnExactTurnArcsRow.holds Try.pinned (OpenSpec.ofChange fnExactTurnArcsSpec)

/-- ITS FALSE NEIGHBOUR: 'it returns false'. Refute it at one input. -/
def fnExactTurnArcsWrong : ChangeSpec := { name := "fnExactTurnArcs", fn := fun _ => fun
  | [d] => { results := [.lit (.bool false)], args := [d] }
  | _ => none }
def FnExactTurnArcsWrongFalsely : Prop := fnExactTurnArcsRow.holds Try.pinned (OpenSpec.ofChange fnExactTurnArcsWrong)

/-- 'laws.FnExactLeastLasso': WHATEVER THE INPUT: true; the input reads as it did. -/
def fnExactLeastLassoSpec : ChangeSpec := { name := "fnExactLeastLasso", fn := fun _ => fun
  | [d] => { results := [.lit (.bool true)], args := [d] }
  | _ => none }
def fnExactLeastLassoRow : OpenClaim := { program := "ytbgbidgnlioomaa", sum := "e95eb92068e85426f7dba3eeb3f377403baaa3d44242c92f79485770763fbdc4", func := "loop.example/g00649/laws.FnExactLeastLasso", spec := "fnExactLeastLasso", unfollowed := true, recurses := true, apart := false }
def FnExactLeastLassoSaid : Prop := fnExactLeastLassoRow.holds Try.pinned (OpenSpec.ofChange fnExactLeastLassoSpec)

/-- ITS FALSE NEIGHBOUR: 'it returns false'. Refute it at one input. -/
def fnExactLeastLassoWrong : ChangeSpec := { name := "fnExactLeastLasso", fn := fun _ => fun
  | [d] => { results := [.lit (.bool false)], args := [d] }
  | _ => none }
def FnExactLeastLassoWrongFalsely : Prop := fnExactLeastLassoRow.holds Try.pinned (OpenSpec.ofChange fnExactLeastLassoWrong)

/-- 'laws.FnExactReadSaid': WHATEVER THE INPUT: true; the input reads as it did. -/
def fnExactReadSaidSpec : ChangeSpec := { name := "fnExactReadSaid", fn := fun _ => fun
  | [d] => { results := [.lit (.bool true)], args := [d] }
  | _ => none }
def fnExactReadSaidRow : OpenClaim := { program := "ytbgbidgnlioomaa", sum := "e95eb92068e85426f7dba3eeb3f377403baaa3d44242c92f79485770763fbdc4", func := "loop.example/g00649/laws.FnExactReadSaid", spec := "fnExactReadSaid", inPlace := ["internal/bytealg.IndexByteString"], recurses := true, apart := false }
def FnExactReadSaidSaid : Prop := fnExactReadSaidRow.holds Try.pinned (OpenSpec.ofChange fnExactReadSaidSpec)

/-- ITS FALSE NEIGHBOUR: 'it returns false'. Refute it at one input. -/
def fnExactReadSaidWrong : ChangeSpec := { name := "fnExactReadSaid", fn := fun _ => fun
  | [d] => { results := [.lit (.bool false)], args := [d] }
  | _ => none }
def FnExactReadSaidWrongFalsely : Prop := fnExactReadSaidRow.holds Try.pinned (OpenSpec.ofChange fnExactReadSaidWrong)

/-- 'laws.FnExactPushNot': WHATEVER THE INPUT: true; the input reads as it did. -/
def fnExactPushNotSpec : ChangeSpec := { name := "fnExactPushNot", fn := fun _ => fun
  | [d1, d2] => { results := [.lit (.bool true)], args := [d1, d2] }
  | _ => none }
def fnExactPushNotRow : OpenClaim := { program := "ytbgbidgnlioomaa", sum := "e95eb92068e85426f7dba3eeb3f377403baaa3d44242c92f79485770763fbdc4", func := "loop.example/g00649/laws.FnExactPushNot", spec := "fnExactPushNot", recurses := true, apart := false }
def FnExactPushNotSaid : Prop := fnExactPushNotRow.holds Try.pinned (OpenSpec.ofChange fnExactPushNotSpec)

/-- ITS FALSE NEIGHBOUR: 'it returns false'. Refute it at one input. -/
def fnExactPushNotWrong : ChangeSpec := { name := "fnExactPushNot", fn := fun _ => fun
  | [d1, d2] => { results := [.lit (.bool false)], args := [d1, d2] }
  | _ => none }
def FnExactPushNotWrongFalsely : Prop := fnExactPushNotRow.holds Try.pinned (OpenSpec.ofChange fnExactPushNotWrong)

/-- 'laws.FnExactGoodAuto': WHATEVER THE INPUT: true; the input reads as it did. -/
def fnExactGoodAutoSpec : ChangeSpec := { name := "fnExactGoodAuto", fn := fun _ => fun
  | [d] => { results := [.lit (.bool true)], args := [d] }
  | _ => none }
def fnExactGoodAutoRow : OpenClaim := { program := "ytbgbidgnlioomaa", sum := "e95eb92068e85426f7dba3eeb3f377403baaa3d44242c92f79485770763fbdc4", func := "loop.example/g00649/laws.FnExactGoodAuto", spec := "fnExactGoodAuto", unfollowed := true, recurses := true, apart := false }
def FnExactGoodAutoSaid : Prop := fnExactGoodAutoRow.holds Try.pinned (OpenSpec.ofChange fnExactGoodAutoSpec)

/-- ITS FALSE NEIGHBOUR: 'it returns false'. Refute it at one input. -/
def fnExactGoodAutoWrong : ChangeSpec := { name := "fnExactGoodAuto", fn := fun _ => fun
  | [d] => { results := [.lit (.bool false)], args := [d] }
  | _ => none }
def FnExactGoodAutoWrongFalsely : Prop := fnExactGoodAutoRow.holds Try.pinned (OpenSpec.ofChange fnExactGoodAutoWrong)

/-- 'laws.FnExactOnCircle': WHATEVER THE INPUT: true; the input reads as it did. -/
def fnExactOnCircleSpec : ChangeSpec := { name := "fnExactOnCircle", fn := fun _ => fun
  | [d1, d2] => { results := [.lit (.bool true)], args := [d1, d2] }
  | _ => none }
def fnExactOnCircleRow : OpenClaim := { program := "ytbgbidgnlioomaa", sum := "e95eb92068e85426f7dba3eeb3f377403baaa3d44242c92f79485770763fbdc4", func := "loop.example/g00649/laws.FnExactOnCircle", spec := "fnExactOnCircle", apart := false }
def FnExactOnCircleSaid : Prop := fnExactOnCircleRow.holds Try.pinned (OpenSpec.ofChange fnExactOnCircleSpec)

/-- ITS FALSE NEIGHBOUR: 'it returns false'. Refute it at one input. -/
def fnExactOnCircleWrong : ChangeSpec := { name := "fnExactOnCircle", fn := fun _ => fun
  | [d1, d2] => { results := [.lit (.bool false)], args := [d1, d2] }
  | _ => none }
def FnExactOnCircleWrongFalsely : Prop := fnExactOnCircleRow.holds Try.pinned (OpenSpec.ofChange fnExactOnCircleWrong)

/-- 'laws.FnExactReachFrom': WHATEVER THE INPUT: true; the input reads as it did. -/
def fnExactReachFromSpec : ChangeSpec := { name := "fnExactReachFrom", fn := fun _ => fun
  | [d1, d2] => { results := [.lit (.bool true)], args := [d1, d2] }
  | _ => none }
def fnExactReachFromRow : OpenClaim := { program := "ytbgbidgnlioomaa", sum := "e95eb92068e85426f7dba3eeb3f377403baaa3d44242c92f79485770763fbdc4", func := "loop.example/g00649/laws.FnExactReachFrom", spec := "fnExactReachFrom", apart := false }
def FnExactReachFromSaid : Prop := fnExactReachFromRow.holds Try.pinned (OpenSpec.ofChange fnExactReachFromSpec)

/-- ITS FALSE NEIGHBOUR: 'it returns false'. Refute it at one input. -/
def fnExactReachFromWrong : ChangeSpec := { name := "fnExactReachFrom", fn := fun _ => fun
  | [d1, d2] => { results := [.lit (.bool false)], args := [d1, d2] }
  | _ => none }
def FnExactReachFromWrongFalsely : Prop := fnExactReachFromRow.holds Try.pinned (OpenSpec.ofChange fnExactReachFromWrong)

/-- 'laws.FnExactPartsOf': WHATEVER THE INPUT: true; the input reads as it did. -/
def fnExactPartsOfSpec : ChangeSpec := { name := "fnExactPartsOf", fn := fun _ => fun
  | [d] => { results := [.lit (.bool true)], args := [d] }
  | _ => none }
def fnExactPartsOfRow : OpenClaim := { program := "ytbgbidgnlioomaa", sum := "e95eb92068e85426f7dba3eeb3f377403baaa3d44242c92f79485770763fbdc4", func := "loop.example/g00649/laws.FnExactPartsOf", spec := "fnExactPartsOf", recurses := true, apart := false }
def FnExactPartsOfSaid : Prop := fnExactPartsOfRow.holds Try.pinned (OpenSpec.ofChange fnExactPartsOfSpec)

/-- ITS FALSE NEIGHBOUR: 'it returns false'. Refute it at one input. -/
def fnExactPartsOfWrong : ChangeSpec := { name := "fnExactPartsOf", fn := fun _ => fun
  | [d] => { results := [.lit (.bool false)], args := [d] }
  | _ => none }
def FnExactPartsOfWrongFalsely : Prop := fnExactPartsOfRow.holds Try.pinned (OpenSpec.ofChange fnExactPartsOfWrong)

/-- 'laws.FnExactStutterAt': WHATEVER THE INPUT: true; the input reads as it did. -/
def fnExactStutterAtSpec : ChangeSpec := { name := "fnExactStutterAt", fn := fun _ => fun
  | [d1, d2] => { results := [.lit (.bool true)], args := [d1, d2] }
  | _ => none }
def fnExactStutterAtRow : OpenClaim := { program := "ytbgbidgnlioomaa", sum := "e95eb92068e85426f7dba3eeb3f377403baaa3d44242c92f79485770763fbdc4", func := "loop.example/g00649/laws.FnExactStutterAt", spec := "fnExactStutterAt", inPlace := ["slices.overlaps[int]"], unfollowed := true, recurses := true, apart := false }
def FnExactStutterAtSaid : Prop := fnExactStutterAtRow.holds Try.pinned (OpenSpec.ofChange fnExactStutterAtSpec)

/-- ITS FALSE NEIGHBOUR: 'it returns false'. Refute it at one input. -/
def fnExactStutterAtWrong : ChangeSpec := { name := "fnExactStutterAt", fn := fun _ => fun
  | [d1, d2] => { results := [.lit (.bool false)], args := [d1, d2] }
  | _ => none }
def FnExactStutterAtWrongFalsely : Prop := fnExactStutterAtRow.holds Try.pinned (OpenSpec.ofChange fnExactStutterAtWrong)

/-- 'laws.FnExactShortPath': WHATEVER THE INPUT: true; the input reads as it did. -/
def fnExactShortPathSpec : ChangeSpec := { name := "fnExactShortPath", fn := fun _ => fun
  | [d1, d2, d3] => { results := [.lit (.bool true)], args := [d1, d2, d3] }
  | _ => none }
def fnExactShortPathRow : OpenClaim := { program := "ytbgbidgnlioomaa", sum := "e95eb92068e85426f7dba3eeb3f377403baaa3d44242c92f79485770763fbdc4", func := "loop.example/g00649/laws.FnExactShortPath", spec := "fnExactShortPath", unfollowed := true, recurses := true, apart := false }
def FnExactShortPathSaid : Prop := fnExactShortPathRow.holds Try.pinned (OpenSpec.ofChange fnExactShortPathSpec)

/-- ITS FALSE NEIGHBOUR: 'it returns false'. Refute it at one input. -/
def fnExactShortPathWrong : ChangeSpec := { name := "fnExactShortPath", fn := fun _ => fun
  | [d1, d2, d3] => { results := [.lit (.bool false)], args := [d1, d2, d3] }
  | _ => none }
def FnExactShortPathWrongFalsely : Prop := fnExactShortPathRow.holds Try.pinned (OpenSpec.ofChange fnExactShortPathWrong)

/- THE SECOND FORM. 'bulk': how many values and letters a reading holds, each counted each time it is reached (what is shared counts as often as it is met; a slice's spare places count too). A statement '..UptoSaid' is the law's where the arguments, and the package variables that the reading takes, are together of bulk at most 1048576: NARROWER than '..Said'. Prove '..Said' where nothing that the law and all that it calls make is longer than what came in: it says more and counts as full. Else prove '..UptoSaid'. A law counts once. -/
mutual
def uptoBulk {H : Type} : DataW H → Nat
  | .lit (.string bytes) => bytes.length + 1
  | .lit _ => 1
  | .nil => 1
  | .ptr d => uptoBulk d + 1
  | .slice elems spare => uptoBulkAll elems + uptoBulkAll spare + 1
  | .agg parts => uptoBulkAll parts + 1
  | .iface _ d => uptoBulk d + 1
  | .map entries => uptoBulkEntries entries + 1
  | .held _ => 1
def uptoBulkAll {H : Type} : List (DataW H) → Nat
  | [] => 0
  | d :: r => uptoBulk d + uptoBulkAll r
def uptoBulkEntries {H : Type} : List (Lit × DataW H) → Nat
  | [] => 0
  | x :: r => uptoBulkEntry x + uptoBulkEntries r
def uptoBulkEntry {H : Type} : Lit × DataW H → Nat
  | (.string bytes, d) => bytes.length + uptoBulk d + 1
  | (_, d) => uptoBulk d + 1
 end
def uptoSmall : (H : Type) → List (DataW H) → Bool := fun _ ds => decide (uptoBulkAll ds ≤ 1048576)
def OpenSpec.upto (s : _root_.Go.ChangeSpec) : _root_.Go.OpenSpec := { _root_.Go.OpenSpec.ofChange s with cond := some uptoSmall }

/-- 'laws.FnExactJoinSaid', WHERE WHAT IT READS IS OF BULK AT MOST 1048576: true; the input reads as it did. -/
def fnExactJoinSaidUptoRow : OpenClaim := { program := "ytbgbidgnlioomaa", sum := "e95eb92068e85426f7dba3eeb3f377403baaa3d44242c92f79485770763fbdc4", func := "loop.example/g00649/laws.FnExactJoinSaid", spec := "fnExactJoinSaid", apart := false, narrowed := true }
def FnExactJoinSaidUptoSaid : Prop := fnExactJoinSaidUptoRow.holds Try.pinned (OpenSpec.upto fnExactJoinSaidSpec)

/-- 'laws.FnExactSuffixOf', WHERE WHAT IT READS IS OF BULK AT MOST 1048576: true; the input reads as it did. -/
def fnExactSuffixOfUptoRow : OpenClaim := { program := "ytbgbidgnlioomaa", sum := "e95eb92068e85426f7dba3eeb3f377403baaa3d44242c92f79485770763fbdc4", func := "loop.example/g00649/laws.FnExactSuffixOf", spec := "fnExactSuffixOf", unfollowed := true, recurses := true, apart := false, narrowed := true }
def FnExactSuffixOfUptoSaid : Prop := fnExactSuffixOfUptoRow.holds Try.pinned (OpenSpec.upto fnExactSuffixOfSpec)

/-- 'laws.FnExactTurnArcs', WHERE WHAT IT READS IS OF BULK AT MOST 1048576: true; the input reads as it did. -/
def fnExactTurnArcsUptoRow : OpenClaim := { program := "ytbgbidgnlioomaa", sum := "e95eb92068e85426f7dba3eeb3f377403baaa3d44242c92f79485770763fbdc4", func := "loop.example/g00649/laws.FnExactTurnArcs", spec := "fnExactTurnArcs", apart := false, narrowed := true }
def FnExactTurnArcsUptoSaid : Prop := fnExactTurnArcsUptoRow.holds Try.pinned (OpenSpec.upto fnExactTurnArcsSpec)

/-- 'laws.FnExactLeastLasso', WHERE WHAT IT READS IS OF BULK AT MOST 1048576: true; the input reads as it did. -/
def fnExactLeastLassoUptoRow : OpenClaim := { program := "ytbgbidgnlioomaa", sum := "e95eb92068e85426f7dba3eeb3f377403baaa3d44242c92f79485770763fbdc4", func := "loop.example/g00649/laws.FnExactLeastLasso", spec := "fnExactLeastLasso", unfollowed := true, recurses := true, apart := false, narrowed := true }
def FnExactLeastLassoUptoSaid : Prop := fnExactLeastLassoUptoRow.holds Try.pinned (OpenSpec.upto fnExactLeastLassoSpec)

/-- 'laws.FnExactReadSaid', WHERE WHAT IT READS IS OF BULK AT MOST 1048576: true; the input reads as it did. -/
def fnExactReadSaidUptoRow : OpenClaim := { program := "ytbgbidgnlioomaa", sum := "e95eb92068e85426f7dba3eeb3f377403baaa3d44242c92f79485770763fbdc4", func := "loop.example/g00649/laws.FnExactReadSaid", spec := "fnExactReadSaid", inPlace := ["internal/bytealg.IndexByteString"], recurses := true, apart := false, narrowed := true }
def FnExactReadSaidUptoSaid : Prop := fnExactReadSaidUptoRow.holds Try.pinned (OpenSpec.upto fnExactReadSaidSpec)

/-- 'laws.FnExactPushNot', WHERE WHAT IT READS IS OF BULK AT MOST 1048576: true; the input reads as it did. -/
def fnExactPushNotUptoRow : OpenClaim := { program := "ytbgbidgnlioomaa", sum := "e95eb92068e85426f7dba3eeb3f377403baaa3d44242c92f79485770763fbdc4", func := "loop.example/g00649/laws.FnExactPushNot", spec := "fnExactPushNot", recurses := true, apart := false, narrowed := true }
def FnExactPushNotUptoSaid : Prop := fnExactPushNotUptoRow.holds Try.pinned (OpenSpec.upto fnExactPushNotSpec)

/-- 'laws.FnExactGoodAuto', WHERE WHAT IT READS IS OF BULK AT MOST 1048576: true; the input reads as it did. -/
def fnExactGoodAutoUptoRow : OpenClaim := { program := "ytbgbidgnlioomaa", sum := "e95eb92068e85426f7dba3eeb3f377403baaa3d44242c92f79485770763fbdc4", func := "loop.example/g00649/laws.FnExactGoodAuto", spec := "fnExactGoodAuto", unfollowed := true, recurses := true, apart := false, narrowed := true }
def FnExactGoodAutoUptoSaid : Prop := fnExactGoodAutoUptoRow.holds Try.pinned (OpenSpec.upto fnExactGoodAutoSpec)

/-- 'laws.FnExactOnCircle', WHERE WHAT IT READS IS OF BULK AT MOST 1048576: true; the input reads as it did. -/
def fnExactOnCircleUptoRow : OpenClaim := { program := "ytbgbidgnlioomaa", sum := "e95eb92068e85426f7dba3eeb3f377403baaa3d44242c92f79485770763fbdc4", func := "loop.example/g00649/laws.FnExactOnCircle", spec := "fnExactOnCircle", apart := false, narrowed := true }
def FnExactOnCircleUptoSaid : Prop := fnExactOnCircleUptoRow.holds Try.pinned (OpenSpec.upto fnExactOnCircleSpec)

/-- 'laws.FnExactReachFrom', WHERE WHAT IT READS IS OF BULK AT MOST 1048576: true; the input reads as it did. -/
def fnExactReachFromUptoRow : OpenClaim := { program := "ytbgbidgnlioomaa", sum := "e95eb92068e85426f7dba3eeb3f377403baaa3d44242c92f79485770763fbdc4", func := "loop.example/g00649/laws.FnExactReachFrom", spec := "fnExactReachFrom", apart := false, narrowed := true }
def FnExactReachFromUptoSaid : Prop := fnExactReachFromUptoRow.holds Try.pinned (OpenSpec.upto fnExactReachFromSpec)

/-- 'laws.FnExactPartsOf', WHERE WHAT IT READS IS OF BULK AT MOST 1048576: true; the input reads as it did. -/
def fnExactPartsOfUptoRow : OpenClaim := { program := "ytbgbidgnlioomaa", sum := "e95eb92068e85426f7dba3eeb3f377403baaa3d44242c92f79485770763fbdc4", func := "loop.example/g00649/laws.FnExactPartsOf", spec := "fnExactPartsOf", recurses := true, apart := false, narrowed := true }
def FnExactPartsOfUptoSaid : Prop := fnExactPartsOfUptoRow.holds Try.pinned (OpenSpec.upto fnExactPartsOfSpec)

/-- 'laws.FnExactStutterAt', WHERE WHAT IT READS IS OF BULK AT MOST 1048576: true; the input reads as it did. -/
def fnExactStutterAtUptoRow : OpenClaim := { program := "ytbgbidgnlioomaa", sum := "e95eb92068e85426f7dba3eeb3f377403baaa3d44242c92f79485770763fbdc4", func := "loop.example/g00649/laws.FnExactStutterAt", spec := "fnExactStutterAt", inPlace := ["slices.overlaps[int]"], unfollowed := true, recurses := true, apart := false, narrowed := true }
def FnExactStutterAtUptoSaid : Prop := fnExactStutterAtUptoRow.holds Try.pinned (OpenSpec.upto fnExactStutterAtSpec)

/-- 'laws.FnExactShortPath', WHERE WHAT IT READS IS OF BULK AT MOST 1048576: true; the input reads as it did. -/
def fnExactShortPathUptoRow : OpenClaim := { program := "ytbgbidgnlioomaa", sum := "e95eb92068e85426f7dba3eeb3f377403baaa3d44242c92f79485770763fbdc4", func := "loop.example/g00649/laws.FnExactShortPath", spec := "fnExactShortPath", unfollowed := true, recurses := true, apart := false, narrowed := true }
def FnExactShortPathUptoSaid : Prop := fnExactShortPathUptoRow.holds Try.pinned (OpenSpec.upto fnExactShortPathSpec)

end Rows
end Go.Proofs.Ytbgbidgnlioomaa
