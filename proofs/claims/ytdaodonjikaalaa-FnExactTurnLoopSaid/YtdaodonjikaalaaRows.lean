/-
  No cell of these rows narrows 'for every input' (looked for: loops, veiled, ifaces, maps, wideKeys, modest, calm, conditions, laid).
  DERIVED. THE GIVEN ROWS OF THIS SEAT. 12 by the template 'for every input the law returns true; each argument reads behind the call as it read before'; 0 by the template 'total and deterministic' (their statements: YtdaodonjikaalaaTotals.lean).
  GIVEN WITH THE SEED: the statements are not yours to turn. If you find one false, say at which input.
  Laid BY PROGRAM, IN A SANDBOX (cutbox-rows.mjs): the forced cells as the released guide's own fill.sh prints them over the translation d4f148d46354074e… (all of the seat's roots in one cut). By AI agents, Wed Nov 11 2026. No macro, syntax, notation, axiom, sorry.
-/
import Derived.Test.YtdaodonjikaalaaChecked
import GoSem.Claim
import GoSem.ClaimJoined
import GoSem.ClaimMapViews
import Derived.JoinedTies
import Derived.KernelRfl
namespace Go.Proofs.Ytdaodonjikaalaa
/- THE CELL 'sum', in the pinned program and in every row, IS THE sha256 OF THE DUMP (.gsa) THAT YtdaodonjikaalaaProg.lean LOADS. Nothing in Lean hashes anything: it is a label: what it is worth is what the hold of that sum in a sandbox is worth. -/
noncomputable def Try.pinned : Pinned := { name := "ytdaodonjikaalaa", sum := "d4f148d46354074ebe48ba7af38c0edd49f12cd65c086168a55fd3986e71bbbf", checked := Try.checked }
namespace Rows
def none {H : Type} : Left H := { results := [], args := [] }

/-- 'laws.FnExactGoodLasso': WHATEVER THE INPUT: true; the input reads as it did. -/
def fnExactGoodLassoSpec : ChangeSpec := { name := "fnExactGoodLasso", fn := fun _ => fun
  | [d] => { results := [.lit (.bool true)], args := [d] }
  | _ => none }
def fnExactGoodLassoRow : OpenClaim := { program := "ytdaodonjikaalaa", sum := "d4f148d46354074ebe48ba7af38c0edd49f12cd65c086168a55fd3986e71bbbf", func := "loop.example/g00649/laws.FnExactGoodLasso", spec := "fnExactGoodLasso", unfollowed := true, recurses := true, apart := false }
def FnExactGoodLassoSaid : Prop := fnExactGoodLassoRow.holds Try.pinned (OpenSpec.ofChange fnExactGoodLassoSpec)

/-- ITS FALSE NEIGHBOUR: 'it returns false'. Refute it at one input. -/
def fnExactGoodLassoWrong : ChangeSpec := { name := "fnExactGoodLasso", fn := fun _ => fun
  | [d] => { results := [.lit (.bool false)], args := [d] }
  | _ => none }
def FnExactGoodLassoWrongFalsely : Prop := fnExactGoodLassoRow.holds Try.pinned (OpenSpec.ofChange fnExactGoodLassoWrong)

/-- 'laws.FnExactLetterAt': WHATEVER THE INPUT: true; the input reads as it did. -/
def fnExactLetterAtSpec : ChangeSpec := { name := "fnExactLetterAt", fn := fun _ => fun
  | [d1, d2] => { results := [.lit (.bool true)], args := [d1, d2] }
  | _ => none }
def fnExactLetterAtRow : OpenClaim := { program := "ytdaodonjikaalaa", sum := "d4f148d46354074ebe48ba7af38c0edd49f12cd65c086168a55fd3986e71bbbf", func := "loop.example/g00649/laws.FnExactLetterAt", spec := "fnExactLetterAt", unfollowed := true, recurses := true, apart := false }
def FnExactLetterAtSaid : Prop := fnExactLetterAtRow.holds Try.pinned (OpenSpec.ofChange fnExactLetterAtSpec)

/-- ITS FALSE NEIGHBOUR: 'it returns false'. Refute it at one input. -/
def fnExactLetterAtWrong : ChangeSpec := { name := "fnExactLetterAt", fn := fun _ => fun
  | [d1, d2] => { results := [.lit (.bool false)], args := [d1, d2] }
  | _ => none }
def FnExactLetterAtWrongFalsely : Prop := fnExactLetterAtRow.holds Try.pinned (OpenSpec.ofChange fnExactLetterAtWrong)

/-- 'laws.FnExactGoodSaid': WHATEVER THE INPUT: true; the input reads as it did. -/
def fnExactGoodSaidSpec : ChangeSpec := { name := "fnExactGoodSaid", fn := fun _ => fun
  | [d] => { results := [.lit (.bool true)], args := [d] }
  | _ => none }
def fnExactGoodSaidRow : OpenClaim := { program := "ytdaodonjikaalaa", sum := "d4f148d46354074ebe48ba7af38c0edd49f12cd65c086168a55fd3986e71bbbf", func := "loop.example/g00649/laws.FnExactGoodSaid", spec := "fnExactGoodSaid", apart := false }
def FnExactGoodSaidSaid : Prop := fnExactGoodSaidRow.holds Try.pinned (OpenSpec.ofChange fnExactGoodSaidSpec)

/-- ITS FALSE NEIGHBOUR: 'it returns false'. Refute it at one input. -/
def fnExactGoodSaidWrong : ChangeSpec := { name := "fnExactGoodSaid", fn := fun _ => fun
  | [d] => { results := [.lit (.bool false)], args := [d] }
  | _ => none }
def FnExactGoodSaidWrongFalsely : Prop := fnExactGoodSaidRow.holds Try.pinned (OpenSpec.ofChange fnExactGoodSaidWrong)

/-- 'laws.FnExactGoodGraph': WHATEVER THE INPUT: true; the input reads as it did. -/
def fnExactGoodGraphSpec : ChangeSpec := { name := "fnExactGoodGraph", fn := fun _ => fun
  | [d] => { results := [.lit (.bool true)], args := [d] }
  | _ => none }
def fnExactGoodGraphRow : OpenClaim := { program := "ytdaodonjikaalaa", sum := "d4f148d46354074ebe48ba7af38c0edd49f12cd65c086168a55fd3986e71bbbf", func := "loop.example/g00649/laws.FnExactGoodGraph", spec := "fnExactGoodGraph", apart := false }
def FnExactGoodGraphSaid : Prop := fnExactGoodGraphRow.holds Try.pinned (OpenSpec.ofChange fnExactGoodGraphSpec)

/-- ITS FALSE NEIGHBOUR: 'it returns false'. Refute it at one input. -/
def fnExactGoodGraphWrong : ChangeSpec := { name := "fnExactGoodGraph", fn := fun _ => fun
  | [d] => { results := [.lit (.bool false)], args := [d] }
  | _ => none }
def FnExactGoodGraphWrongFalsely : Prop := fnExactGoodGraphRow.holds Try.pinned (OpenSpec.ofChange fnExactGoodGraphWrong)

/-- 'laws.FnRing': WHATEVER THE INPUT: true; the input reads as it did. -/
def fnRingSpec : ChangeSpec := { name := "fnRing", fn := fun _ => fun
  | [d1, d2] => { results := [.lit (.bool true)], args := [d1, d2] }
  | _ => none }
def fnRingRow : OpenClaim := { program := "ytdaodonjikaalaa", sum := "d4f148d46354074ebe48ba7af38c0edd49f12cd65c086168a55fd3986e71bbbf", func := "loop.example/g00649/laws.FnRing", spec := "fnRing", apart := false }
def FnRingSaid : Prop := fnRingRow.holds Try.pinned (OpenSpec.ofChange fnRingSpec)

/-- ITS FALSE NEIGHBOUR: 'it returns false'. Refute it at one input. -/
def fnRingWrong : ChangeSpec := { name := "fnRing", fn := fun _ => fun
  | [d1, d2] => { results := [.lit (.bool false)], args := [d1, d2] }
  | _ => none }
def FnRingWrongFalsely : Prop := fnRingRow.holds Try.pinned (OpenSpec.ofChange fnRingWrong)

/-- 'laws.FnExactIsPushed': WHATEVER THE INPUT: true; the input reads as it did. -/
def fnExactIsPushedSpec : ChangeSpec := { name := "fnExactIsPushed", fn := fun _ => fun
  | [d] => { results := [.lit (.bool true)], args := [d] }
  | _ => none }
def fnExactIsPushedRow : OpenClaim := { program := "ytdaodonjikaalaa", sum := "d4f148d46354074ebe48ba7af38c0edd49f12cd65c086168a55fd3986e71bbbf", func := "loop.example/g00649/laws.FnExactIsPushed", spec := "fnExactIsPushed", apart := false }
def FnExactIsPushedSaid : Prop := fnExactIsPushedRow.holds Try.pinned (OpenSpec.ofChange fnExactIsPushedSpec)

/-- ITS FALSE NEIGHBOUR: 'it returns false'. Refute it at one input. -/
def fnExactIsPushedWrong : ChangeSpec := { name := "fnExactIsPushed", fn := fun _ => fun
  | [d] => { results := [.lit (.bool false)], args := [d] }
  | _ => none }
def FnExactIsPushedWrongFalsely : Prop := fnExactIsPushedRow.holds Try.pinned (OpenSpec.ofChange fnExactIsPushedWrong)

/-- 'laws.FnExactUnrollOf': WHATEVER THE INPUT: true; the input reads as it did. -/
def fnExactUnrollOfSpec : ChangeSpec := { name := "fnExactUnrollOf", fn := fun _ => fun
  | [d1, d2] => { results := [.lit (.bool true)], args := [d1, d2] }
  | _ => none }
def fnExactUnrollOfRow : OpenClaim := { program := "ytdaodonjikaalaa", sum := "d4f148d46354074ebe48ba7af38c0edd49f12cd65c086168a55fd3986e71bbbf", func := "loop.example/g00649/laws.FnExactUnrollOf", spec := "fnExactUnrollOf", unfollowed := true, recurses := true, apart := false }
def FnExactUnrollOfSaid : Prop := fnExactUnrollOfRow.holds Try.pinned (OpenSpec.ofChange fnExactUnrollOfSpec)

/-- ITS FALSE NEIGHBOUR: 'it returns false'. Refute it at one input. -/
def fnExactUnrollOfWrong : ChangeSpec := { name := "fnExactUnrollOf", fn := fun _ => fun
  | [d1, d2] => { results := [.lit (.bool false)], args := [d1, d2] }
  | _ => none }
def FnExactUnrollOfWrongFalsely : Prop := fnExactUnrollOfRow.holds Try.pinned (OpenSpec.ofChange fnExactUnrollOfWrong)

/-- 'laws.FnExactSameWord': WHATEVER THE INPUT: true; the input reads as it did. -/
def fnExactSameWordSpec : ChangeSpec := { name := "fnExactSameWord", fn := fun _ => fun
  | [d1, d2] => { results := [.lit (.bool true)], args := [d1, d2] }
  | _ => none }
def fnExactSameWordRow : OpenClaim := { program := "ytdaodonjikaalaa", sum := "d4f148d46354074ebe48ba7af38c0edd49f12cd65c086168a55fd3986e71bbbf", func := "loop.example/g00649/laws.FnExactSameWord", spec := "fnExactSameWord", unfollowed := true, recurses := true, apart := false }
def FnExactSameWordSaid : Prop := fnExactSameWordRow.holds Try.pinned (OpenSpec.ofChange fnExactSameWordSpec)

/-- ITS FALSE NEIGHBOUR: 'it returns false'. Refute it at one input. -/
def fnExactSameWordWrong : ChangeSpec := { name := "fnExactSameWord", fn := fun _ => fun
  | [d1, d2] => { results := [.lit (.bool false)], args := [d1, d2] }
  | _ => none }
def FnExactSameWordWrongFalsely : Prop := fnExactSameWordRow.holds Try.pinned (OpenSpec.ofChange fnExactSameWordWrong)

/-- 'laws.FnExactNextDepth': WHATEVER THE INPUT: true; the input reads as it did. -/
def fnExactNextDepthSpec : ChangeSpec := { name := "fnExactNextDepth", fn := fun _ => fun
  | [d] => { results := [.lit (.bool true)], args := [d] }
  | _ => none }
def fnExactNextDepthRow : OpenClaim := { program := "ytdaodonjikaalaa", sum := "d4f148d46354074ebe48ba7af38c0edd49f12cd65c086168a55fd3986e71bbbf", func := "loop.example/g00649/laws.FnExactNextDepth", spec := "fnExactNextDepth", recurses := true, apart := false }
def FnExactNextDepthSaid : Prop := fnExactNextDepthRow.holds Try.pinned (OpenSpec.ofChange fnExactNextDepthSpec)

/-- ITS FALSE NEIGHBOUR: 'it returns false'. Refute it at one input. -/
def fnExactNextDepthWrong : ChangeSpec := { name := "fnExactNextDepth", fn := fun _ => fun
  | [d] => { results := [.lit (.bool false)], args := [d] }
  | _ => none }
def FnExactNextDepthWrongFalsely : Prop := fnExactNextDepthRow.holds Try.pinned (OpenSpec.ofChange fnExactNextDepthWrong)

/-- 'laws.FnExactSaidText': WHATEVER THE INPUT: true; the input reads as it did. -/
def fnExactSaidTextSpec : ChangeSpec := { name := "fnExactSaidText", fn := fun _ => fun
  | [d] => { results := [.lit (.bool true)], args := [d] }
  | _ => none }
def fnExactSaidTextRow : OpenClaim := { program := "ytdaodonjikaalaa", sum := "d4f148d46354074ebe48ba7af38c0edd49f12cd65c086168a55fd3986e71bbbf", func := "loop.example/g00649/laws.FnExactSaidText", spec := "fnExactSaidText", recurses := true, apart := false }
def FnExactSaidTextSaid : Prop := fnExactSaidTextRow.holds Try.pinned (OpenSpec.ofChange fnExactSaidTextSpec)

/-- ITS FALSE NEIGHBOUR: 'it returns false'. Refute it at one input. -/
def fnExactSaidTextWrong : ChangeSpec := { name := "fnExactSaidText", fn := fun _ => fun
  | [d] => { results := [.lit (.bool false)], args := [d] }
  | _ => none }
def FnExactSaidTextWrongFalsely : Prop := fnExactSaidTextRow.holds Try.pinned (OpenSpec.ofChange fnExactSaidTextWrong)

/-- 'laws.FnExactTurnSaid': WHATEVER THE INPUT: true; the input reads as it did. -/
def fnExactTurnSaidSpec : ChangeSpec := { name := "fnExactTurnSaid", fn := fun _ => fun
  | [d1, d2] => { results := [.lit (.bool true)], args := [d1, d2] }
  | _ => none }
def fnExactTurnSaidRow : OpenClaim := { program := "ytdaodonjikaalaa", sum := "d4f148d46354074ebe48ba7af38c0edd49f12cd65c086168a55fd3986e71bbbf", func := "loop.example/g00649/laws.FnExactTurnSaid", spec := "fnExactTurnSaid", apart := false }
def FnExactTurnSaidSaid : Prop := fnExactTurnSaidRow.holds Try.pinned (OpenSpec.ofChange fnExactTurnSaidSpec)

/-- ITS FALSE NEIGHBOUR: 'it returns false'. Refute it at one input. -/
def fnExactTurnSaidWrong : ChangeSpec := { name := "fnExactTurnSaid", fn := fun _ => fun
  | [d1, d2] => { results := [.lit (.bool false)], args := [d1, d2] }
  | _ => none }
def FnExactTurnSaidWrongFalsely : Prop := fnExactTurnSaidRow.holds Try.pinned (OpenSpec.ofChange fnExactTurnSaidWrong)

/-- 'laws.FnExactTurnLoop': WHATEVER THE INPUT: true; the input reads as it did. -/
def fnExactTurnLoopSpec : ChangeSpec := { name := "fnExactTurnLoop", fn := fun _ => fun
  | [d] => { results := [.lit (.bool true)], args := [d] }
  | _ => none }
def fnExactTurnLoopRow : OpenClaim := { program := "ytdaodonjikaalaa", sum := "d4f148d46354074ebe48ba7af38c0edd49f12cd65c086168a55fd3986e71bbbf", func := "loop.example/g00649/laws.FnExactTurnLoop", spec := "fnExactTurnLoop", unfollowed := true, recurses := true, apart := false }
def FnExactTurnLoopSaid : Prop := fnExactTurnLoopRow.holds Try.pinned (OpenSpec.ofChange fnExactTurnLoopSpec)

/-- ITS FALSE NEIGHBOUR: 'it returns false'. Refute it at one input. -/
def fnExactTurnLoopWrong : ChangeSpec := { name := "fnExactTurnLoop", fn := fun _ => fun
  | [d] => { results := [.lit (.bool false)], args := [d] }
  | _ => none }
def FnExactTurnLoopWrongFalsely : Prop := fnExactTurnLoopRow.holds Try.pinned (OpenSpec.ofChange fnExactTurnLoopWrong)

/- THE SECOND FORM. 'bulk': how many values and letters a reading holds, each counted each time it is reached (what is shared counts as often as it is met; a slice's spare places count too). A statement '..UptoSaid' is the law's where the arguments, and the package variables that the reading takes, are together of bulk at most 1048576: NARROWER than '..Said'. Prove '..Said' where nothing that the law and all that it calls make is longer than what came in: it says more and counts as full. Else prove '..UptoSaid'. A law counts once. -/
mutual
def uptoBulk {H : Type} : DataW H → Nat
  | .lit (.string bytes) => bytes.length + 1
  | .lit _ => 1
  | .nil => 1
  | .ptr d => uptoBulk d + 1
  | .slice elems spare => uptoBulkAll elems + uptoBulkAll spare + 1
  | .agg parts => uptoBulkAll parts + 1
  | .iface _ d => uptoBulk d + 1
  | .map entries => uptoBulkEntries entries + 1
  | .held _ => 1
def uptoBulkAll {H : Type} : List (DataW H) → Nat
  | [] => 0
  | d :: r => uptoBulk d + uptoBulkAll r
def uptoBulkEntries {H : Type} : List (Lit × DataW H) → Nat
  | [] => 0
  | x :: r => uptoBulkEntry x + uptoBulkEntries r
def uptoBulkEntry {H : Type} : Lit × DataW H → Nat
  | (.string bytes, d) => bytes.length + uptoBulk d + 1
  | (_, d) => uptoBulk d + 1
 end
def uptoSmall : (H : Type) → List (DataW H) → Bool := fun _ ds => decide (uptoBulkAll ds ≤ 1048576)
def OpenSpec.upto (s : _root_.Go.ChangeSpec) : _root_.Go.OpenSpec := { _root_.Go.OpenSpec.ofChange s with cond := some uptoSmall }

/-- 'laws.FnExactGoodLasso', WHERE WHAT IT READS IS OF BULK AT MOST 1048576: true; the input reads as it did. -/
def fnExactGoodLassoUptoRow : OpenClaim := { program := "ytdaodonjikaalaa", sum := "d4f148d46354074ebe48ba7af38c0edd49f12cd65c086168a55fd3986e71bbbf", func := "loop.example/g00649/laws.FnExactGoodLasso", spec := "fnExactGoodLasso", unfollowed := true, recurses := true, apart := false, narrowed := true }
def FnExactGoodLassoUptoSaid : Prop := fnExactGoodLassoUptoRow.holds Try.pinned (OpenSpec.upto fnExactGoodLassoSpec)

/-- 'laws.FnExactLetterAt', WHERE WHAT IT READS IS OF BULK AT MOST 1048576: true; the input reads as it did. -/
def fnExactLetterAtUptoRow : OpenClaim := { program := "ytdaodonjikaalaa", sum := "d4f148d46354074ebe48ba7af38c0edd49f12cd65c086168a55fd3986e71bbbf", func := "loop.example/g00649/laws.FnExactLetterAt", spec := "fnExactLetterAt", unfollowed := true, recurses := true, apart := false, narrowed := true }
def FnExactLetterAtUptoSaid : Prop := fnExactLetterAtUptoRow.holds Try.pinned (OpenSpec.upto fnExactLetterAtSpec)

/-- 'laws.FnExactGoodSaid', WHERE WHAT IT READS IS OF BULK AT MOST 1048576: true; the input reads as it did. -/
def fnExactGoodSaidUptoRow : OpenClaim := { program := "ytdaodonjikaalaa", sum := "d4f148d46354074ebe48ba7af38c0edd49f12cd65c086168a55fd3986e71bbbf", func := "loop.example/g00649/laws.FnExactGoodSaid", spec := "fnExactGoodSaid", apart := false, narrowed := true }
def FnExactGoodSaidUptoSaid : Prop := fnExactGoodSaidUptoRow.holds Try.pinned (OpenSpec.upto fnExactGoodSaidSpec)

/-- 'laws.FnExactGoodGraph', WHERE WHAT IT READS IS OF BULK AT MOST 1048576: true; the input reads as it did. -/
def fnExactGoodGraphUptoRow : OpenClaim := { program := "ytdaodonjikaalaa", sum := "d4f148d46354074ebe48ba7af38c0edd49f12cd65c086168a55fd3986e71bbbf", func := "loop.example/g00649/laws.FnExactGoodGraph", spec := "fnExactGoodGraph", apart := false, narrowed := true }
def FnExactGoodGraphUptoSaid : Prop := fnExactGoodGraphUptoRow.holds Try.pinned (OpenSpec.upto fnExactGoodGraphSpec)

/-- 'laws.FnRing', WHERE WHAT IT READS IS OF BULK AT MOST 1048576: true; the input reads as it did. -/
def fnRingUptoRow : OpenClaim := { program := "ytdaodonjikaalaa", sum := "d4f148d46354074ebe48ba7af38c0edd49f12cd65c086168a55fd3986e71bbbf", func := "loop.example/g00649/laws.FnRing", spec := "fnRing", apart := false, narrowed := true }
def FnRingUptoSaid : Prop := fnRingUptoRow.holds Try.pinned (OpenSpec.upto fnRingSpec)

/-- 'laws.FnExactIsPushed', WHERE WHAT IT READS IS OF BULK AT MOST 1048576: true; the input reads as it did. -/
def fnExactIsPushedUptoRow : OpenClaim := { program := "ytdaodonjikaalaa", sum := "d4f148d46354074ebe48ba7af38c0edd49f12cd65c086168a55fd3986e71bbbf", func := "loop.example/g00649/laws.FnExactIsPushed", spec := "fnExactIsPushed", apart := false, narrowed := true }
def FnExactIsPushedUptoSaid : Prop := fnExactIsPushedUptoRow.holds Try.pinned (OpenSpec.upto fnExactIsPushedSpec)

/-- 'laws.FnExactUnrollOf', WHERE WHAT IT READS IS OF BULK AT MOST 1048576: true; the input reads as it did. -/
def fnExactUnrollOfUptoRow : OpenClaim := { program := "ytdaodonjikaalaa", sum := "d4f148d46354074ebe48ba7af38c0edd49f12cd65c086168a55fd3986e71bbbf", func := "loop.example/g00649/laws.FnExactUnrollOf", spec := "fnExactUnrollOf", unfollowed := true, recurses := true, apart := false, narrowed := true }
def FnExactUnrollOfUptoSaid : Prop := fnExactUnrollOfUptoRow.holds Try.pinned (OpenSpec.upto fnExactUnrollOfSpec)

/-- 'laws.FnExactSameWord', WHERE WHAT IT READS IS OF BULK AT MOST 1048576: true; the input reads as it did. -/
def fnExactSameWordUptoRow : OpenClaim := { program := "ytdaodonjikaalaa", sum := "d4f148d46354074ebe48ba7af38c0edd49f12cd65c086168a55fd3986e71bbbf", func := "loop.example/g00649/laws.FnExactSameWord", spec := "fnExactSameWord", unfollowed := true, recurses := true, apart := false, narrowed := true }
def FnExactSameWordUptoSaid : Prop := fnExactSameWordUptoRow.holds Try.pinned (OpenSpec.upto fnExactSameWordSpec)

/-- 'laws.FnExactNextDepth', WHERE WHAT IT READS IS OF BULK AT MOST 1048576: true; the input reads as it did. -/
def fnExactNextDepthUptoRow : OpenClaim := { program := "ytdaodonjikaalaa", sum := "d4f148d46354074ebe48ba7af38c0edd49f12cd65c086168a55fd3986e71bbbf", func := "loop.example/g00649/laws.FnExactNextDepth", spec := "fnExactNextDepth", recurses := true, apart := false, narrowed := true }
def FnExactNextDepthUptoSaid : Prop := fnExactNextDepthUptoRow.holds Try.pinned (OpenSpec.upto fnExactNextDepthSpec)

/-- 'laws.FnExactSaidText', WHERE WHAT IT READS IS OF BULK AT MOST 1048576: true; the input reads as it did. -/
def fnExactSaidTextUptoRow : OpenClaim := { program := "ytdaodonjikaalaa", sum := "d4f148d46354074ebe48ba7af38c0edd49f12cd65c086168a55fd3986e71bbbf", func := "loop.example/g00649/laws.FnExactSaidText", spec := "fnExactSaidText", recurses := true, apart := false, narrowed := true }
def FnExactSaidTextUptoSaid : Prop := fnExactSaidTextUptoRow.holds Try.pinned (OpenSpec.upto fnExactSaidTextSpec)

/-- 'laws.FnExactTurnSaid', WHERE WHAT IT READS IS OF BULK AT MOST 1048576: true; the input reads as it did. -/
def fnExactTurnSaidUptoRow : OpenClaim := { program := "ytdaodonjikaalaa", sum := "d4f148d46354074ebe48ba7af38c0edd49f12cd65c086168a55fd3986e71bbbf", func := "loop.example/g00649/laws.FnExactTurnSaid", spec := "fnExactTurnSaid", apart := false, narrowed := true }
def FnExactTurnSaidUptoSaid : Prop := fnExactTurnSaidUptoRow.holds Try.pinned (OpenSpec.upto fnExactTurnSaidSpec)

/-- 'laws.FnExactTurnLoop', WHERE WHAT IT READS IS OF BULK AT MOST 1048576: true; the input reads as it did. -/
def fnExactTurnLoopUptoRow : OpenClaim := { program := "ytdaodonjikaalaa", sum := "d4f148d46354074ebe48ba7af38c0edd49f12cd65c086168a55fd3986e71bbbf", func := "loop.example/g00649/laws.FnExactTurnLoop", spec := "fnExactTurnLoop", unfollowed := true, recurses := true, apart := false, narrowed := true }
def FnExactTurnLoopUptoSaid : Prop := fnExactTurnLoopUptoRow.holds Try.pinned (OpenSpec.upto fnExactTurnLoopSpec)

end Rows
end Go.Proofs.Ytdaodonjikaalaa
