/-
  No cell of these rows narrows 'for every input' (looked for: loops, veiled, ifaces, maps, wideKeys, modest, calm, conditions, laid).
  DERIVED. THE GIVEN ROWS OF THIS SEAT. 7 by the template 'for every input the law returns true; each argument reads behind the call as it read before'; 0 by the template 'total and deterministic' (their statements: YtaacldndbjmekaaTotals.lean).
  GIVEN WITH THE SEED: the statements are not yours to turn. If you find one false, say at which input.
  Laid BY PROGRAM, IN A SANDBOX (cutbox-rows.mjs): the forced cells as the released guide's own fill.sh prints them over the translation 2d4b910afc9f2546… (all of the seat's roots in one cut). By AI agents, Wed Nov 11 2026. No macro, syntax, notation, axiom, sorry.
-/
import Derived.Test.YtaacldndbjmekaaChecked
import GoSem.Claim
import GoSem.ClaimJoined
import GoSem.ClaimMapViews
import Derived.JoinedTies
import Derived.KernelRfl
namespace Go.Proofs.Ytaacldndbjmekaa
/- THE CELL 'sum', in the pinned program and in every row, IS THE sha256 OF THE DUMP (.gsa) THAT YtaacldndbjmekaaProg.lean LOADS. Nothing in Lean hashes anything: it is a label: what it is worth is what the hold of that sum in a sandbox is worth. -/
noncomputable def Try.pinned : Pinned := { name := "ytaacldndbjmekaa", sum := "2d4b910afc9f25469ad0f5e4a27a9291ce33dd25790994d3670df79a901adcb4", checked := Try.checked }
namespace Rows
def none {H : Type} : Left H := { results := [], args := [] }

/-- 'laws.FnExactAtomsIn': WHATEVER THE INPUT: true; the input reads as it did. -/
def fnExactAtomsInSpec : ChangeSpec := { name := "fnExactAtomsIn", fn := fun _ => fun
  | [d] => { results := [.lit (.bool true)], args := [d] }
  | _ => none }
def fnExactAtomsInRow : OpenClaim := { program := "ytaacldndbjmekaa", sum := "2d4b910afc9f25469ad0f5e4a27a9291ce33dd25790994d3670df79a901adcb4", func := "loop.example/g00649/laws.FnExactAtomsIn", spec := "fnExactAtomsIn", recurses := true, apart := false }
def FnExactAtomsInSaid : Prop := fnExactAtomsInRow.holds Try.pinned (OpenSpec.ofChange fnExactAtomsInSpec)

/-- ITS FALSE NEIGHBOUR: 'it returns false'. Refute it at one input. -/
def fnExactAtomsInWrong : ChangeSpec := { name := "fnExactAtomsIn", fn := fun _ => fun
  | [d] => { results := [.lit (.bool false)], args := [d] }
  | _ => none }
def FnExactAtomsInWrongFalsely : Prop := fnExactAtomsInRow.holds Try.pinned (OpenSpec.ofChange fnExactAtomsInWrong)

/-- 'laws.FnExactStutterAt': WHATEVER THE INPUT: true; the input reads as it did. -/
def fnExactStutterAtSpec : ChangeSpec := { name := "fnExactStutterAt", fn := fun _ => fun
  | [d1, d2] => { results := [.lit (.bool true)], args := [d1, d2] }
  | _ => none }
def fnExactStutterAtRow : OpenClaim := { program := "ytaacldndbjmekaa", sum := "2d4b910afc9f25469ad0f5e4a27a9291ce33dd25790994d3670df79a901adcb4", func := "loop.example/g00649/laws.FnExactStutterAt", spec := "fnExactStutterAt", inPlace := ["slices.overlaps[int]"], unfollowed := true, recurses := true, apart := false }
def FnExactStutterAtSaid : Prop := fnExactStutterAtRow.holds Try.pinned (OpenSpec.ofChange fnExactStutterAtSpec)

/-- ITS FALSE NEIGHBOUR: 'it returns false'. Refute it at one input. -/
def fnExactStutterAtWrong : ChangeSpec := { name := "fnExactStutterAt", fn := fun _ => fun
  | [d1, d2] => { results := [.lit (.bool false)], args := [d1, d2] }
  | _ => none }
def FnExactStutterAtWrongFalsely : Prop := fnExactStutterAtRow.holds Try.pinned (OpenSpec.ofChange fnExactStutterAtWrong)

/-- 'laws.FnExactLeastLasso': WHATEVER THE INPUT: true; the input reads as it did. -/
def fnExactLeastLassoSpec : ChangeSpec := { name := "fnExactLeastLasso", fn := fun _ => fun
  | [d] => { results := [.lit (.bool true)], args := [d] }
  | _ => none }
def fnExactLeastLassoRow : OpenClaim := { program := "ytaacldndbjmekaa", sum := "2d4b910afc9f25469ad0f5e4a27a9291ce33dd25790994d3670df79a901adcb4", func := "loop.example/g00649/laws.FnExactLeastLasso", spec := "fnExactLeastLasso", unfollowed := true, recurses := true, apart := false }
def FnExactLeastLassoSaid : Prop := fnExactLeastLassoRow.holds Try.pinned (OpenSpec.ofChange fnExactLeastLassoSpec)

/-- ITS FALSE NEIGHBOUR: 'it returns false'. Refute it at one input. -/
def fnExactLeastLassoWrong : ChangeSpec := { name := "fnExactLeastLasso", fn := fun _ => fun
  | [d] => { results := [.lit (.bool false)], args := [d] }
  | _ => none }
def FnExactLeastLassoWrongFalsely : Prop := fnExactLeastLassoRow.holds Try.pinned (OpenSpec.ofChange fnExactLeastLassoWrong)

/-- 'laws.FnExactPushNot': WHATEVER THE INPUT: true; the input reads as it did. -/
def fnExactPushNotSpec : ChangeSpec := { name := "fnExactPushNot", fn := fun _ => fun
  | [d1, d2] => { results := [.lit (.bool true)], args := [d1, d2] }
  | _ => none }
def fnExactPushNotRow : OpenClaim := { program := "ytaacldndbjmekaa", sum := "2d4b910afc9f25469ad0f5e4a27a9291ce33dd25790994d3670df79a901adcb4", func := "loop.example/g00649/laws.FnExactPushNot", spec := "fnExactPushNot", recurses := true, apart := false }
def FnExactPushNotSaid : Prop := fnExactPushNotRow.holds Try.pinned (OpenSpec.ofChange fnExactPushNotSpec)

/-- ITS FALSE NEIGHBOUR: 'it returns false'. Refute it at one input. -/
def fnExactPushNotWrong : ChangeSpec := { name := "fnExactPushNot", fn := fun _ => fun
  | [d1, d2] => { results := [.lit (.bool false)], args := [d1, d2] }
  | _ => none }
def FnExactPushNotWrongFalsely : Prop := fnExactPushNotRow.holds Try.pinned (OpenSpec.ofChange fnExactPushNotWrong)

/-- 'laws.FnExactSaidText': WHATEVER THE INPUT: true; the input reads as it did. -/
def fnExactSaidTextSpec : ChangeSpec := { name := "fnExactSaidText", fn := fun _ => fun
  | [d] => { results := [.lit (.bool true)], args := [d] }
  | _ => none }
def fnExactSaidTextRow : OpenClaim := { program := "ytaacldndbjmekaa", sum := "2d4b910afc9f25469ad0f5e4a27a9291ce33dd25790994d3670df79a901adcb4", func := "loop.example/g00649/laws.FnExactSaidText", spec := "fnExactSaidText", recurses := true, apart := false }
def FnExactSaidTextSaid : Prop := fnExactSaidTextRow.holds Try.pinned (OpenSpec.ofChange fnExactSaidTextSpec)

/-- ITS FALSE NEIGHBOUR: 'it returns false'. Refute it at one input. -/
def fnExactSaidTextWrong : ChangeSpec := { name := "fnExactSaidText", fn := fun _ => fun
  | [d] => { results := [.lit (.bool false)], args := [d] }
  | _ => none }
def FnExactSaidTextWrongFalsely : Prop := fnExactSaidTextRow.holds Try.pinned (OpenSpec.ofChange fnExactSaidTextWrong)

/-- 'laws.FnExactHoldsAt': WHATEVER THE INPUT: true; the input reads as it did. -/
def fnExactHoldsAtSpec : ChangeSpec := { name := "fnExactHoldsAt", fn := fun _ => fun
  | [d1, d2, d3] => { results := [.lit (.bool true)], args := [d1, d2, d3] }
  | _ => none }
def fnExactHoldsAtRow : OpenClaim := { program := "ytaacldndbjmekaa", sum := "2d4b910afc9f25469ad0f5e4a27a9291ce33dd25790994d3670df79a901adcb4", func := "loop.example/g00649/laws.FnExactHoldsAt", spec := "fnExactHoldsAt", unfollowed := true, recurses := true, apart := false }
def FnExactHoldsAtSaid : Prop := fnExactHoldsAtRow.holds Try.pinned (OpenSpec.ofChange fnExactHoldsAtSpec)

/-- ITS FALSE NEIGHBOUR: 'it returns false'. Refute it at one input. -/
def fnExactHoldsAtWrong : ChangeSpec := { name := "fnExactHoldsAt", fn := fun _ => fun
  | [d1, d2, d3] => { results := [.lit (.bool false)], args := [d1, d2, d3] }
  | _ => none }
def FnExactHoldsAtWrongFalsely : Prop := fnExactHoldsAtRow.holds Try.pinned (OpenSpec.ofChange fnExactHoldsAtWrong)

/-- 'laws.FnExactReadSaid': WHATEVER THE INPUT: true; the input reads as it did. -/
def fnExactReadSaidSpec : ChangeSpec := { name := "fnExactReadSaid", fn := fun _ => fun
  | [d] => { results := [.lit (.bool true)], args := [d] }
  | _ => none }
def fnExactReadSaidRow : OpenClaim := { program := "ytaacldndbjmekaa", sum := "2d4b910afc9f25469ad0f5e4a27a9291ce33dd25790994d3670df79a901adcb4", func := "loop.example/g00649/laws.FnExactReadSaid", spec := "fnExactReadSaid", inPlace := ["internal/bytealg.IndexByteString"], recurses := true, apart := false }
def FnExactReadSaidSaid : Prop := fnExactReadSaidRow.holds Try.pinned (OpenSpec.ofChange fnExactReadSaidSpec)

/-- ITS FALSE NEIGHBOUR: 'it returns false'. Refute it at one input. -/
def fnExactReadSaidWrong : ChangeSpec := { name := "fnExactReadSaid", fn := fun _ => fun
  | [d] => { results := [.lit (.bool false)], args := [d] }
  | _ => none }
def FnExactReadSaidWrongFalsely : Prop := fnExactReadSaidRow.holds Try.pinned (OpenSpec.ofChange fnExactReadSaidWrong)

/- THE SECOND FORM. 'bulk': how many values and letters a reading holds, each counted each time it is reached (what is shared counts as often as it is met; a slice's spare places count too). A statement '..UptoSaid' is the law's where the arguments, and the package variables that the reading takes, are together of bulk at most 1048576: NARROWER than '..Said'. Prove '..Said' where nothing that the law and all that it calls make is longer than what came in: it says more and counts as full. Else prove '..UptoSaid'. A law counts once. -/
mutual
def uptoBulk {H : Type} : DataW H → Nat
  | .lit (.string bytes) => bytes.length + 1
  | .lit _ => 1
  | .nil => 1
  | .ptr d => uptoBulk d + 1
  | .slice elems spare => uptoBulkAll elems + uptoBulkAll spare + 1
  | .agg parts => uptoBulkAll parts + 1
  | .iface _ d => uptoBulk d + 1
  | .map entries => uptoBulkEntries entries + 1
  | .held _ => 1
def uptoBulkAll {H : Type} : List (DataW H) → Nat
  | [] => 0
  | d :: r => uptoBulk d + uptoBulkAll r
def uptoBulkEntries {H : Type} : List (Lit × DataW H) → Nat
  | [] => 0
  | x :: r => uptoBulkEntry x + uptoBulkEntries r
def uptoBulkEntry {H : Type} : Lit × DataW H → Nat
  | (.string bytes, d) => bytes.length + uptoBulk d + 1
  | (_, d) => uptoBulk d + 1
 end
def uptoSmall : (H : Type) → List (DataW H) → Bool := fun _ ds => decide (uptoBulkAll ds ≤ 1048576)
def OpenSpec.upto (s : _root_.Go.ChangeSpec) : _root_.Go.OpenSpec := { _root_.Go.OpenSpec.ofChange s with cond := some uptoSmall }

/-- 'laws.FnExactAtomsIn', WHERE WHAT IT READS IS OF BULK AT MOST 1048576: true; the input reads as it did. -/
def fnExactAtomsInUptoRow : OpenClaim := { program := "ytaacldndbjmekaa", sum := "2d4b910afc9f25469ad0f5e4a27a9291ce33dd25790994d3670df79a901adcb4", func := "loop.example/g00649/laws.FnExactAtomsIn", spec := "fnExactAtomsIn", recurses := true, apart := false, narrowed := true }
def FnExactAtomsInUptoSaid : Prop := fnExactAtomsInUptoRow.holds Try.pinned (OpenSpec.upto fnExactAtomsInSpec)

/-- 'laws.FnExactStutterAt', WHERE WHAT IT READS IS OF BULK AT MOST 1048576: true; the input reads as it did. -/
def fnExactStutterAtUptoRow : OpenClaim := { program := "ytaacldndbjmekaa", sum := "2d4b910afc9f25469ad0f5e4a27a9291ce33dd25790994d3670df79a901adcb4", func := "loop.example/g00649/laws.FnExactStutterAt", spec := "fnExactStutterAt", inPlace := ["slices.overlaps[int]"], unfollowed := true, recurses := true, apart := false, narrowed := true }
def FnExactStutterAtUptoSaid : Prop := fnExactStutterAtUptoRow.holds Try.pinned (OpenSpec.upto fnExactStutterAtSpec)

/-- 'laws.FnExactLeastLasso', WHERE WHAT IT READS IS OF BULK AT MOST 1048576: true; the input reads as it did. -/
def fnExactLeastLassoUptoRow : OpenClaim := { program := "ytaacldndbjmekaa", sum := "2d4b910afc9f25469ad0f5e4a27a9291ce33dd25790994d3670df79a901adcb4", func := "loop.example/g00649/laws.FnExactLeastLasso", spec := "fnExactLeastLasso", unfollowed := true, recurses := true, apart := false, narrowed := true }
def FnExactLeastLassoUptoSaid : Prop := fnExactLeastLassoUptoRow.holds Try.pinned (OpenSpec.upto fnExactLeastLassoSpec)

/-- 'laws.FnExactPushNot', WHERE WHAT IT READS IS OF BULK AT MOST 1048576: true; the input reads as it did. -/
def fnExactPushNotUptoRow : OpenClaim := { program := "ytaacldndbjmekaa", sum := "2d4b910afc9f25469ad0f5e4a27a9291ce33dd25790994d3670df79a901adcb4", func := "loop.example/g00649/laws.FnExactPushNot", spec := "fnExactPushNot", recurses := true, apart := false, narrowed := true }
def FnExactPushNotUptoSaid : Prop := fnExactPushNotUptoRow.holds Try.pinned (OpenSpec.upto fnExactPushNotSpec)

/-- 'laws.FnExactSaidText', WHERE WHAT IT READS IS OF BULK AT MOST 1048576: true; the input reads as it did. -/
def fnExactSaidTextUptoRow : OpenClaim := { program := "ytaacldndbjmekaa", sum := "2d4b910afc9f25469ad0f5e4a27a9291ce33dd25790994d3670df79a901adcb4", func := "loop.example/g00649/laws.FnExactSaidText", spec := "fnExactSaidText", recurses := true, apart := false, narrowed := true }
def FnExactSaidTextUptoSaid : Prop := fnExactSaidTextUptoRow.holds Try.pinned (OpenSpec.upto fnExactSaidTextSpec)

/-- 'laws.FnExactHoldsAt', WHERE WHAT IT READS IS OF BULK AT MOST 1048576: true; the input reads as it did. -/
def fnExactHoldsAtUptoRow : OpenClaim := { program := "ytaacldndbjmekaa", sum := "2d4b910afc9f25469ad0f5e4a27a9291ce33dd25790994d3670df79a901adcb4", func := "loop.example/g00649/laws.FnExactHoldsAt", spec := "fnExactHoldsAt", unfollowed := true, recurses := true, apart := false, narrowed := true }
def FnExactHoldsAtUptoSaid : Prop := fnExactHoldsAtUptoRow.holds Try.pinned (OpenSpec.upto fnExactHoldsAtSpec)

/-- 'laws.FnExactReadSaid', WHERE WHAT IT READS IS OF BULK AT MOST 1048576: true; the input reads as it did. -/
def fnExactReadSaidUptoRow : OpenClaim := { program := "ytaacldndbjmekaa", sum := "2d4b910afc9f25469ad0f5e4a27a9291ce33dd25790994d3670df79a901adcb4", func := "loop.example/g00649/laws.FnExactReadSaid", spec := "fnExactReadSaid", inPlace := ["internal/bytealg.IndexByteString"], recurses := true, apart := false, narrowed := true }
def FnExactReadSaidUptoSaid : Prop := fnExactReadSaidUptoRow.holds Try.pinned (OpenSpec.upto fnExactReadSaidSpec)

end Rows
end Go.Proofs.Ytaacldndbjmekaa
