/- Go functions of this seat as Lean functions, and the proofs that the calls come to what these say; printed by a program of this session. No condition. -/
import Derived.Test.YtdaodonjikaalaaP0
import Derived.Test.YtdaodonjikaalaaP22
import Derived.Test.YtdaodonjikaalaaP23
namespace Go.Proofs.Ytdaodonjikaalaa.P
open Go.RowKit Go.Proofs.YtdaodonjikaalaaW.PrintWords Go.Proofs.YtdaodonjikaalaaW.PrintLast Go.Proofs.YtdaodonjikaalaaW.PrintMore Go.Proofs.Ytdaodonjikaalaa.Hof
attribute [local go_sem] max2_int min2_int max_two min_two max_three min_three max_four min_four   -- for this text's walks alone
set_option linter.unusedVariables false
set_option linter.unusedSimpArgs false

/-! ### slices_ContainsFunc_int_int_by_impl_areLetters_1: function 106 by function 107 -/
def slices_ContainsFunc_int_int_by_impl_areLetters_1.f (l0 : List Int)  : Option (Bool) := anyO (fun x_ => impl_areLetters_1.f x_ ) l0
set_option maxHeartbeats 2000000 in
theorem slices_ContainsFunc_int_int_by_impl_areLetters_1.calls (A0 : Option Addr) (c0 : Nat) (l0 : List Int) (r : Bool) (w : World) (hr0 : Kd.C (Kd.int .i64) w A0 l0.length l0) (hc0 : l0.length ≤ c0) (h : slices_ContainsFunc_int_int_by_impl_areLetters_1.f l0  = some r) :
    Calls Try.prog 106 #[.slice A0 l0.length c0, .func (.func 107) #[] #[]] w fun e w' => e = .returned (.bool r) ∧ Below w.heap.size w w' := by
  refine slices_ContainsFunc_int_int.gen 107 #[] (enters_of Try.func107 (by kernel_rfl) rfl) _ A0 c0 l0 r w hr0 hc0 ?_ h
  intro W x b hB_ hin_ hq_
  refine (impl_areLetters_1.calls x  b W  hq_).mono ?_
  rintro e w' ⟨rfl, hd_⟩
  exact ⟨rfl, hd_.below⟩

end Go.Proofs.Ytdaodonjikaalaa.P
