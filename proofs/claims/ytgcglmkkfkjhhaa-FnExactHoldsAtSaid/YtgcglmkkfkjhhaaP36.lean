/- Go functions of this seat as Lean functions, and the proofs that the calls come to what these say; printed by a program of this session. No condition. -/
import Derived.Test.YtgcglmkkfkjhhaaP0
import Derived.Test.YtgcglmkkfkjhhaaP35
namespace Go.Proofs.Ytgcglmkkfkjhhaa.P
open Go.RowKit Go.Proofs.YtgcglmkkfkjhhaaW.PrintWords Go.Proofs.YtgcglmkkfkjhhaaW.PrintLast Go.Proofs.YtgcglmkkfkjhhaaW.PrintMore Go.Proofs.Ytgcglmkkfkjhhaa.Hof
attribute [local go_sem] max2_int min2_int max_two min_two max_three min_three max_four min_four   -- for this text's walks alone
set_option linter.unusedVariables false
set_option linter.unusedSimpArgs false

/-! ### bits_Mul: function 50 -/
def bits_Mul.f (a0 : Int) (a1 : Int) : Option (Int × Int) := (bits_Mul64.f a0 a1).bind fun bt205 => (some (bt205.1, bt205.2))
set_option maxHeartbeats 8000000 in
set_option maxRecDepth 100000 in
theorem bits_Mul.calls (a0 : Int) (a1 : Int) (r1 : Int) (r2 : Int) (w : World) (h : bits_Mul.f a0 a1 = some (r1, r2)) :
  Calls Try.prog 50 #[.int .u64 a0, .int .u64 a1] w fun e w' => e = .returned (.tuple #[.int .u64 r1, .int .u64 r2]) ∧ Drawn0 w w' := by
 have H := h
 clear h
 unfold bits_Mul.f at H
 obtain ⟨⟨t205, t206⟩, A30, H⟩ := Sh.bd H
 have A3 := am_ A30
 clear A30
 simp only [Option.some.injEq, Prod.mk.injEq] at H
 obtain ⟨rfl, rfl⟩ := H
 go_enter Try.func50, Try.ntmps50
 go_wp2_with (first | ((with_reducible refine Sh.k 53 ?_); refine Sh.gD (some 25) Try.func53 #[.int .u64 a0, .int .u64 a1] (bits_Mul64.calls a0 a1 t205 t206 _ A3.out) fun nd => ?_))
 go_ret2
 exact ⟨Sh.es, Sh.dr⟩

end Go.Proofs.Ytgcglmkkfkjhhaa.P
