/- Go functions of this seat as Lean functions, and the proofs that the calls come to what these say; printed by a program of this session. No condition. -/
import Derived.Test.YtgcglmkkfkjhhaaP0
namespace Go.Proofs.Ytgcglmkkfkjhhaa.P
open Go.RowKit Go.Proofs.YtgcglmkkfkjhhaaW.PrintWords Go.Proofs.YtgcglmkkfkjhhaaW.PrintLast Go.Proofs.YtgcglmkkfkjhhaaW.PrintMore Go.Proofs.Ytgcglmkkfkjhhaa.Hof
attribute [local go_sem] max2_int min2_int max_two min_two max_three min_three max_four min_four   -- for this text's walks alone
set_option linter.unusedVariables false
set_option linter.unusedSimpArgs false

/-! ### impl_Lasso_nextPlace: function 45 -/
def impl_Lasso_nextPlace.f (l0_0 : List Int) (l0_1 : List Int) (a1 : Int) : Option (Int) := if (wrap64 (a1 + 1)) < (wrap64 ((l0_0.length : Int) + (l0_1.length : Int))) then (some (wrap64 (a1 + 1))) else (some (l0_0.length : Int))
set_option maxHeartbeats 8000000 in
set_option maxRecDepth 100000 in
theorem impl_Lasso_nextPlace.calls (A0_0 : Option Addr) (c0_0 : Nat) (l0_0 : List Int) (A0_1 : Option Addr) (c0_1 : Nat) (l0_1 : List Int) (a1 : Int) (r : Int) (w : World) (hr0_0 : Kd.C (Kd.int .i64) w A0_0 l0_0.length l0_0) (hc0_0 : l0_0.length ≤ c0_0) (hr0_1 : Kd.C (Kd.int .i64) w A0_1 l0_1.length l0_1) (hc0_1 : l0_1.length ≤ c0_1) (h : impl_Lasso_nextPlace.f l0_0 l0_1 a1 = some r) :
  Calls Try.prog 45 #[.agg #[.slice A0_0 l0_0.length c0_0, .slice A0_1 l0_1.length c0_1], .int .i64 a1] w fun e w' => e = .returned (.int .i64 r) ∧ Below w.heap.size w w' := by
 have hu32 := Try.underlying32
 have HR0_0 := am_ hr0_0
 have HC0_0 := am_ hc0_0
 clear hr0_0 hc0_0
 have HR0_1 := am_ hr0_1
 have HC0_1 := am_ hc0_1
 clear hr0_1 hc0_1
 have HB := am_ (Below.refl w.heap.size w)
 have H := h
 clear h
 unfold impl_Lasso_nextPlace.f at H
 by_cases c3 : (wrap64 (a1 + 1)) < (wrap64 ((l0_0.length : Int) + (l0_1.length : Int)))
 ·rw [if_pos c3] at H
  have c3b0 := decide_eq_true c3
  clear c3
  obtain rfl := Option.some.inj H
  go_enter Try.func45, Try.ntmps45
  go_wp2_with (first | ((with_reducible refine Sh.d 2 ?_); refine Sh.bz w (N := 2) (cs := #[.slice A0_0 l0_0.length c0_0, .slice A0_1 l0_1.length c0_1]) (t := 32) (h := ?_); clear HB; intro gb204 w4 BK204 GE204 HB; obtain ⟨hcz5_0, hcz5_1, hfz5_0, hfz5_1⟩ := Sh.b2 BK204.out))
  go_ret
  exact ⟨Sh.eR, Sh.bw⟩
 ·rw [if_neg c3] at H
  have c3b0 := decide_eq_false c3
  clear c3
  obtain rfl := Option.some.inj H
  go_enter Try.func45, Try.ntmps45
  go_wp2_with (first | ((with_reducible refine Sh.d 2 ?_); refine Sh.bz w (N := 2) (cs := #[.slice A0_0 l0_0.length c0_0, .slice A0_1 l0_1.length c0_1]) (t := 32) (h := ?_); clear HB; intro gb204 w6 BK204 GE204 HB; obtain ⟨hcz7_0, hcz7_1, hfz7_0, hfz7_1⟩ := Sh.b2 BK204.out))
  go_ret
  exact ⟨Sh.eR, Sh.bw⟩

end Go.Proofs.Ytgcglmkkfkjhhaa.P
