/- Go functions of this seat as Lean functions, and the proofs that the calls come to what these say; printed by a program of this session. No condition. -/
import Derived.Test.YtaacldndbjmekaaP0
import Derived.Test.YtaacldndbjmekaaP2
namespace Go.Proofs.Ytaacldndbjmekaa.P
open Go.RowKit Go.Proofs.YtaacldndbjmekaaW.PrintWords Go.Proofs.YtaacldndbjmekaaW.PrintLast Go.Proofs.YtaacldndbjmekaaW.PrintMore Go.Proofs.Ytaacldndbjmekaa.Hof
attribute [local go_sem] max2_int min2_int max_two min_two max_three min_three max_four min_four   -- for this text's walks alone
set_option linter.unusedVariables false
set_option linter.unusedSimpArgs false

/-! ### spec_l10N: function 71 -/
def spec_l10N.f (a0_0 : Int) (a0_1 : Int) : Option (Bool) := if a0_0 = 1 then ((spec_l1In.f a0_1 0 2).bind fun t102 => (some t102)) else (if a0_0 = 2 then ((spec_l1In.f a0_1 0 1).bind fun t103 => (some t103)) else (some (a0_1 == 0)))
set_option maxHeartbeats 8000000 in
set_option maxRecDepth 100000 in
theorem spec_l10N.calls (a0_0 : Int) (a0_1 : Int) (r : Bool) (w : World) (h : spec_l10N.f a0_0 a0_1 = some r) :
  Calls Try.prog 71 #[.agg #[.int .i64 a0_0, .int .i64 a0_1]] w fun e w' => e = .returned (.bool r) ∧ Below w.heap.size w w' := by
 have hu59 := Try.underlying59
 have HB := am_ (Below.refl w.heap.size w)
 have H := h
 clear h
 unfold spec_l10N.f at H
 by_cases c2 : a0_0 = 1
 ·rw [if_pos c2] at H
  have c2b0 : (a0_0 == 1) = true := beq_iff_eq.mpr c2
  have c2b1 : (a0_0 != 1) = false := bne_eq_false_iff_eq.mpr c2
  clear c2
  obtain ⟨t102, A3, H⟩ := Sh.ba H
  obtain rfl := Option.some.inj H
  go_enter Try.func71, Try.ntmps71
  go_wp2_with (first | ((with_reducible refine Sh.d 1 ?_); refine Sh.bz w (N := 1) (cs := #[.int .i64 a0_0, .int .i64 a0_1]) (t := 59) (h := ?_); clear HB; intro gb101 w4 BK101 GE101 HB; obtain ⟨hcz5_0, hcz5_1, hfz5_0, hfz5_1⟩ := Sh.b2 BK101.out) | ((with_reducible refine Sh.k 45 ?_); refine Sh.gD (some 9) Try.func45 #[.int .i64 a0_1, .int .i64 0, .int .i64 2] (spec_l1In.calls a0_1 0 2 t102 _ A3.out) fun nd => ?_))
  go_ret
  exact ⟨Sh.eR, Sh.bw⟩
 ·rw [if_neg c2] at H
  have c2b0 : (a0_0 == 1) = false := beq_eq_false_iff_ne.mpr c2
  have c2b1 : (a0_0 != 1) = true := bne_iff_ne.mpr c2
  by_cases c6 : a0_0 = 2
  ·rw [if_pos c6] at H
   have c6b0 : (a0_0 == 2) = true := beq_iff_eq.mpr c6
   have c6b1 : (a0_0 != 2) = false := bne_eq_false_iff_eq.mpr c6
   clear c6
   obtain ⟨t103, A7, H⟩ := Sh.ba H
   obtain rfl := Option.some.inj H
   go_enter Try.func71, Try.ntmps71
   go_wp2_with (first | ((with_reducible refine Sh.d 1 ?_); refine Sh.bz w (N := 1) (cs := #[.int .i64 a0_0, .int .i64 a0_1]) (t := 59) (h := ?_); clear HB; intro gb101 w8 BK101 GE101 HB; obtain ⟨hcz9_0, hcz9_1, hfz9_0, hfz9_1⟩ := Sh.b2 BK101.out) | ((with_reducible refine Sh.k 45 ?_); refine Sh.gD (some 14) Try.func45 #[.int .i64 a0_1, .int .i64 0, .int .i64 1] (spec_l1In.calls a0_1 0 1 t103 _ A7.out) fun nd => ?_))
   go_ret
   exact ⟨Sh.eR, Sh.bw⟩
  ·rw [if_neg c6] at H
   have c6b0 : (a0_0 == 2) = false := beq_eq_false_iff_ne.mpr c6
   have c6b1 : (a0_0 != 2) = true := bne_iff_ne.mpr c6
   obtain rfl := Option.some.inj H
   go_enter Try.func71, Try.ntmps71
   go_wp2_with (first | ((with_reducible refine Sh.d 1 ?_); refine Sh.bz w (N := 1) (cs := #[.int .i64 a0_0, .int .i64 a0_1]) (t := 59) (h := ?_); clear HB; intro gb101 w10 BK101 GE101 HB; obtain ⟨hcz11_0, hcz11_1, hfz11_0, hfz11_1⟩ := Sh.b2 BK101.out))
   go_ret
   exact ⟨Sh.eR, Sh.bw⟩

end Go.Proofs.Ytaacldndbjmekaa.P
