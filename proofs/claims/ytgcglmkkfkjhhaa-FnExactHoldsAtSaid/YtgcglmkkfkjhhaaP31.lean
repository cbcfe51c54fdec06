/- Go functions of this seat as Lean functions, and the proofs that the calls come to what these say; printed by a program of this session. No condition. -/
import Derived.Test.YtgcglmkkfkjhhaaP0
namespace Go.Proofs.Ytgcglmkkfkjhhaa.P
open Go.RowKit Go.Proofs.YtgcglmkkfkjhhaaW.PrintWords Go.Proofs.YtgcglmkkfkjhhaaW.PrintLast Go.Proofs.YtgcglmkkfkjhhaaW.PrintMore Go.Proofs.Ytgcglmkkfkjhhaa.Hof
attribute [local go_sem] max2_int min2_int max_two min_two max_three min_three max_four min_four   -- for this text's walks alone
set_option linter.unusedVariables false
set_option linter.unusedSimpArgs false

/-! ### impl_Lasso_holdsAlong_1: function 39 -/
def impl_Lasso_holdsAlong_1.f (a0 : Int) (l1_0 : List (List Bool)) : Option (Bool) := if 0 < (l1_0.length : Int) then (if 0 ≤ a0 then (if a0 < ((rd_L4 l1_0 0).length : Int) then (some (rdOf false (rd_L4 l1_0 0) a0)) else (none)) else (none)) else (none)
set_option maxHeartbeats 8000000 in
set_option maxRecDepth 100000 in
theorem impl_Lasso_holdsAlong_1.calls (a0 : Int) (bp1 : Nat) (A1_0 : Option Addr) (c1_0 : Nat) (l1_0 : List (List Bool)) (r : Bool) (w : World) (hr1_0 : Kd.C (Kd.slice 4 Kd.bool) w A1_0 l1_0.length l1_0) (hc1_0 : l1_0.length ≤ c1_0) (hb1 : w.heap[bp1]? = some (.cells #[.slice A1_0 l1_0.length c1_0] 55 (0, 0))) (h : impl_Lasso_holdsAlong_1.f a0 l1_0 = some r) :
  Calls Try.prog 39 #[.int .i64 a0, .pointer (some ⟨bp1, 0, none⟩)] w fun e w' => e = .returned (.bool r) ∧ Drawn0 w w' := by
 have HR1_0 := am_ hr1_0
 have HC1_0 := am_ hc1_0
 clear hr1_0 hc1_0
 have HX1 := am_ hb1
 clear hb1
 have H := h
 clear h
 unfold impl_Lasso_holdsAlong_1.f at H
 by_cases c3 : 0 < (l1_0.length : Int)
 ·rw [if_pos c3] at H
  have c3b0 := decide_eq_true c3
  have c3b1 : decide (0 < l1_0.length) = true := decide_eq_true (by omega)
  clear c3
  by_cases c4 : 0 ≤ a0
  ·rw [if_pos c4] at H
   have c4b0 := decide_eq_true c4
   clear c4
   by_cases c5 : a0 < ((rd_L4 l1_0 0).length : Int)
   ·rw [if_pos c5] at H
    have c5b0 := decide_eq_true c5
    clear c5
    obtain rfl := Option.some.inj H
    have hcz6_0 : w.cell? ⟨bp1, 0, none⟩ = some (.slice A1_0 l1_0.length c1_0) := (blk_cell HX1.out 0).trans rfl
    have hfz6_0 := blk_frozen HX1.out 0
    have p200 : 0 ≤ (0 : Int) := (by omega)
    have q200 : 0 < (l1_0.length : Int) := Sh.od
    obtain ⟨ad200, A200_0, c200_0, e200, hx200_0, hl200_0, hi200_0⟩ := at_L4 HR1_0.out 0 p200 q200
    cases e200
    have qi200 : (0 < l1_0.length) = True := eq_true (by omega)
    (try rw [show ((0 : Int)).toNat = 0 from rfl] at hx200_0)
    (try rw [Addr.add_zero'] at hx200_0)
    have HR200_0 := am_ hi200_0
    have HC200_0 := am_ hl200_0
    clear hi200_0 hl200_0
    replace p200 := eq_true p200
    replace q200 := eq_true q200
    have p201 : 0 ≤ (a0 : Int) := Sh.od
    have q201 : a0 < ((rd_L4 l1_0 0).length : Int) := Sh.od
    obtain ⟨ad201, e201, hx201_0⟩ := Kd.at_bool HR200_0.out a0 p201 q201
    cases e201
    replace p201 := eq_true p201
    replace q201 := eq_true q201
    go_enter Try.func39, Try.ntmps39
    go_wp2
    go_ret
    exact ⟨Sh.es, Sh.dr⟩
   ·rw [if_neg c5] at H
    exact absurd H (by simp)
  ·rw [if_neg c4] at H
   exact absurd H (by simp)
 ·rw [if_neg c3] at H
  exact absurd H (by simp)

end Go.Proofs.Ytgcglmkkfkjhhaa.P
