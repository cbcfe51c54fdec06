/- Go functions of this seat as Lean functions, and the proofs that the calls come to what these say; printed by a program of this session. No condition. -/
import Derived.Test.YtgcglmkkfkjhhaaP0
namespace Go.Proofs.Ytgcglmkkfkjhhaa.P
open Go.RowKit Go.Proofs.YtgcglmkkfkjhhaaW.PrintWords Go.Proofs.YtgcglmkkfkjhhaaW.PrintLast Go.Proofs.YtgcglmkkfkjhhaaW.PrintMore Go.Proofs.Ytgcglmkkfkjhhaa.Hof
attribute [local go_sem] max2_int min2_int max_two min_two max_three min_three max_four min_four   -- for this text's walks alone
set_option linter.unusedVariables false
set_option linter.unusedSimpArgs false

/-! ### impl_Lasso_holdsAlong_2: function 40 -/
def impl_Lasso_holdsAlong_2.f (a0 : Int) (l1_0 : List (List Bool)) : Option (Bool) := if 1 < (l1_0.length : Int) then (if 0 ≤ a0 then (if a0 < ((rd_L4 l1_0 1).length : Int) then (some (rdOf false (rd_L4 l1_0 1) a0)) else (none)) else (none)) else (none)
set_option maxHeartbeats 8000000 in
set_option maxRecDepth 100000 in
theorem impl_Lasso_holdsAlong_2.calls (a0 : Int) (bp1 : Nat) (A1_0 : Option Addr) (c1_0 : Nat) (l1_0 : List (List Bool)) (r : Bool) (w : World) (hr1_0 : Kd.C (Kd.slice 4 Kd.bool) w A1_0 l1_0.length l1_0) (hc1_0 : l1_0.length ≤ c1_0) (hb1 : w.heap[bp1]? = some (.cells #[.slice A1_0 l1_0.length c1_0] 55 (0, 0))) (h : impl_Lasso_holdsAlong_2.f a0 l1_0 = some r) :
  Calls Try.prog 40 #[.int .i64 a0, .pointer (some ⟨bp1, 0, none⟩)] w fun e w' => e = .returned (.bool r) ∧ Drawn0 w w' := by
 have HR1_0 := am_ hr1_0
 have HC1_0 := am_ hc1_0
 clear hr1_0 hc1_0
 have HX1 := am_ hb1
 clear hb1
 have H := h
 clear h
 unfold impl_Lasso_holdsAlong_2.f at H
 by_cases c3 : 1 < (l1_0.length : Int)
 ·rw [if_pos c3] at H
  have c3b0 := decide_eq_true c3
  have c3b1 : decide (1 < l1_0.length) = true := decide_eq_true (by omega)
  clear c3
  by_cases c4 : 0 ≤ a0
  ·rw [if_pos c4] at H
   have c4b0 := decide_eq_true c4
   clear c4
   by_cases c5 : a0 < ((rd_L4 l1_0 1).length : Int)
   ·rw [if_pos c5] at H
    have c5b0 := decide_eq_true c5
    clear c5
    obtain rfl := Option.some.inj H
    have hcz6_0 : w.cell? ⟨bp1, 0, none⟩ = some (.slice A1_0 l1_0.length c1_0) := (blk_cell HX1.out 0).trans rfl
    have hfz6_0 := blk_frozen HX1.out 0
    have p202 : 0 ≤ (1 : Int) := (by omega)
    have q202 : 1 < (l1_0.length : Int) := Sh.od
    obtain ⟨ad202, A202_0, c202_0, e202, hx202_0, hl202_0, hi202_0⟩ := at_L4 HR1_0.out 1 p202 q202
    cases e202
    (try simp only [show (1 : Int).toNat = 1 from rfl, Nat.reduceMul, Nat.reduceEqDiff, Go.Addr.add, ↓reduceIte] at hx202_0)
    have qi202 : (1 < l1_0.length) = True := eq_true (by omega)
    (try rw [show ((1 : Int)).toNat = 1 from rfl] at hx202_0)
    have HR202_0 := am_ hi202_0
    have HC202_0 := am_ hl202_0
    clear hi202_0 hl202_0
    replace p202 := eq_true p202
    replace q202 := eq_true q202
    have p203 : 0 ≤ (a0 : Int) := Sh.od
    have q203 : a0 < ((rd_L4 l1_0 1).length : Int) := Sh.od
    obtain ⟨ad203, e203, hx203_0⟩ := Kd.at_bool HR202_0.out a0 p203 q203
    cases e203
    replace p203 := eq_true p203
    replace q203 := eq_true q203
    go_enter Try.func40, Try.ntmps40
    go_wp2
    go_ret
    exact ⟨Sh.es, Sh.dr⟩
   ·rw [if_neg c5] at H
    exact absurd H (by simp)
  ·rw [if_neg c4] at H
   exact absurd H (by simp)
 ·rw [if_neg c3] at H
  exact absurd H (by simp)

end Go.Proofs.Ytgcglmkkfkjhhaa.P
