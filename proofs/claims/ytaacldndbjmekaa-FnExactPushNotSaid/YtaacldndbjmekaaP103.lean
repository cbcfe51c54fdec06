/- Go functions of this seat as Lean functions, and the proofs that the calls come to what these say; printed by a program of this session. No condition. -/
import Derived.Test.YtaacldndbjmekaaP0
namespace Go.Proofs.Ytaacldndbjmekaa.P
open Go.RowKit Go.Proofs.YtaacldndbjmekaaW.PrintWords Go.Proofs.YtaacldndbjmekaaW.PrintLast Go.Proofs.YtaacldndbjmekaaW.PrintMore Go.Proofs.Ytaacldndbjmekaa.Hof
attribute [local go_sem] max2_int min2_int max_two min_two max_three min_three max_four min_four   -- for this text's walks alone
set_option linter.unusedVariables false
set_option linter.unusedSimpArgs false

/-! ### laws_heldSaidS: function 30 -/
def laws_heldSaidS.l0 : Nat → List (S59) → Int → Int → Option (Int)
 | 0, _, _, _ => none
 | k + 1, x0, x1, x5 => if x5 < (x0.length : Int) then (if 0 ≤ x5 then (if ((rd_T59 x0 x5).f0) = x1 then (if ((rd_T59 x0 x5).f1) = (wrap64 (x1 + 1)) then (laws_heldSaidS.l0 k x0 (wrap64 ((wrap64 (x1 + 1)) + 1)) (wrap64 (x5 + 1))) else (some (-1))) else (some (-1))) else (none)) else (some x1)
def laws_heldSaidS.f (k : Nat) (l0 : List (S59)) (a1 : Int) : Option (Int) := laws_heldSaidS.l0 k l0 a1 0
theorem laws_heldSaidS.mono_l : ∀ k, (∀ y0 y1 y2, LeO (laws_heldSaidS.l0 k y0 y1 y2) (laws_heldSaidS.l0 (k + 1) y0 y1 y2))
 | 0 => fun _ _ _ r h => by simp [laws_heldSaidS.l0] at h
 | k + 1 => by
  have ih0 := laws_heldSaidS.mono_l k
  ·intro y0 y1 y2
   unfold laws_heldSaidS.l0
   repeat' with_reducible first | apply ih0 | exact LeO.refl _ | exact LeO.none _ | apply LeO.ite | refine LeO.bind ?_ fun _ => ?_
theorem laws_heldSaidS.mono : ∀ a0 a1 k, LeO (laws_heldSaidS.f k a0 a1) (laws_heldSaidS.f (k + 1) a0 a1) := by
 intro a0 a1 k
 have ih0 := laws_heldSaidS.mono_l k
 unfold laws_heldSaidS.f
 repeat' with_reducible first | apply ih0 | exact LeO.refl _ | exact LeO.none _ | apply LeO.ite | refine LeO.bind ?_ fun _ => ?_
set_option maxHeartbeats 8000000 in
set_option maxRecDepth 100000 in
theorem laws_heldSaidS.calls (k : Nat) (A0 : Option Addr) (c0 : Nat) (l0 : List (S59)) (a1 : Int) (r : Int) (w : World) (hr0 : Kd.C k59 w A0 l0.length l0) (hc0 : l0.length ≤ c0) (h : laws_heldSaidS.f k l0 a1 = some r) :
  Calls Try.prog 30 #[.slice A0 l0.length c0, .int .i64 a1] w fun e w' => e = .returned (.int .i64 r) ∧ Drawn0 w w' := by
 have HR0 := am_ hr0
 have HC0 := am_ hc0
 clear hr0 hc0
 have H := h
 clear h
 unfold laws_heldSaidS.f at H
 have H' := am_ H
 clear H
 go_enter Try.func30, Try.ntmps30
 go_wp2
 go_loopg [1, 5] k (fun kq v1 v5 w' => ∃ (x1_1 : Int) (x5_1 : Int), v1 = .int .i64 x1_1 ∧ v5 = .int .i64 x5_1 ∧ Aside0 (laws_heldSaidS.l0 kq l0 x1_1 x5_1 = some r) ∧ Aside0 (kq ≤ k) ∧ Drawn0 w w')
 case atStart => exact ⟨(a1), (0), (Sh.es), (Sh.es), H', ⟨Nat.le_refl _⟩, Sh.dr⟩
 case round =>
  clear H'
  obtain ⟨x1_1, x5_1, rfl, rfl, HA, HK1, ⟨m1, rfl⟩⟩ := hrel
  cases gk with
  | zero => exact absurd HA.out (by simp [laws_heldSaidS.l0])
  | succ k1 =>
   have H := HA.out
   clear HA
   simp only [laws_heldSaidS.l0] at H
   by_cases c3 : x5_1 < (l0.length : Int)
   ·rw [if_pos c3] at H
    have c3b0 := decide_eq_true c3
    clear c3
    by_cases c4 : 0 ≤ x5_1
    ·rw [if_pos c4] at H
     have c4b0 := decide_eq_true c4
     clear c4
     by_cases c5 : ((rd_T59 l0 x5_1).f0) = x1_1
     ·rw [if_pos c5] at H
      have c5b0 : (((rd_T59 l0 x5_1).f0) == x1_1) = true := beq_iff_eq.mpr c5
      have c5b1 : (((rd_T59 l0 x5_1).f0) != x1_1) = false := bne_eq_false_iff_eq.mpr c5
      clear c5
      by_cases c6 : ((rd_T59 l0 x5_1).f1) = (wrap64 (x1_1 + 1))
      ·rw [if_pos c6] at H
       have c6b0 : (((rd_T59 l0 x5_1).f1) == (wrap64 (x1_1 + 1))) = true := beq_iff_eq.mpr c6
       have c6b1 : (((rd_T59 l0 x5_1).f1) != (wrap64 (x1_1 + 1))) = false := bne_eq_false_iff_eq.mpr c6
       clear c6
       have H' := am_ H
       clear H
       have p721 : 0 ≤ (x5_1 : Int) := Sh.od
       have q721 : x5_1 < (l0.length : Int) := Sh.od
       obtain ⟨ad721, e721, hx721_0, hx721_1⟩ := at_T59 HR0.out x5_1 p721 q721
       cases e721
       replace p721 := eq_true p721
       replace q721 := eq_true q721
       have p722 : 0 ≤ (x5_1 : Int) := Sh.od
       have q722 : x5_1 < (l0.length : Int) := Sh.od
       obtain ⟨ad722, e722, hx722_0, hx722_1⟩ := at_T59 HR0.out x5_1 p722 q722
       obtain rfl : ad721 = ad722 := (by injection e722)
       replace p722 := eq_true p722
       replace q722 := eq_true q722
       go_wp2
       go_roundg k1
       case measure => have := HK1.out; omega
       case rel => exact ⟨(wrap64 ((wrap64 (x1_1 + 1)) + 1)), (wrap64 (x5_1 + 1)), (Sh.es), (Sh.es), H', ⟨by have := HK1.out; omega⟩, Sh.dr⟩
      ·rw [if_neg c6] at H
       have c6b0 : (((rd_T59 l0 x5_1).f1) == (wrap64 (x1_1 + 1))) = false := beq_eq_false_iff_ne.mpr c6
       have c6b1 : (((rd_T59 l0 x5_1).f1) != (wrap64 (x1_1 + 1))) = true := bne_iff_ne.mpr c6
       obtain rfl := Option.some.inj H
       have p721 : 0 ≤ (x5_1 : Int) := Sh.od
       have q721 : x5_1 < (l0.length : Int) := Sh.od
       obtain ⟨ad721, e721, hx721_0, hx721_1⟩ := at_T59 HR0.out x5_1 p721 q721
       cases e721
       replace p721 := eq_true p721
       replace q721 := eq_true q721
       have p722 : 0 ≤ (x5_1 : Int) := Sh.od
       have q722 : x5_1 < (l0.length : Int) := Sh.od
       obtain ⟨ad722, e722, hx722_0, hx722_1⟩ := at_T59 HR0.out x5_1 p722 q722
       obtain rfl : ad721 = ad722 := (by injection e722)
       replace p722 := eq_true p722
       replace q722 := eq_true q722
       go_wp2
       go_ret
       exact ⟨Sh.es, Sh.dr⟩
     ·rw [if_neg c5] at H
      have c5b0 : (((rd_T59 l0 x5_1).f0) == x1_1) = false := beq_eq_false_iff_ne.mpr c5
      have c5b1 : (((rd_T59 l0 x5_1).f0) != x1_1) = true := bne_iff_ne.mpr c5
      obtain rfl := Option.some.inj H
      have p721 : 0 ≤ (x5_1 : Int) := Sh.od
      have q721 : x5_1 < (l0.length : Int) := Sh.od
      obtain ⟨ad721, e721, hx721_0, hx721_1⟩ := at_T59 HR0.out x5_1 p721 q721
      cases e721
      replace p721 := eq_true p721
      replace q721 := eq_true q721
      go_wp2
      go_ret
      exact ⟨Sh.es, Sh.dr⟩
    ·rw [if_neg c4] at H
     exact absurd H (by simp)
   ·rw [if_neg c3] at H
    have c3b0 := decide_eq_false c3
    clear c3
    obtain rfl := Option.some.inj H
    go_wp2
    go_ret
    exact ⟨Sh.es, Sh.dr⟩

end Go.Proofs.Ytaacldndbjmekaa.P
