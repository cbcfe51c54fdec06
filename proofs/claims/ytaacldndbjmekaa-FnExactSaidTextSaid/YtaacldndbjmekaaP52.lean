/- Go functions of this seat as Lean functions, and the proofs that the calls come to what these say; printed by a program of this session. No condition. -/
import Derived.Test.YtaacldndbjmekaaP0
import Derived.Test.YtaacldndbjmekaaP3
namespace Go.Proofs.Ytaacldndbjmekaa.P
open Go.RowKit Go.Proofs.YtaacldndbjmekaaW.PrintWords Go.Proofs.YtaacldndbjmekaaW.PrintLast Go.Proofs.YtaacldndbjmekaaW.PrintMore Go.Proofs.Ytaacldndbjmekaa.Hof
attribute [local go_sem] max2_int min2_int max_two min_two max_three min_three max_four min_four   -- for this text's walks alone
set_option linter.unusedVariables false
set_option linter.unusedSimpArgs false

/-! ### spec_l10From: function 83 -/
mutual
def spec_l10From.l0 : Nat → List (S59) → Int → Int → Option (Int)
 | 0, _, _, _ => none
 | k + 1, x0, x5, x6 => if x6 > 0 then ((spec_l10From.f k x0 (wrap64 (x5 - 1))).bind fun t389 => (spec_l10From.l0 k x0 t389 (wrap64 (x6 - 1)))) else (some x5)
def spec_l10From.f : Nat → List (S59) → Int → Option (Int)
 | 0, _, _ => none
 | k + 1, l0, a1 => if 0 ≤ a1 then (if a1 < (l0.length : Int) then ((spec_l10Need.f k ((rd_T59 l0 a1).f0)).bind fun t388 => (spec_l10From.l0 k l0 a1 t388)) else (none)) else (none)
end
theorem spec_l10From.mono_l : ∀ k, (∀ y0 y1, LeO (spec_l10From.f k y0 y1) (spec_l10From.f (k + 1) y0 y1)) ∧ (∀ y0 y1 y2, LeO (spec_l10From.l0 k y0 y1 y2) (spec_l10From.l0 (k + 1) y0 y1 y2))
 | 0 => ⟨fun _ _ r h => by simp [spec_l10From.f] at h, fun _ _ _ r h => by simp [spec_l10From.l0] at h⟩
 | k + 1 => by
  obtain ⟨ih0, ih1⟩ := spec_l10From.mono_l k
  and_intros <;> intros
  all_goals (first | unfold spec_l10From.f | unfold spec_l10From.l0)
  all_goals repeat' with_reducible first | apply ih0 | apply ih1 | apply spec_l10Need.mono | exact LeO.refl _ | exact LeO.none _ | apply LeO.ite | refine LeO.bind ?_ fun _ => ?_
theorem spec_l10From.mono : ∀ a0 a1 k, LeO (spec_l10From.f k a0 a1) (spec_l10From.f (k + 1) a0 a1) := by
 intro a0 a1 k
 obtain ⟨ih0, ih1⟩ := spec_l10From.mono_l k
 exact ih0 a0 a1
set_option maxHeartbeats 8000000 in
set_option maxRecDepth 100000 in
theorem spec_l10From.calls (k : Nat) : ∀ (A0 : Option Addr) (c0 : Nat) (l0 : List (S59)) (a1 : Int) (r : Int) (w : World) (hr0 : Kd.C k59 w A0 l0.length l0) (hc0 : l0.length ≤ c0) (h : spec_l10From.f k l0 a1 = some r),
  Calls Try.prog 83 #[.slice A0 l0.length c0, .int .i64 a1] w fun e w' => e = .returned (.int .i64 r) ∧ Drawn0 w w' := by
 induction k using Nat.strongRecOn with
 | _ k ih =>
 intro A0 c0 l0 a1 r w hr0 hc0 h
 cases k with
 | zero => exact absurd h (by simp [spec_l10From.f])
 | succ k =>
 simp only [spec_l10From.f] at h
 have HR0 := am_ hr0
 have HC0 := am_ hc0
 clear hr0 hc0
 have H : (if 0 ≤ a1 then (if a1 < (l0.length : Int) then ((spec_l10Need.f k ((rd_T59 l0 a1).f0)).bind fun t388 => (spec_l10From.l0 k l0 a1 t388)) else (none)) else (none)) = some r := h
 clear h
 by_cases c3 : 0 ≤ a1
 ·rw [if_pos c3] at H
  have c3b0 := decide_eq_true c3
  clear c3
  by_cases c4 : a1 < (l0.length : Int)
  ·rw [if_pos c4] at H
   have c4b0 := decide_eq_true c4
   clear c4
   obtain ⟨t388, A5, H⟩ := Sh.ba H
   have H' := am_ H
   clear H
   have p387 : 0 ≤ (a1 : Int) := Sh.od
   have q387 : a1 < (l0.length : Int) := Sh.od
   obtain ⟨ad387, e387, hx387_0, hx387_1⟩ := at_T59 HR0.out a1 p387 q387
   cases e387
   replace p387 := eq_true p387
   replace q387 := eq_true q387
   go_enter Try.func83, Try.ntmps83
   go_wp2_with (first | ((with_reducible refine Sh.k 70 ?_); refine Sh.gD (some 13) Try.func70 #[.int .i64 ((rd_T59 l0 a1).f0)] (spec_l10Need.calls k ((rd_T59 l0 a1).f0) t388 _ A5.out) fun nd => ?_))
   go_loopg [5, 6] k (fun kq v5 v6 w' => ∃ (x5_1 : Int) (x6_1 : Int), v5 = .int .i64 x5_1 ∧ v6 = .int .i64 x6_1 ∧ Aside0 (spec_l10From.l0 kq l0 x5_1 x6_1 = some r) ∧ Aside0 (kq ≤ k) ∧ Drawn0 w w')
   case atStart => exact ⟨(a1), (t388), (Sh.es), (Sh.es), H', ⟨Nat.le_refl _⟩, Sh.dr⟩
   case round =>
    clear H'
    try clear hx3
    try clear hx387_0
    try clear hx387_1
    obtain ⟨x5_1, x6_1, rfl, rfl, HA, HK1, ⟨m1, rfl⟩⟩ := hrel
    cases gk with
    | zero => exact absurd HA.out (by simp [spec_l10From.l0])
    | succ k1 =>
     have H := HA.out
     clear HA
     simp only [spec_l10From.l0] at H
     by_cases c6 : x6_1 > 0
     ·rw [if_pos c6] at H
      have c6b0 : decide (0 < x6_1) = true := decide_eq_true c6
      clear c6
      obtain ⟨t389, A7, H⟩ := Sh.ba H
      have H' := am_ H
      clear H
      go_wp2_with (first | ((with_reducible refine Sh.k 83 ?_); refine Sh.gL (some 21) Try.func83 #[.slice (some ad387) l0.length c0, .int .i64 (wrap64 (x5_1 - 1))] (h := ?_); (with_reducible refine (ih k1 (by have := HK1.out; omega) _ _ l0 (wrap64 (x5_1 - 1)) t389 _ ?side1 ?side2 A7.out).mono ?_); (case side1 => repeat (first | exact HR0.out | (with_reducible first | refine Kd.C_alloc ?_ _ | refine Kd.C_drewN ?_ _ | refine Kd.C_drew ?_))); (case side2 => exact HC0.out); rintro e w' ⟨rfl, ⟨nd, rfl⟩⟩; refine ⟨_, rfl, ?_⟩))
      go_roundg k1
      case measure => have := HK1.out; omega
      case rel => exact ⟨(t389), (wrap64 (x6_1 - 1)), (Sh.es), (Sh.es), H', ⟨by have := HK1.out; omega⟩, Sh.dr⟩
     ·rw [if_neg c6] at H
      have c6b0 : decide (0 < x6_1) = false := decide_eq_false c6
      clear c6
      obtain rfl := Option.some.inj H
      go_wp2
      go_ret
      exact ⟨Sh.es, Sh.dr⟩
  ·rw [if_neg c4] at H
   exact absurd H (by simp)
 ·rw [if_neg c3] at H
  exact absurd H (by simp)

end Go.Proofs.Ytaacldndbjmekaa.P
