/- Go functions of this seat as Lean functions, and the proofs that the calls come to what these say; printed by a program of this session. No condition. -/
import Derived.Test.YtjnolbjaagmooaaP0
import Derived.Test.YtjnolbjaagmooaaMFnExactStepBy3
import Derived.Test.YtjnolbjaagmooaaMFnExactStepBy2
import Derived.Test.YtjnolbjaagmooaaMFnExactStepBy1
set_option linter.unusedVariables false
set_option linter.unusedSimpArgs false
namespace Go.Proofs.Ytjnolbjaagmooaa.P
open Go.RowKit Go.Proofs.YtjnolbjaagmooaaW.PrintWords Go.Proofs.YtjnolbjaagmooaaW.PrintLast Go.Proofs.YtjnolbjaagmooaaW.PrintMore Go.Proofs.Ytjnolbjaagmooaa.Hof
attribute [local go_sem] max2_int min2_int max_two min_two max_three min_three max_four min_four
mutual
def impl_apply.j0 : Nat → Int → Int → Int → Int → Int → Int → Bool → Option (Int)
 | 0, _, _, _, _, _, _, _ => none
 | k + 1, x0, x1, x2, x3, x9, x10, x46 => if x46 = true then ((impl_mask.f x0).bind fun t377 => (some (Go.bits .and .u64 (Go.bits .and .u64 x2 x3) t377))) else (if x10 = 9 then (impl_apply.j1 k x0 x1 x2 x3 x9 x10 (x10 == 9)) else (impl_apply.j1 k x0 x1 x2 x3 x9 x10 (x10 == 18)))
def impl_apply.j1 : Nat → Int → Int → Int → Int → Int → Int → Bool → Option (Int)
 | 0, _, _, _, _, _, _, _ => none
 | k + 1, x0, x1, x2, x3, x9, x10, x52 => if x52 = true then ((impl_mask.f x0).bind fun t378 => (some (Go.bits .and .u64 (Go.bits .or .u64 x2 x3) t378))) else (if x10 = 10 then ((impl_mask.f x0).bind fun t379 => (some (Go.bits .and .u64 (Go.bits .xor .u64 x2 x3) t379))) else (if x10 = 11 then (impl_apply.j2 k x0 x1 x2 x3 x9 x10 (x10 == 11)) else (impl_apply.j2 k x0 x1 x2 x3 x9 x10 (x10 == 12))))
def impl_apply.j2 : Nat → Int → Int → Int → Int → Int → Int → Bool → Option (Int)
 | 0, _, _, _, _, _, _, _ => none
 | k + 1, x0, x1, x2, x3, x9, x10, x63 => if x63 = true then ((impl_shift.f x0 x2 x3 (x1 == 11)).bind fun t380 => ((impl_mask.f x0).bind fun t381 => (some (Go.bits .and .u64 t380 t381)))) else (if x10 = 14 then ((impl_truth.f (x2 == x3)).bind fun t382 => ((impl_mask.f x0).bind fun t383 => (some (Go.bits .and .u64 t382 t383)))) else (if x10 = 15 then ((impl_truth.f (decide (x2 < x3))).bind fun t384 => ((impl_mask.f x0).bind fun t385 => (some (Go.bits .and .u64 t384 t385)))) else (if x10 = 16 then ((impl_signed.f x0 x2).bind fun t386 => ((impl_signed.f x0 x3).bind fun t387 => ((impl_truth.f (decide (t386 < t387))).bind fun t388 => ((impl_mask.f x0).bind fun t389 => (some (Go.bits .and .u64 t388 t389)))))) else ((impl_mask.f x0).bind fun t390 => (some (Go.bits .and .u64 x9 t390))))))
end
def impl_apply.f (k : Nat) (a0 : Int) (a1 : Int) (a2 : Int) (a3 : Int) : Option (Int) := if a1 = 3 then ((impl_mask.f a0).bind fun t366 => (some (Go.bits .and .u64 (IntKind.u64.wrap (a2 + a3)) t366))) else (if a1 = 4 then ((impl_mask.f a0).bind fun t367 => (some (Go.bits .and .u64 (IntKind.u64.wrap (a2 - a3)) t367))) else (if a1 = 5 then ((impl_mask.f a0).bind fun t368 => (some (Go.bits .and .u64 (IntKind.u64.wrap (a2 * a3)) t368))) else (if a1 = 6 then ((impl_DivWord.f a0 a2 a3).bind fun bt369 => ((impl_mask.f a0).bind fun t372 => (some (Go.bits .and .u64 bt369.1 t372)))) else (if a1 = 7 then ((impl_DivWord.f a0 a2 a3).bind fun bt373 => ((impl_mask.f a0).bind fun t376 => (some (Go.bits .and .u64 bt373.2.1 t376)))) else (if a1 = 8 then (impl_apply.j0 k a0 a1 a2 a3 0 a1 (a1 == 8)) else (impl_apply.j0 k a0 a1 a2 a3 0 a1 (a1 == 17)))))))
theorem impl_apply.mono_l : ∀ k, (∀ y0 y1 y2 y3 y4 y5 y6, LeO (impl_apply.j0 k y0 y1 y2 y3 y4 y5 y6) (impl_apply.j0 (k + 1) y0 y1 y2 y3 y4 y5 y6)) ∧ (∀ y0 y1 y2 y3 y4 y5 y6, LeO (impl_apply.j1 k y0 y1 y2 y3 y4 y5 y6) (impl_apply.j1 (k + 1) y0 y1 y2 y3 y4 y5 y6)) ∧ (∀ y0 y1 y2 y3 y4 y5 y6, LeO (impl_apply.j2 k y0 y1 y2 y3 y4 y5 y6) (impl_apply.j2 (k + 1) y0 y1 y2 y3 y4 y5 y6))
 | 0 => ⟨fun _ _ _ _ _ _ _ r h => by simp [impl_apply.j0] at h, fun _ _ _ _ _ _ _ r h => by simp [impl_apply.j1] at h, fun _ _ _ _ _ _ _ r h => by simp [impl_apply.j2] at h⟩
 | k + 1 => by
  obtain ⟨ih0, ih1, ih2⟩ := impl_apply.mono_l k
  and_intros <;> intros
  all_goals (first | unfold impl_apply.j0 | unfold impl_apply.j1 | unfold impl_apply.j2)
  all_goals repeat' with_reducible first | apply ih0 | apply ih1 | apply ih2 | exact LeO.refl _ | exact LeO.none _ | apply LeO.ite | refine LeO.bind ?_ fun _ => ?_
theorem impl_apply.mono : ∀ a0 a1 a2 a3 k, LeO (impl_apply.f k a0 a1 a2 a3) (impl_apply.f (k + 1) a0 a1 a2 a3) := by
 intro a0 a1 a2 a3 k
 obtain ⟨ih0, ih1, ih2⟩ := impl_apply.mono_l k
 unfold impl_apply.f
 repeat' with_reducible first | apply ih0 | apply ih1 | apply ih2 | exact LeO.refl _ | exact LeO.none _ | apply LeO.ite | refine LeO.bind ?_ fun _ => ?_
set_option maxHeartbeats 8000000 in
set_option maxRecDepth 100000 in
theorem impl_apply.calls (k : Nat) (a0 : Int) (a1 : Int) (a2 : Int) (a3 : Int) (r : Int) (w : World) (h : impl_apply.f k a0 a1 a2 a3 = some r) :
  Calls Try.prog 91 #[.int .i64 a0, .int .i64 a1, .int .u64 a2, .int .u64 a3] w fun e w' => e = .returned (.int .u64 r) ∧ Drawn0 w w' := by
 have H := h
 clear h
 unfold impl_apply.f at H
 by_cases c5 : a1 = 3
 ·rw [if_pos c5] at H
  have c5b0 : (a1 == 3) = true := beq_iff_eq.mpr c5
  have c5b1 : (a1 != 3) = false := bne_eq_false_iff_eq.mpr c5
  clear c5
  obtain ⟨t366, A60, H⟩ := Sh.bd H
  have A6 := am_ A60
  clear A60
  obtain rfl := Option.some.inj H
  go_enter Try.func91, Try.ntmps91
  go_wp2_with (first | ((with_reducible refine gate_callee (f := 75) rfl ?_); refine Sh.gL (some 96) Try.func75 #[.int .i64 a0] (h := ?_); (with_reducible refine (impl_mask.calls a0 t366 _ A6.out).mono ?_); rintro e w' ⟨rfl, ⟨nd, rfl⟩⟩; refine ⟨_, rfl, ?_⟩))
  go_ret
  exact ⟨Sh.es, Sh.dr⟩
 ·rw [if_neg c5] at H
  have c5b0 : (a1 == 3) = false := beq_eq_false_iff_ne.mpr c5
  have c5b1 : (a1 != 3) = true := bne_iff_ne.mpr c5
  by_cases c7 : a1 = 4
  ·rw [if_pos c7] at H
   have c7b0 : (a1 == 4) = true := beq_iff_eq.mpr c7
   have c7b1 : (a1 != 4) = false := bne_eq_false_iff_eq.mpr c7
   clear c7
   obtain ⟨t367, A80, H⟩ := Sh.bd H
   have A8 := am_ A80
   clear A80
   obtain rfl := Option.some.inj H
   go_enter Try.func91, Try.ntmps91
   go_wp2_with (first | ((with_reducible refine gate_callee (f := 75) rfl ?_); refine Sh.gL (some 96) Try.func75 #[.int .i64 a0] (h := ?_); (with_reducible refine (impl_mask.calls a0 t367 _ A8.out).mono ?_); rintro e w' ⟨rfl, ⟨nd, rfl⟩⟩; refine ⟨_, rfl, ?_⟩))
   go_ret
   exact ⟨Sh.es, Sh.dr⟩
  ·rw [if_neg c7] at H
   have c7b0 : (a1 == 4) = false := beq_eq_false_iff_ne.mpr c7
   have c7b1 : (a1 != 4) = true := bne_iff_ne.mpr c7
   by_cases c9 : a1 = 5
   ·rw [if_pos c9] at H
    have c9b0 : (a1 == 5) = true := beq_iff_eq.mpr c9
    have c9b1 : (a1 != 5) = false := bne_eq_false_iff_eq.mpr c9
    clear c9
    obtain ⟨t368, A100, H⟩ := Sh.bd H
    have A10 := am_ A100
    clear A100
    obtain rfl := Option.some.inj H
    go_enter Try.func91, Try.ntmps91
    go_wp2_with (first | ((with_reducible refine gate_callee (f := 75) rfl ?_); refine Sh.gL (some 96) Try.func75 #[.int .i64 a0] (h := ?_); (with_reducible refine (impl_mask.calls a0 t368 _ A10.out).mono ?_); rintro e w' ⟨rfl, ⟨nd, rfl⟩⟩; refine ⟨_, rfl, ?_⟩))
    go_ret
    exact ⟨Sh.es, Sh.dr⟩
   ·rw [if_neg c9] at H
    have c9b0 : (a1 == 5) = false := beq_eq_false_iff_ne.mpr c9
    have c9b1 : (a1 != 5) = true := bne_iff_ne.mpr c9
    by_cases c11 : a1 = 6
    ·rw [if_pos c11] at H
     have c11b0 : (a1 == 6) = true := beq_iff_eq.mpr c11
     have c11b1 : (a1 != 6) = false := bne_eq_false_iff_eq.mpr c11
     clear c11
     obtain ⟨⟨t369, t370, t371⟩, A120, H⟩ := Sh.bd H
     have A12 := am_ A120
     clear A120
     obtain ⟨t372, A130, H⟩ := Sh.bd H
     have A13 := am_ A130
     clear A130
     obtain rfl := Option.some.inj H
     go_enter Try.func91, Try.ntmps91
     go_wp2_with (first | ((with_reducible refine gate_callee (f := 105) rfl ?_); refine Sh.gL (some 32) Try.func105 #[.int .i64 a0, .int .u64 a2, .int .u64 a3] (h := ?_); (with_reducible refine (impl_DivWord.calls a0 a2 a3 t369 t370 t371 _ A12.out).mono ?_); rintro e w' ⟨rfl, ⟨nd, rfl⟩⟩; refine ⟨_, rfl, ?_⟩) | ((with_reducible refine gate_callee (f := 75) rfl ?_); refine Sh.gL (some 96) Try.func75 #[.int .i64 a0] (h := ?_); (with_reducible refine (impl_mask.calls a0 t372 _ A13.out).mono ?_); rintro e w' ⟨rfl, ⟨nd, rfl⟩⟩; refine ⟨_, rfl, ?_⟩))
     go_ret
     exact ⟨Sh.es, Sh.dr⟩
    ·rw [if_neg c11] at H
     have c11b0 : (a1 == 6) = false := beq_eq_false_iff_ne.mpr c11
     have c11b1 : (a1 != 6) = true := bne_iff_ne.mpr c11
     by_cases c14 : a1 = 7
     ·rw [if_pos c14] at H
      have c14b0 : (a1 == 7) = true := beq_iff_eq.mpr c14
      have c14b1 : (a1 != 7) = false := bne_eq_false_iff_eq.mpr c14
      clear c14
      obtain ⟨⟨t373, t374, t375⟩, A150, H⟩ := Sh.bd H
      have A15 := am_ A150
      clear A150
      obtain ⟨t376, A160, H⟩ := Sh.bd H
      have A16 := am_ A160
      clear A160
      obtain rfl := Option.some.inj H
      go_enter Try.func91, Try.ntmps91
      go_wp2_with (first | ((with_reducible refine gate_callee (f := 105) rfl ?_); refine Sh.gL (some 42) Try.func105 #[.int .i64 a0, .int .u64 a2, .int .u64 a3] (h := ?_); (with_reducible refine (impl_DivWord.calls a0 a2 a3 t373 t374 t375 _ A15.out).mono ?_); rintro e w' ⟨rfl, ⟨nd, rfl⟩⟩; refine ⟨_, rfl, ?_⟩) | ((with_reducible refine gate_callee (f := 75) rfl ?_); refine Sh.gL (some 96) Try.func75 #[.int .i64 a0] (h := ?_); (with_reducible refine (impl_mask.calls a0 t376 _ A16.out).mono ?_); rintro e w' ⟨rfl, ⟨nd, rfl⟩⟩; refine ⟨_, rfl, ?_⟩))
      go_ret
      exact ⟨Sh.es, Sh.dr⟩
     ·rw [if_neg c14] at H
      have c14b0 : (a1 == 7) = false := beq_eq_false_iff_ne.mpr c14
      have c14b1 : (a1 != 7) = true := bne_iff_ne.mpr c14
      have HC17 := am_ H
      clear H
      go_enter Try.func91, Try.ntmps91
      go_upto_if 46 with (fail)
      go_cut [46] (fun v46 wc => ∃ (kq : Nat) (x46_16 : Bool), v46 = .bool x46_16 ∧ Aside0 (impl_apply.j0 kq a0 a1 a2 a3 0 a1 x46_16 = some r) ∧ Aside0 (kq ≤ k) ∧ Drawn0 w wc)
      case first =>
       have H := HC17.out
       clear HC17
       by_cases c18 : a1 = 8
       ·rw [if_pos c18] at H
        have c18b0 : (a1 == 8) = true := beq_iff_eq.mpr c18
        have c18b1 : (a1 != 8) = false := bne_eq_false_iff_eq.mpr c18
        clear c18
        first | rw [c18b0] | (simp only [i64_w, i32_w]; rw [c18b0]) | skip
        have H' := am_ H
        clear H
        go_wp2
        go_meet
        case rel => exact ⟨_, ((a1 == 8)), (Sh.es), H', ⟨Sh.om⟩, Sh.dr⟩
       ·rw [if_neg c18] at H
        have c18b0 : (a1 == 8) = false := beq_eq_false_iff_ne.mpr c18
        have c18b1 : (a1 != 8) = true := bne_iff_ne.mpr c18
        first | rw [c18b0] | (simp only [i64_w, i32_w]; rw [c18b0]) | skip
        have H' := am_ H
        clear H
        go_wp2
        go_meet
        case rel => exact ⟨_, ((a1 == 17)), (Sh.es), H', ⟨Sh.om⟩, Sh.dr⟩
      case rest =>
       clear HC17
       try clear c1
       try clear p2
       try clear c5
       try clear c5b0
       try clear c5b1
       try clear c7
       try clear c7b0
       try clear c7b1
       try clear c9
       try clear c9b0
       try clear c9b1
       try clear c10
       try clear c11
       try clear c11b0
       try clear c11b1
       try clear c14
       try clear c14b0
       try clear c14b1
       try clear c18
       try clear c18b0
       try clear c18b1
       obtain ⟨kq, x46_16, rfl, HA, HJ16, ⟨mc16, rfl⟩⟩ := hcut
       cases kq with
       | zero => exact absurd HA.out (by simp [impl_apply.j0])
       | succ kj16 =>
        have H := HA.out
        clear HA
        simp only [impl_apply.j0] at H
        by_cases c19 : x46_16 = true
        ·subst c19
         rw [if_pos rfl] at H
         obtain ⟨t377, A200, H⟩ := Sh.bd H
         have A20 := am_ A200
         clear A200
         obtain rfl := Option.some.inj H
         go_wp2_with (first | ((with_reducible refine gate_callee (f := 75) rfl ?_); refine Sh.gL (some 96) Try.func75 #[.int .i64 a0] (h := ?_); (with_reducible refine (impl_mask.calls a0 t377 _ A20.out).mono ?_); rintro e w' ⟨rfl, ⟨nd, rfl⟩⟩; refine ⟨_, rfl, ?_⟩))
         go_ret
         exact ⟨Sh.es, Sh.dr⟩
        ·replace c19 := Bool.eq_false_iff.mpr c19
         subst c19
         rw [Sh.nf] at H
         have HC21 := am_ H
         clear H
         go_upto_if 52 with (fail)
         go_cut [52] (fun v52 wc => ∃ (kq : Nat) (x52_20 : Bool), v52 = .bool x52_20 ∧ Aside0 (impl_apply.j1 kq a0 a1 a2 a3 0 a1 x52_20 = some r) ∧ Aside0 (kq ≤ kj16) ∧ Drawn0 w wc)
         case first =>
          have H := HC21.out
          clear HC21
          by_cases c22 : a1 = 9
          ·rw [if_pos c22] at H
           have c22b0 : (a1 == 9) = true := beq_iff_eq.mpr c22
           have c22b1 : (a1 != 9) = false := bne_eq_false_iff_eq.mpr c22
           clear c22
           first | rw [c22b0] | (simp only [i64_w, i32_w]; rw [c22b0]) | skip
           have H' := am_ H
           clear H
           go_wp2
           go_meet
           case rel => exact ⟨_, ((a1 == 9)), (Sh.es), H', ⟨by have := HJ16.out; first | omega | exact Nat.le_refl _⟩, Sh.dr⟩
          ·rw [if_neg c22] at H
           have c22b0 : (a1 == 9) = false := beq_eq_false_iff_ne.mpr c22
           have c22b1 : (a1 != 9) = true := bne_iff_ne.mpr c22
           first | rw [c22b0] | (simp only [i64_w, i32_w]; rw [c22b0]) | skip
           have H' := am_ H
           clear H
           go_wp2
           go_meet
           case rel => exact ⟨_, ((a1 == 18)), (Sh.es), H', ⟨by have := HJ16.out; first | omega | exact Nat.le_refl _⟩, Sh.dr⟩
         case rest =>
          clear HC21
          try clear c1
          try clear c2
          try clear p2
          try clear c5
          try clear c5b0
          try clear c5b1
          try clear c7
          try clear c7b0
          try clear c7b1
          try clear c9
          try clear c9b0
          try clear c9b1
          try clear c10
          try clear c11
          try clear c11b0
          try clear c11b1
          try clear c14
          try clear c14b0
          try clear c14b1
          try clear c16
          try clear c18
          try clear c18b0
          try clear c18b1
          try clear c19
          try clear c22
          try clear c22b0
          try clear c22b1
          try clear p2
          obtain ⟨kq, x52_20, rfl, HA, HJ20, ⟨mc20, rfl⟩⟩ := hcut
          cases kq with
          | zero => exact absurd HA.out (by simp [impl_apply.j1])
          | succ kj20 =>
           have H := HA.out
           clear HA
           simp only [impl_apply.j1] at H
           by_cases c23 : x52_20 = true
           ·subst c23
            rw [if_pos rfl] at H
            obtain ⟨t378, A240, H⟩ := Sh.bd H
            have A24 := am_ A240
            clear A240
            obtain rfl := Option.some.inj H
            go_wp2_with (first | ((with_reducible refine gate_callee (f := 75) rfl ?_); refine Sh.gL (some 96) Try.func75 #[.int .i64 a0] (h := ?_); (with_reducible refine (impl_mask.calls a0 t378 _ A24.out).mono ?_); rintro e w' ⟨rfl, ⟨nd, rfl⟩⟩; refine ⟨_, rfl, ?_⟩))
            go_ret
            exact ⟨Sh.es, Sh.dr⟩
           ·replace c23 := Bool.eq_false_iff.mpr c23
            subst c23
            rw [Sh.nf] at H
            by_cases c25 : a1 = 10
            ·rw [if_pos c25] at H
             have c25b0 : (a1 == 10) = true := beq_iff_eq.mpr c25
             have c25b1 : (a1 != 10) = false := bne_eq_false_iff_eq.mpr c25
             clear c25
             obtain ⟨t379, A260, H⟩ := Sh.bd H
             have A26 := am_ A260
             clear A260
             obtain rfl := Option.some.inj H
             go_wp2_with (first | ((with_reducible refine gate_callee (f := 75) rfl ?_); refine Sh.gL (some 96) Try.func75 #[.int .i64 a0] (h := ?_); (with_reducible refine (impl_mask.calls a0 t379 _ A26.out).mono ?_); rintro e w' ⟨rfl, ⟨nd, rfl⟩⟩; refine ⟨_, rfl, ?_⟩))
             go_ret
             exact ⟨Sh.es, Sh.dr⟩
            ·rw [if_neg c25] at H
             have c25b0 : (a1 == 10) = false := beq_eq_false_iff_ne.mpr c25
             have c25b1 : (a1 != 10) = true := bne_iff_ne.mpr c25
             have HC27 := am_ H
             clear H
             go_upto_if 63 with (fail)
             go_cut [63] (fun v63 wc => ∃ (kq : Nat) (x63_26 : Bool), v63 = .bool x63_26 ∧ Aside0 (impl_apply.j2 kq a0 a1 a2 a3 0 a1 x63_26 = some r) ∧ Aside0 (kq ≤ kj20) ∧ Drawn0 w wc)
             case first =>
              have H := HC27.out
              clear HC27
              by_cases c28 : a1 = 11
              ·rw [if_pos c28] at H
               have c28b0 : (a1 == 11) = true := beq_iff_eq.mpr c28
               have c28b1 : (a1 != 11) = false := bne_eq_false_iff_eq.mpr c28
               clear c28
               first | rw [c28b0] | (simp only [i64_w, i32_w]; rw [c28b0]) | skip
               have H' := am_ H
               clear H
               go_wp2
               go_meet
               case rel => exact ⟨_, ((a1 == 11)), (Sh.es), H', ⟨by have := HJ16.out; have := HJ20.out; first | omega | exact Nat.le_refl _⟩, Sh.dr⟩
              ·rw [if_neg c28] at H
               have c28b0 : (a1 == 11) = false := beq_eq_false_iff_ne.mpr c28
               have c28b1 : (a1 != 11) = true := bne_iff_ne.mpr c28
               first | rw [c28b0] | (simp only [i64_w, i32_w]; rw [c28b0]) | skip
               have H' := am_ H
               clear H
               go_wp2
               go_meet
               case rel => exact ⟨_, ((a1 == 12)), (Sh.es), H', ⟨by have := HJ16.out; have := HJ20.out; first | omega | exact Nat.le_refl _⟩, Sh.dr⟩
             case rest =>
              clear HC27
              try clear c1
              try clear c2
              try clear p2
              try clear c5
              try clear c5b0
              try clear c5b1
              try clear c7
              try clear c7b0
              try clear c7b1
              try clear c9
              try clear c9b0
              try clear c9b1
              try clear c10
              try clear c11
              try clear c11b0
              try clear c11b1
              try clear c14
              try clear c14b0
              try clear c14b1
              try clear c16
              try clear c18
              try clear c18b0
              try clear c18b1
              try clear c19
              try clear c20
              try clear c22
              try clear c22b0
              try clear c22b1
              try clear c23
              try clear c25
              try clear c25b0
              try clear c25b1
              try clear c28
              try clear c28b0
              try clear c28b1
              try clear p2
              obtain ⟨kq, x63_26, rfl, HA, HJ26, ⟨mc26, rfl⟩⟩ := hcut
              cases kq with
              | zero => exact absurd HA.out (by simp [impl_apply.j2])
              | succ kj26 =>
               have H := HA.out
               clear HA
               simp only [impl_apply.j2] at H
               by_cases c29 : x63_26 = true
               ·subst c29
                rw [if_pos rfl] at H
                obtain ⟨t380, A300, H⟩ := Sh.bd H
                have A30 := am_ A300
                clear A300
                obtain ⟨t381, A310, H⟩ := Sh.bd H
                have A31 := am_ A310
                clear A310
                obtain rfl := Option.some.inj H
                go_wp2_with (first | ((with_reducible refine gate_callee (f := 106) rfl ?_); refine Sh.gL (some 71) Try.func106 #[.int .i64 a0, .int .u64 a2, .int .u64 a3, .bool (a1 == 11)] (h := ?_); (with_reducible refine (impl_shift.calls a0 a2 a3 (a1 == 11) t380 _ A30.out).mono ?_); rintro e w' ⟨rfl, ⟨nd, rfl⟩⟩; refine ⟨_, rfl, ?_⟩) | ((with_reducible refine gate_callee (f := 75) rfl ?_); refine Sh.gL (some 96) Try.func75 #[.int .i64 a0] (h := ?_); (with_reducible refine (impl_mask.calls a0 t381 _ A31.out).mono ?_); rintro e w' ⟨rfl, ⟨nd, rfl⟩⟩; refine ⟨_, rfl, ?_⟩))
                go_ret
                exact ⟨Sh.es, Sh.dr⟩
               ·replace c29 := Bool.eq_false_iff.mpr c29
                subst c29
                rw [Sh.nf] at H
                by_cases c32 : a1 = 14
                ·rw [if_pos c32] at H
                 have c32b0 : (a1 == 14) = true := beq_iff_eq.mpr c32
                 have c32b1 : (a1 != 14) = false := bne_eq_false_iff_eq.mpr c32
                 clear c32
                 obtain ⟨t382, A330, H⟩ := Sh.bd H
                 have A33 := am_ A330
                 clear A330
                 obtain ⟨t383, A340, H⟩ := Sh.bd H
                 have A34 := am_ A340
                 clear A340
                 obtain rfl := Option.some.inj H
                 go_wp2_with (first | ((with_reducible refine gate_callee (f := 107) rfl ?_); refine Sh.gL (some 77) Try.func107 #[.bool (a2 == a3)] (h := ?_); (with_reducible refine (impl_truth.calls (a2 == a3) t382 _ A33.out).mono ?_); rintro e w' ⟨rfl, ⟨nd, rfl⟩⟩; refine ⟨_, rfl, ?_⟩) | ((with_reducible refine gate_callee (f := 75) rfl ?_); refine Sh.gL (some 96) Try.func75 #[.int .i64 a0] (h := ?_); (with_reducible refine (impl_mask.calls a0 t383 _ A34.out).mono ?_); rintro e w' ⟨rfl, ⟨nd, rfl⟩⟩; refine ⟨_, rfl, ?_⟩))
                 go_ret
                 exact ⟨Sh.es, Sh.dr⟩
                ·rw [if_neg c32] at H
                 have c32b0 : (a1 == 14) = false := beq_eq_false_iff_ne.mpr c32
                 have c32b1 : (a1 != 14) = true := bne_iff_ne.mpr c32
                 by_cases c35 : a1 = 15
                 ·rw [if_pos c35] at H
                  have c35b0 : (a1 == 15) = true := beq_iff_eq.mpr c35
                  have c35b1 : (a1 != 15) = false := bne_eq_false_iff_eq.mpr c35
                  clear c35
                  obtain ⟨t384, A360, H⟩ := Sh.bd H
                  have A36 := am_ A360
                  clear A360
                  obtain ⟨t385, A370, H⟩ := Sh.bd H
                  have A37 := am_ A370
                  clear A370
                  obtain rfl := Option.some.inj H
                  go_wp2_with (first | ((with_reducible refine gate_callee (f := 107) rfl ?_); refine Sh.gL (some 83) Try.func107 #[.bool (decide (a2 < a3))] (h := ?_); (with_reducible refine (impl_truth.calls (decide (a2 < a3)) t384 _ A36.out).mono ?_); rintro e w' ⟨rfl, ⟨nd, rfl⟩⟩; refine ⟨_, rfl, ?_⟩) | ((with_reducible refine gate_callee (f := 75) rfl ?_); refine Sh.gL (some 96) Try.func75 #[.int .i64 a0] (h := ?_); (with_reducible refine (impl_mask.calls a0 t385 _ A37.out).mono ?_); rintro e w' ⟨rfl, ⟨nd, rfl⟩⟩; refine ⟨_, rfl, ?_⟩))
                  go_ret
                  exact ⟨Sh.es, Sh.dr⟩
                 ·rw [if_neg c35] at H
                  have c35b0 : (a1 == 15) = false := beq_eq_false_iff_ne.mpr c35
                  have c35b1 : (a1 != 15) = true := bne_iff_ne.mpr c35
                  by_cases c38 : a1 = 16
                  ·rw [if_pos c38] at H
                   have c38b0 : (a1 == 16) = true := beq_iff_eq.mpr c38
                   have c38b1 : (a1 != 16) = false := bne_eq_false_iff_eq.mpr c38
                   clear c38
                   obtain ⟨t386, A390, H⟩ := Sh.bd H
                   have A39 := am_ A390
                   clear A390
                   obtain ⟨t387, A400, H⟩ := Sh.bd H
                   have A40 := am_ A400
                   clear A400
                   obtain ⟨t388, A410, H⟩ := Sh.bd H
                   have A41 := am_ A410
                   clear A410
                   obtain ⟨t389, A420, H⟩ := Sh.bd H
                   have A42 := am_ A420
                   clear A420
                   obtain rfl := Option.some.inj H
                   go_wp2_with (first | ((with_reducible refine gate_callee (f := 108) rfl ?_); refine Sh.gL (some 88) Try.func108 #[.int .i64 a0, .int .u64 a2] (h := ?_); (with_reducible refine (impl_signed.calls a0 a2 t386 _ A39.out).mono ?_); rintro e w' ⟨rfl, ⟨nd, rfl⟩⟩; refine ⟨_, rfl, ?_⟩) | ((with_reducible refine gate_callee (f := 108) rfl ?_); refine Sh.gL (some 91) Try.func108 #[.int .i64 a0, .int .u64 a3] (h := ?_); (with_reducible refine (impl_signed.calls a0 a3 t387 _ A40.out).mono ?_); rintro e w' ⟨rfl, ⟨nd, rfl⟩⟩; refine ⟨_, rfl, ?_⟩) | ((with_reducible refine gate_callee (f := 107) rfl ?_); refine Sh.gL (some 93) Try.func107 #[.bool (decide (t386 < t387))] (h := ?_); (with_reducible refine (impl_truth.calls (decide (t386 < t387)) t388 _ A41.out).mono ?_); rintro e w' ⟨rfl, ⟨nd, rfl⟩⟩; refine ⟨_, rfl, ?_⟩) | ((with_reducible refine gate_callee (f := 75) rfl ?_); refine Sh.gL (some 96) Try.func75 #[.int .i64 a0] (h := ?_); (with_reducible refine (impl_mask.calls a0 t389 _ A42.out).mono ?_); rintro e w' ⟨rfl, ⟨nd, rfl⟩⟩; refine ⟨_, rfl, ?_⟩))
                   go_ret
                   exact ⟨Sh.es, Sh.dr⟩
                  ·rw [if_neg c38] at H
                   have c38b0 : (a1 == 16) = false := beq_eq_false_iff_ne.mpr c38
                   have c38b1 : (a1 != 16) = true := bne_iff_ne.mpr c38
                   obtain ⟨t390, A430, H⟩ := Sh.bd H
                   have A43 := am_ A430
                   clear A430
                   obtain rfl := Option.some.inj H
                   go_wp2_with (first | ((with_reducible refine gate_callee (f := 75) rfl ?_); refine Sh.gL (some 96) Try.func75 #[.int .i64 a0] (h := ?_); (with_reducible refine (impl_mask.calls a0 t390 _ A43.out).mono ?_); rintro e w' ⟨rfl, ⟨nd, rfl⟩⟩; refine ⟨_, rfl, ?_⟩))
                   go_ret
                   exact ⟨Sh.es, Sh.dr⟩
mutual
def impl_valueOf.l0 : Nat → Int → List Int → List Int → List (S80) → Int → Int → Option (Int)
 | 0, _, _, _, _, _, _ => none
 | k + 1, x0, x2, x7, x12, x13, x14 => if x14 < x13 then (if 0 ≤ x14 then (if x14 < (x12.length : Int) then (if ((rd_T80 x12 x14).f0) = 1 then (impl_valueOf.j1 k x0 x2 x7 (wrap64 ((x7.length : Int) - 1)) x12 x13 x14 ((rd_T80 x12 x14).f0) (((rd_T80 x12 x14).f0) == 1) ((rd_T80 x12 x14).f0) ((rd_T80 x12 x14).f1)) else (impl_valueOf.j1 k x0 x2 x7 (wrap64 ((x7.length : Int) - 1)) x12 x13 x14 ((rd_T80 x12 x14).f0) (((rd_T80 x12 x14).f0) == 20) ((rd_T80 x12 x14).f0) ((rd_T80 x12 x14).f1))) else (none)) else (none)) else (if 0 < (x7.length : Int) then (some (rd x7 0)) else (none))
def impl_valueOf.j1 : Nat → Int → List Int → List Int → Int → List (S80) → Int → Int → Int → Bool → Int → Int → Option (Int)
 | 0, _, _, _, _, _, _, _, _, _, _, _ => none
 | k + 1, x0, x2, x7, x10, x12, x13, x14, x22, x42, x397000, x397001 => if x42 = true then (if x7.length < 17592186044416 then (impl_valueOf.l0 k x0 x2 (x7 ++ [x397001]) x12 x13 (wrap64 (x14 + 1))) else (none)) else (if x22 = 2 then (if 0 ≤ x397001 then (if x397001 < (x2.length : Int) then (if x7.length < 17592186044416 then (impl_valueOf.l0 k x0 x2 (x7 ++ [rd x2 x397001]) x12 x13 (wrap64 (x14 + 1))) else (none)) else (none)) else (none)) else (if x22 = 13 then (if 0 ≤ x10 then (if x10 < (x7.length : Int) then ((impl_mask.f x0).bind fun t405 => (impl_valueOf.l0 k x0 x2 (x7.set (x10 : Int).toNat (Go.bits .and .u64 (Go.bits .xor .u64 18446744073709551615 (rd x7 x10)) t405)) x12 x13 (wrap64 (x14 + 1)))) else (none)) else (none)) else (if x22 = 19 then (if 0 ≤ x10 then (if x10 < (x7.length : Int) then (impl_valueOf.l0 k x0 x2 (x7.set (x10 : Int).toNat (IntKind.u64.wrap (1 - (rd x7 x10)))) x12 x13 (wrap64 (x14 + 1))) else (none)) else (none)) else (if 0 ≤ (wrap64 (x10 - 1)) then (if (wrap64 (x10 - 1)) < (x7.length : Int) then (if 0 ≤ x10 then (if x10 < (x7.length : Int) then (if (wrap64 (x10 - 1)) ≤ (x7.length : Int) then ((some (x7.take ((wrap64 (x10 - 1)) : Int).toNat : List Int)).bind fun y411 => ((impl_apply.f k x0 x397000 (rd x7 (wrap64 (x10 - 1))) (rd x7 x10)).bind fun t414 => (if y411.length < 17592186044416 then (impl_valueOf.l0 k x0 x2 (y411 ++ [t414]) x12 x13 (wrap64 (x14 + 1))) else (none)))) else (none)) else (none)) else (none)) else (none)) else (none)))))
end
def impl_valueOf.f (k : Nat) (a0 : Int) (l1 : List (S80)) (l2 : List Int) : Option (Int) := impl_valueOf.l0 k a0 l2 (([] : List Int)) l1 (l1.length : Int) 0
theorem impl_valueOf.mono_l : ∀ k, (∀ y0 y1 y2 y3 y4 y5, LeO (impl_valueOf.l0 k y0 y1 y2 y3 y4 y5) (impl_valueOf.l0 (k + 1) y0 y1 y2 y3 y4 y5)) ∧ (∀ y0 y1 y2 y3 y4 y5 y6 y7 y8 y9 y10, LeO (impl_valueOf.j1 k y0 y1 y2 y3 y4 y5 y6 y7 y8 y9 y10) (impl_valueOf.j1 (k + 1) y0 y1 y2 y3 y4 y5 y6 y7 y8 y9 y10))
 | 0 => ⟨fun _ _ _ _ _ _ r h => by simp [impl_valueOf.l0] at h, fun _ _ _ _ _ _ _ _ _ _ _ r h => by simp [impl_valueOf.j1] at h⟩
 | k + 1 => by
  obtain ⟨ih0, ih1⟩ := impl_valueOf.mono_l k
  and_intros <;> intros
  all_goals (first | unfold impl_valueOf.l0 | unfold impl_valueOf.j1)
  all_goals repeat' with_reducible first | apply ih0 | apply ih1 | apply impl_apply.mono | exact LeO.refl _ | exact LeO.none _ | apply LeO.ite | refine LeO.bind ?_ fun _ => ?_
theorem impl_valueOf.mono : ∀ a0 a1 a2 k, LeO (impl_valueOf.f k a0 a1 a2) (impl_valueOf.f (k + 1) a0 a1 a2) := by
 intro a0 a1 a2 k
 obtain ⟨ih0, ih1⟩ := impl_valueOf.mono_l k
 unfold impl_valueOf.f
 repeat' with_reducible first | apply ih0 | apply ih1 | apply impl_apply.mono | exact LeO.refl _ | exact LeO.none _ | apply LeO.ite | refine LeO.bind ?_ fun _ => ?_
def impl_valueOf.T7 : Bool × List (List Nat × List Nat) := (true, [([], []), ([], []), ([1], [1]), ([0, 2], [0, 2]), ([], []), ([], []), ([5], [5]), ([], []), ([], []), ([8], [8]), ([7, 9], [7, 9]), ([10], [10]), ([], []), ([], []), ([12, 13], [12, 13]), ([14], [14]), ([4, 6, 11, 15], [4, 6, 11, 15]), ([16], [16]), ([3, 17, 16], [3, 17]), ([18, 18, 0, 1, 2, 3, 4, 5, 6, 7, 8, 9, 10, 11, 12, 13, 14, 15, 16, 17, 18], [0, 7, 12, 18])])
def impl_valueOf.B7 : List Nat := [0, 0, 2, 7, 0, 0, 32, 0, 0, 256, 896, 1920, 0, 0, 12288, 28672, 65520, 131056, 262143, 524287]
theorem impl_valueOf.tab7 : rtab .any (opsOf Try.f67 7) = impl_valueOf.T7 := by kernel_rfl
theorem impl_valueOf.bits7 : waitsOk impl_valueOf.T7.2 impl_valueOf.B7 = true := by kernel_rfl
def impl_valueOf.T14 : Bool × List (List Nat × List Nat) := (true, [([], []), ([], []), ([], []), ([], []), ([2, 3], [2, 3]), ([4], [4]), ([5], [5]), ([], []), ([7], [7]), ([6, 8], [6, 8]), ([0, 1, 0, 1, 2, 3, 4, 5, 6, 7, 8, 9], [0, 1]), ([10, 9, 8, 0, 1, 2, 3, 4, 5, 6, 7, 8, 9], [9, 10])])
def impl_valueOf.B14 : List Nat := [0, 0, 0, 0, 12, 28, 60, 0, 128, 508, 1023, 2047]
theorem impl_valueOf.tab14 : rtab .any (opsOf Try.f67 14) = impl_valueOf.T14 := by kernel_rfl
theorem impl_valueOf.bits14 : waitsOk impl_valueOf.T14.2 impl_valueOf.B14 = true := by kernel_rfl
set_option maxHeartbeats 8000000 in
set_option maxRecDepth 100000 in
theorem impl_valueOf.calls (k : Nat) (a0 : Int) (A1 : Option Addr) (c1 : Nat) (l1 : List (S80)) (A2 : Option Addr) (c2 : Nat) (l2 : List Int) (r : Int) (w : World) (hr1 : Kd.C k80 w A1 l1.length l1) (hc1 : l1.length ≤ c1) (hr2 : Kd.C (Kd.int .u64) w A2 l2.length l2) (hc2 : l2.length ≤ c2) (h : impl_valueOf.f k a0 l1 l2 = some r) :
  Calls Try.prog 67 #[.int .i64 a0, .slice A1 l1.length c1, .slice A2 l2.length c2] w fun e w' => e = .returned (.int .u64 r) ∧ Below w.heap.size w w' := by
 have hu80 := Try.underlying80
 have HR1 := am_ hr1
 have HC1 := am_ hc1
 clear hr1 hc1
 have HR2 := am_ hr2
 have HC2 := am_ hc2
 clear hr2 hc2
 have HB := am_ (Below.refl w.heap.size w)
 have H := h
 clear h
 unfold impl_valueOf.f at H
 obtain ⟨y391, hy391⟩ : ∃ y_ : List Int, y_ = (([] : List Int)) := ⟨_, rfl⟩
 replace H : (impl_valueOf.l0 k a0 l2 y391 l1 (l1.length : Int) 0) = some r := by first | (rw [hy391]; with_reducible exact H) | (have H2_ := (Option.bind_some _ _).symm.trans H; rw [hy391]; with_reducible exact H2_) | (have H2_ := (Option.bind_some _ _).symm.trans H; with_reducible exact H2_) | with_reducible exact H | (rw [hy391]; exact H) | exact H
 have Ny391 := am_ hy391
 clear hy391
 have H' := am_ H
 clear H
 go_enter Try.func67, Try.ntmps67
 go_wp2_with (first | ((with_reducible refine gate_dst (N := 11) rfl ?_); refine Kd.R_lit (Kd.int .u64) _ 61 ?hg (N := 11) ?hd (xs := ([] : List Int)) (inner := []) (ok := fun _ => True) (okp := fun _ => True) ?hr ?hp (fun _ hk => hk) trivial (Below.refl _ _) (Nat.le_refl _) (by simp) ?_; (case hd => rfl); (case hg => rfl); (case hr => first | (go_simp; done) | (go_simp; rfl)); (case hp => exact (Reps.none _ _)); intro v392 w4 ho5 hb hg_ hnew_; clear hg_ hnew_; (first | rw [← Ny391.out] at ho5 | (simp only [Int.reduceToNat] at ho5; rw [← Ny391.out] at ho5)); have HO393 := am_ (Kd.R_lower ho5 (below_size Sh.bw)); replace HB := am_ (below_step Sh.bw hb); clear hb ho5))
 go_loopg [7, 14] k (fun kq v7 v14 w' => ∃ (x7_1 : List Int) (x14_1 : Int), v14 = .int .i64 x14_1 ∧ Aside0 (impl_valueOf.l0 kq a0 l2 x7_1 l1 (l1.length : Int) x14_1 = some r) ∧ Aside0 (kq ≤ k) ∧ Aside0 (Kd.R (Kd.int .u64) 61 w' w.heap.size (fun _ => True) v7 x7_1) ∧ Aside0 (Below w.heap.size w w'))
 case atStart => exact ⟨(y391), (0), (Sh.es), H', ⟨Nat.le_refl _⟩, ⟨by (with_reducible repeat (first | apply Kd.R_alloc | apply Kd.R_drewN | apply Kd.R_drew)); exact HO393.out⟩, ⟨Sh.bw⟩⟩
 case round =>
  clear H'
  try clear c1
  try clear c2
  try clear p2
  obtain ⟨x7_1, x14_1, rfl, HA, HK1, HO_7, HB⟩ := hrel
  cases gk with
  | zero => exact absurd HA.out (by simp [impl_valueOf.l0])
  | succ k1 =>
   have H := HA.out
   clear HA
   simp only [impl_valueOf.l0] at H
   by_cases c6 : x14_1 < (l1.length : Int)
   ·rw [if_pos c6] at H
    have c6b0 : decide (x14_1 < (l1.length : Int)) = true := decide_eq_true c6
    clear c6
    by_cases c7 : 0 ≤ x14_1
    ·rw [if_pos c7] at H
     have c7b0 : decide (0 ≤ x14_1) = true := decide_eq_true c7
     clear c7
     by_cases c8 : x14_1 < (l1.length : Int)
     ·rw [if_pos c8] at H
      have c8b0 : decide (x14_1 < (l1.length : Int)) = true := decide_eq_true c8
      clear c8
      have HC9 := am_ H
      clear H
      have p395 : 0 ≤ (x14_1 : Int) := Sh.od
      have q395 : x14_1 < (l1.length : Int) := Sh.od
      obtain ⟨ad395, e395, hx395_0, hx395_1⟩ := at_T80 HR1.out x14_1 p395 q395
      cases e395
      (try replace hx395_0 := (HB.out.cell (World.block_lt_of_cell? w _ hx395_0)).trans hx395_0)
      (try replace hx395_1 := (HB.out.cell (World.block_lt_of_cell? w _ hx395_1)).trans hx395_1)
      replace p395 := eq_true p395
      replace q395 := eq_true q395
      go_upto_if 42 with (first | ((with_reducible refine gate_dst (N := 9) rfl ?_); refine Sh.bx (N := 9) (cs := #[.int .i64 0, .int .u64 0]) (t := 80) (h := ?_); intro gb396 hg w10 hbox hb; replace HO_7 := am_ (Kd.R_below (by (with_reducible repeat (first | apply Kd.R_alloc | apply Kd.R_drewN | apply Kd.R_drew)); exact HO_7.out) hb); have BK396 := am_ hbox; have GW396 := am_ (Sh.gw (w := w) hg); have GE396 := am_ (Sh.gw (w := w) hg); replace HB := am_ (below_step Sh.bw hb); clear hb hbox hg; obtain ⟨hcz11_0, hcz11_1, hfz11_0, hfz11_1⟩ := Sh.b2 BK396.out; obtain ⟨Ao12, co12, eo12⟩ := Kd.R_slice HO_7.out; subst eo12))
      (try simp only [Act.put, List.setIfInBounds_toArray, List.set_cons_zero, List.set_cons_succ])
      go_cut [42] (fun v42 wc => ∃ (kq : Nat) (x42_8 : Bool), v42 = .bool x42_8 ∧ Aside0 (impl_valueOf.j1 kq a0 l2 x7_1 (wrap64 ((x7_1.length : Int) - 1)) l1 (l1.length : Int) x14_1 ((rd_T80 l1 x14_1).f0) x42_8 ((rd_T80 l1 x14_1).f0) ((rd_T80 l1 x14_1).f1) = some r) ∧ Aside0 (kq ≤ k1) ∧ Aside0 (Kd.R (Kd.int .u64) 61 wc w.heap.size (fun _ => True) (.slice Ao12 x7_1.length co12) x7_1) ∧ Aside0 (wc.heap[gb396]? = some (.cells #[.int .i64 ((rd_T80 l1 x14_1).f0), .int .u64 ((rd_T80 l1 x14_1).f1)] 80 (0, 0))) ∧ Aside0 (Below w.heap.size w wc))
      case first =>
       have H := HC9.out
       clear HC9
       by_cases c13 : ((rd_T80 l1 x14_1).f0) = 1
       ·rw [if_pos c13] at H
        have c13b0 : (((rd_T80 l1 x14_1).f0) == 1) = true := beq_iff_eq.mpr c13
        have c13b1 : (((rd_T80 l1 x14_1).f0) != 1) = false := bne_eq_false_iff_eq.mpr c13
        clear c13
        first | rw [c13b0] | (simp only [i64_w, i32_w]; rw [c13b0]) | skip
        have H' := am_ H
        clear H
        go_wp2
        go_meet
        case rel => exact ⟨_, ((((rd_T80 l1 x14_1).f0) == 1)), (Sh.es), H', ⟨by have := HK1.out; first | omega | exact Nat.le_refl _⟩, ⟨by (with_reducible repeat (first | apply Kd.R_alloc | apply Kd.R_drewN | apply Kd.R_drew)); exact Kd.R_mono (Kd.R_far (p := ⟨gb396, 1, none⟩) (Kd.R_far (p := ⟨gb396, 0, none⟩) (Kd.R_types HO_7.out BK396.out (by decide)) (fun _ hk => hk.2) (.int .i64 ((rd_T80 l1 x14_1).f0))) (fun _ hk => hk.2) (.int .u64 ((rd_T80 l1 x14_1).f1))) (fun _ hk => trivial)⟩, ⟨by (with_reducible repeat (first | refine blk_drewN ?_ _ | refine blk_drew ?_ | refine blk_alloc ?_ _)); refine blk_put (cs := #[.int .i64 ((rd_T80 l1 x14_1).f0), .int .u64 0]) ?_ 1 _ rfl; (with_reducible repeat (first | refine blk_drewN ?_ _ | refine blk_drew ?_ | refine blk_alloc ?_ _)); refine blk_put (cs := #[.int .i64 0, .int .u64 0]) ?_ 0 _ rfl; (with_reducible repeat (first | refine blk_drewN ?_ _ | refine blk_drew ?_ | refine blk_alloc ?_ _)); exact BK396.out⟩, ⟨Sh.bw⟩⟩
       ·rw [if_neg c13] at H
        have c13b0 : (((rd_T80 l1 x14_1).f0) == 1) = false := beq_eq_false_iff_ne.mpr c13
        have c13b1 : (((rd_T80 l1 x14_1).f0) != 1) = true := bne_iff_ne.mpr c13
        first | rw [c13b0] | (simp only [i64_w, i32_w]; rw [c13b0]) | skip
        have H' := am_ H
        clear H
        go_wp2
        go_meet
        case rel => exact ⟨_, ((((rd_T80 l1 x14_1).f0) == 20)), (Sh.es), H', ⟨by have := HK1.out; first | omega | exact Nat.le_refl _⟩, ⟨by (with_reducible repeat (first | apply Kd.R_alloc | apply Kd.R_drewN | apply Kd.R_drew)); exact Kd.R_mono (Kd.R_far (p := ⟨gb396, 1, none⟩) (Kd.R_far (p := ⟨gb396, 0, none⟩) (Kd.R_types HO_7.out BK396.out (by decide)) (fun _ hk => hk.2) (.int .i64 ((rd_T80 l1 x14_1).f0))) (fun _ hk => hk.2) (.int .u64 ((rd_T80 l1 x14_1).f1))) (fun _ hk => trivial)⟩, ⟨by (with_reducible repeat (first | refine blk_drewN ?_ _ | refine blk_drew ?_ | refine blk_alloc ?_ _)); refine blk_put (cs := #[.int .i64 ((rd_T80 l1 x14_1).f0), .int .u64 0]) ?_ 1 _ rfl; (with_reducible repeat (first | refine blk_drewN ?_ _ | refine blk_drew ?_ | refine blk_alloc ?_ _)); refine blk_put (cs := #[.int .i64 0, .int .u64 0]) ?_ 0 _ rfl; (with_reducible repeat (first | refine blk_drewN ?_ _ | refine blk_drew ?_ | refine blk_alloc ?_ _)); exact BK396.out⟩, ⟨Sh.bw⟩⟩
      case rest =>
       clear HC9
       try clear c1
       try clear c2
       try clear p2
       try clear p3
       try clear q3
       try clear hx3
       try clear c6
       try clear c6b0
       try clear p6
       try clear c7
       try clear c7b0
       try clear c8
       try clear c8b0
       try clear c13
       try clear c13b0
       try clear c13b1
       try clear hcz11_0
       try clear hcz11_1
       try clear hfz11_0
       try clear hfz11_1
       try clear hx395_0
       try clear hx395_1
       try clear p2
       try clear p395
       try clear q395
       obtain ⟨kq, x42_8, rfl, HA, HJ8, HO_7, BK396, HB⟩ := hcut
       cases kq with
       | zero => exact absurd HA.out (by simp [impl_valueOf.j1])
       | succ kj8 =>
        have H := HA.out
        clear HA
        simp only [impl_valueOf.j1] at H
        by_cases c14 : x42_8 = true
        ·subst c14
         rw [if_pos rfl] at H
         by_cases c15 : x7_1.length < 17592186044416
         ·rw [if_pos c15] at H
          have LMc15 := am_ c15
          clear c15
          obtain ⟨y397, hy397⟩ : ∃ y_ : List Int, y_ = (x7_1 ++ [((rd_T80 l1 x14_1).f1)]) := ⟨_, rfl⟩
          replace H : (impl_valueOf.l0 kj8 a0 l2 y397 l1 (l1.length : Int) (wrap64 (x14_1 + 1))) = some r := by first | (rw [hy397]; with_reducible exact H) | (have H2_ := (Option.bind_some _ _).symm.trans H; rw [hy397]; with_reducible exact H2_) | (have H2_ := (Option.bind_some _ _).symm.trans H; with_reducible exact H2_) | with_reducible exact H | (rw [hy397]; exact H) | exact H
          have Ny397 := am_ hy397
          clear hy397
          have H' := am_ H
          clear H
          have hcz16_0 := Sh.bc BK396.out 0
          have hcz16_1 := Sh.bc BK396.out 1
          have hfz16_0 := blk_frozen BK396.out 0
          have hfz16_1 := blk_frozen BK396.out 1
          go_wp2_with (first | ((with_reducible refine gate_builtin (b := .append) (xs := #[.tmp 45, .tmp 48]) rfl ?_); at_builtin; refine Kd.R_append (Kd.int .u64) (w0 := w) w.heap.size rfl (.tmp 45) (.tmp 48) 26 61 (.int .u64 0) 8 rfl Try.underlying26 info61 rfl (by decide) (by omega) (.slice Ao12 x7_1.length co12) x7_1 ((rd_T80 l1 x14_1).f1) [.int .u64 ((rd_T80 l1 x14_1).f1)] (fun _ => True) (fun _ => False) rfl rfl ?aP (fun _ hk => hk.elim) ?aF ?aO ?aB ?aS ?aL ?_; (case aP => exact rfl); (case aB => exact Sh.bw); (case aF => exact (fun _ _ => trivial)); (case aO => exact (by (with_reducible repeat (first | apply Kd.R_alloc | apply Kd.R_drewN | apply Kd.R_drew)); exact HO_7.out)); (case aS => exact (below_size Sh.bw)); (case aL => have := LMc15.out; omega); intro v398 w17 ho hb hg hat; rw [← Ny397.out] at ho; have n0_ := am_ (blk_grown (g := gb396) (o := .cells #[.int .i64 ((rd_T80 l1 x14_1).f0), .int .u64 ((rd_T80 l1 x14_1).f1)] 80 (0, 0)) (by (with_reducible repeat (first | refine blk_drewN ?_ _ | refine blk_drew ?_ | refine blk_alloc ?_ _)); exact BK396.out) hg (Kd.R_ne HO_7.out BK396.out (by decide))); have n1_ := am_ hb; have n2_ := am_ ho; clear BK396; clear HB; clear HO_7; have BK396 := n0_; have HB := n1_; have HO399 := n2_; clear n0_ n1_ n2_; clear ho hb hg hat))
          go_roundg kj8
          case measure => have := HK1.out; have := HJ8.out; omega
          case rel => exact ⟨(y397), (wrap64 (x14_1 + 1)), (Sh.es), H', ⟨by have := HK1.out; have := HJ8.out; omega⟩, ⟨by (with_reducible repeat (first | apply Kd.R_alloc | apply Kd.R_drewN | apply Kd.R_drew)); exact HO399.out⟩, ⟨Sh.bw⟩⟩
         ·rw [if_neg c15] at H
          exact absurd H (by simp)
        ·replace c14 := Bool.eq_false_iff.mpr c14
         subst c14
         rw [Sh.nf] at H
         by_cases c18 : ((rd_T80 l1 x14_1).f0) = 2
         ·rw [if_pos c18] at H
          have c18b0 : (((rd_T80 l1 x14_1).f0) == 2) = true := beq_iff_eq.mpr c18
          have c18b1 : (((rd_T80 l1 x14_1).f0) != 2) = false := bne_eq_false_iff_eq.mpr c18
          clear c18
          by_cases c19 : 0 ≤ ((rd_T80 l1 x14_1).f1)
          ·rw [if_pos c19] at H
           have c19b0 : decide (0 ≤ ((rd_T80 l1 x14_1).f1)) = true := decide_eq_true c19
           clear c19
           by_cases c20 : ((rd_T80 l1 x14_1).f1) < (l2.length : Int)
           ·rw [if_pos c20] at H
            have c20b0 : decide (((rd_T80 l1 x14_1).f1) < (l2.length : Int)) = true := decide_eq_true c20
            clear c20
            by_cases c21 : x7_1.length < 17592186044416
            ·rw [if_pos c21] at H
             have LMc21 := am_ c21
             clear c21
             obtain ⟨y401, hy401⟩ : ∃ y_ : List Int, y_ = (x7_1 ++ [rd l2 ((rd_T80 l1 x14_1).f1)]) := ⟨_, rfl⟩
             replace H : (impl_valueOf.l0 kj8 a0 l2 y401 l1 (l1.length : Int) (wrap64 (x14_1 + 1))) = some r := by first | (rw [hy401]; with_reducible exact H) | (have H2_ := (Option.bind_some _ _).symm.trans H; rw [hy401]; with_reducible exact H2_) | (have H2_ := (Option.bind_some _ _).symm.trans H; with_reducible exact H2_) | with_reducible exact H | (rw [hy401]; exact H) | exact H
             have Ny401 := am_ hy401
             clear hy401
             have H' := am_ H
             clear H
             have hcz22_0 := Sh.bc BK396.out 0
             have hcz22_1 := Sh.bc BK396.out 1
             have hfz22_0 := blk_frozen BK396.out 0
             have hfz22_1 := blk_frozen BK396.out 1
             have p400 : 0 ≤ (((rd_T80 l1 x14_1).f1) : Int) := Sh.od
             have q400 : ((rd_T80 l1 x14_1).f1) < (l2.length : Int) := Sh.od
             obtain ⟨ad400, e400, hx400_0⟩ := Kd.at_int HR2.out ((rd_T80 l1 x14_1).f1) p400 q400
             cases e400
             (try replace hx400_0 := (HB.out.cell (World.block_lt_of_cell? w _ hx400_0)).trans hx400_0)
             replace p400 := eq_true p400
             replace q400 := eq_true q400
             go_wp2_with (first | ((with_reducible refine gate_builtin (b := .append) (xs := #[.tmp 52, .tmp 58]) rfl ?_); at_builtin; refine Kd.R_append (Kd.int .u64) (w0 := w) w.heap.size rfl (.tmp 52) (.tmp 58) 26 61 (.int .u64 0) 8 rfl Try.underlying26 info61 rfl (by decide) (by omega) (.slice Ao12 x7_1.length co12) x7_1 (rd l2 ((rd_T80 l1 x14_1).f1)) [.int .u64 (rd l2 ((rd_T80 l1 x14_1).f1))] (fun _ => True) (fun _ => False) rfl rfl ?aP (fun _ hk => hk.elim) ?aF ?aO ?aB ?aS ?aL ?_; (case aP => exact rfl); (case aB => exact Sh.bw); (case aF => exact (fun _ _ => trivial)); (case aO => exact (by (with_reducible repeat (first | apply Kd.R_alloc | apply Kd.R_drewN | apply Kd.R_drew)); exact HO_7.out)); (case aS => exact (below_size Sh.bw)); (case aL => have := LMc21.out; omega); intro v402 w23 ho hb hg hat; rw [← Ny401.out] at ho; have n0_ := am_ (blk_grown (g := gb396) (o := .cells #[.int .i64 ((rd_T80 l1 x14_1).f0), .int .u64 ((rd_T80 l1 x14_1).f1)] 80 (0, 0)) (by (with_reducible repeat (first | refine blk_drewN ?_ _ | refine blk_drew ?_ | refine blk_alloc ?_ _)); exact BK396.out) hg (Kd.R_ne HO_7.out BK396.out (by decide))); have n1_ := am_ hb; have n2_ := am_ ho; clear BK396; clear HB; clear HO_7; have BK396 := n0_; have HB := n1_; have HO403 := n2_; clear n0_ n1_ n2_; clear ho hb hg hat))
             go_roundg kj8
             case measure => have := HK1.out; have := HJ8.out; omega
             case rel => exact ⟨(y401), (wrap64 (x14_1 + 1)), (Sh.es), H', ⟨by have := HK1.out; have := HJ8.out; omega⟩, ⟨by (with_reducible repeat (first | apply Kd.R_alloc | apply Kd.R_drewN | apply Kd.R_drew)); exact HO403.out⟩, ⟨Sh.bw⟩⟩
            ·rw [if_neg c21] at H
             exact absurd H (by simp)
           ·rw [if_neg c20] at H
            exact absurd H (by simp)
          ·rw [if_neg c19] at H
           exact absurd H (by simp)
         ·rw [if_neg c18] at H
          have c18b0 : (((rd_T80 l1 x14_1).f0) == 2) = false := beq_eq_false_iff_ne.mpr c18
          have c18b1 : (((rd_T80 l1 x14_1).f0) != 2) = true := bne_iff_ne.mpr c18
          by_cases c24 : ((rd_T80 l1 x14_1).f0) = 13
          ·rw [if_pos c24] at H
           have c24b0 : (((rd_T80 l1 x14_1).f0) == 13) = true := beq_iff_eq.mpr c24
           have c24b1 : (((rd_T80 l1 x14_1).f0) != 13) = false := bne_eq_false_iff_eq.mpr c24
           clear c24
           obtain ⟨ji25, hj1⟩ : ∃ j_ : Int, (wrap64 ((x7_1.length : Int) - 1)) = j_ := ⟨_, rfl⟩
           replace H : (if 0 ≤ (ji25) then (if (ji25) < (x7_1.length : Int) then ((impl_mask.f a0).bind fun t405 => (impl_valueOf.l0 kj8 a0 l2 (x7_1.set ((ji25) : Int).toNat (Go.bits .and .u64 (Go.bits .xor .u64 18446744073709551615 (rd x7_1 (ji25))) t405)) l1 (l1.length : Int) (wrap64 (x14_1 + 1)))) else (none)) else (none)) = some r := by first | (rw [hj1] at H; exact H) | (simp only [hj1] at H ⊢; exact H)
           have hji25w : (IntKind.i64.wrap ((x7_1.length : Int) - 1)) = ji25 := (i64_w _).trans hj1
           by_cases c26 : 0 ≤ (ji25)
           ·rw [if_pos c26] at H
            have c26b0 : decide (0 ≤ (ji25)) = true := decide_eq_true c26
            clear c26
            by_cases c27 : (ji25) < (x7_1.length : Int)
            ·rw [if_pos c27] at H
             have c27b0 : decide ((ji25) < (x7_1.length : Int)) = true := decide_eq_true c27
             clear c27
             obtain ⟨t405, A280, H⟩ := Sh.bd H
             have A28 := am_ A280
             clear A280
             obtain ⟨y406, hy406⟩ : ∃ y_ : List Int, y_ = (x7_1.set ((ji25) : Int).toNat (Go.bits .and .u64 (Go.bits .xor .u64 18446744073709551615 (rd x7_1 (ji25))) t405)) := ⟨_, rfl⟩
             replace H : (impl_valueOf.l0 kj8 a0 l2 y406 l1 (l1.length : Int) (wrap64 (x14_1 + 1))) = some r := by first | (rw [hy406]; with_reducible exact H) | (have H2_ := (Option.bind_some _ _).symm.trans H; rw [hy406]; with_reducible exact H2_) | (have H2_ := (Option.bind_some _ _).symm.trans H; with_reducible exact H2_) | with_reducible exact H | (rw [hy406]; exact H) | exact H
             have Ny406 := am_ hy406
             clear hy406
             have H' := am_ H
             clear H
             try go_wp2
             replace HO_7 := am_ (Kd.R_drew HO_7.out)
             replace BK396 := am_ (blk_drew BK396.out)
             replace HB := am_ (below_drew1 HB.out)
             have p404 : 0 ≤ ((ji25) : Int) := Sh.od
             have q404 : (ji25) < (x7_1.length : Int) := Sh.od
             obtain ⟨ad404, e404, hx404_0⟩ := Kd.at_int (Kd.R_reads' HO_7.out).2.2 (ji25) p404 q404
             cases e404
             replace p404 := eq_true p404
             replace q404 := eq_true q404
             refine start_ (n := 12) (S := fun w' => w'.cell? (ad404.add ((ji25)).toNat) = some (.int .u64 (rd x7_1 (ji25)))) (ds := [11]) (Sh.nm 12 0) (by kernel_rfl) rfl rfl (hx404_0) (fun hHeld => ?_); refine with_tabW impl_valueOf.tab14 impl_valueOf.bits14 (fun HT_ HW_ => ?_)
             generalize wc.drew = w30 at HO_7 BK396 HB hx404_0 hHeld ⊢
             refine Sh.qA 0 ?_; refine Sh.qA 1 ?_; refine Sh.qA 2 ?_; refine Sh.qA 3 ?_; refine Sh.qA 4 ?_; refine Sh.qA 7 ?_; refine Sh.qT 5 hHeld ?_; refine Sh.qA 6 ?_
             refine Sh.oC 8 Try.func75 #[.int .i64 a0] fun K hK => ?_
             with_reducible refine (impl_mask.calls a0 t405 _ A28.out).mono ?_
             rintro e w' ⟨rfl, ⟨nd, rfl⟩⟩
             refine ⟨_, rfl, ?_⟩
             have p29 : 0 ≤ ((ji25) : Int) := Sh.od
             have q29 : ((ji25) : Int) < ((x7_1.length : Int) : Int) := Sh.od
             obtain ⟨go29, co29, eo29, gb29, gl29, cl29, HG29⟩ := Kd.R_form HO_7.out (by omega)
             (first | cases eo29 | (injection eo29 with ea_ en_ ec_; (first | subst ea_ | (injection ea_ with ea_; subst ea_)); subst ec_; clear en_))
             have GB29 := am_ gb29
             have GG29 := am_ HG29
             clear gb29 gl29 HG29
             (first | simp only [add_plain] at hx404_0 | skip)
             obtain ⟨hx29_0, hf29_0⟩ := Kd.R_celln 0 HO_7.out ((ji25) : Int) p29 q29
             replace p29 := eq_true p29
             replace q29 := eq_true q29
             have HP31 := Kd.R_putn HO_7.out ((ji25) : Int) (Go.bits .and .u64 (Go.bits .xor .u64 18446744073709551615 (rd x7_1 (ji25))) t405)
             rw [← Ny406.out] at HP31
             have HQ31 := am_ HP31
             clear HP31
             refine hK.out _ _ (hHeld) (fun hHeld => ?_)
             clear hK K
             refine norm_ (a' := ?_) ?_ ?_
             rotate_left
             ·show Act.put _ (some 70) _ = _
              simp only [Act.put, List.setIfInBounds_toArray, List.set_cons_zero, List.set_cons_succ, i64_w, i32_w, hj1]
              rfl
             refine Sh.qA 9 ?_; refine Sh.qA 10 ?_
             refine last_ (i := 11) (N := none) (Sh.nm 12 4095) rfl rfl (one_of HT_.out (by kernel_rfl)) (by decide) (fun K hK => ?_)
             refine skip_ (w1 := ?_) (by rfl) rfl ?_ ?_
             rotate_left
             ·go_simp
              rfl
             refine hK.out _ _ ?_
             clear hK K
             refine done_ (done_of HT_.out (by kernel_rfl)) ?_
             try go_wp2
             go_roundg kj8
             case measure => have := HK1.out; have := HJ8.out; omega
             case rel => exact ⟨(y406), (wrap64 (x14_1 + 1)), (Sh.es), H', ⟨by have := HK1.out; have := HJ8.out; omega⟩, ⟨by (with_reducible repeat (first | apply Kd.R_alloc | apply Kd.R_drewN | apply Kd.R_drew)); exact HQ31.out⟩, ⟨Sh.bw⟩⟩
            ·rw [if_neg c27] at H
             exact absurd H (by simp)
           ·rw [if_neg c26] at H
            exact absurd H (by simp)
          ·rw [if_neg c24] at H
           have c24b0 : (((rd_T80 l1 x14_1).f0) == 13) = false := beq_eq_false_iff_ne.mpr c24
           have c24b1 : (((rd_T80 l1 x14_1).f0) != 13) = true := bne_iff_ne.mpr c24
           by_cases c32 : ((rd_T80 l1 x14_1).f0) = 19
           ·rw [if_pos c32] at H
            have c32b0 : (((rd_T80 l1 x14_1).f0) == 19) = true := beq_iff_eq.mpr c32
            have c32b1 : (((rd_T80 l1 x14_1).f0) != 19) = false := bne_eq_false_iff_eq.mpr c32
            clear c32
            obtain ⟨ji33, hj2⟩ : ∃ j_ : Int, (wrap64 ((x7_1.length : Int) - 1)) = j_ := ⟨_, rfl⟩
            replace H : (if 0 ≤ (ji33) then (if (ji33) < (x7_1.length : Int) then (impl_valueOf.l0 kj8 a0 l2 (x7_1.set ((ji33) : Int).toNat (IntKind.u64.wrap (1 - (rd x7_1 (ji33))))) l1 (l1.length : Int) (wrap64 (x14_1 + 1))) else (none)) else (none)) = some r := by first | (rw [hj2] at H; exact H) | (simp only [hj2] at H ⊢; exact H)
            have hji33w : (IntKind.i64.wrap ((x7_1.length : Int) - 1)) = ji33 := (i64_w _).trans hj2
            by_cases c34 : 0 ≤ (ji33)
            ·rw [if_pos c34] at H
             have c34b0 : decide (0 ≤ (ji33)) = true := decide_eq_true c34
             clear c34
             by_cases c35 : (ji33) < (x7_1.length : Int)
             ·rw [if_pos c35] at H
              have c35b0 : decide ((ji33) < (x7_1.length : Int)) = true := decide_eq_true c35
              clear c35
              obtain ⟨y408, hy408⟩ : ∃ y_ : List Int, y_ = (x7_1.set ((ji33) : Int).toNat (IntKind.u64.wrap (1 - (rd x7_1 (ji33))))) := ⟨_, rfl⟩
              replace H : (impl_valueOf.l0 kj8 a0 l2 y408 l1 (l1.length : Int) (wrap64 (x14_1 + 1))) = some r := by first | (rw [hy408]; with_reducible exact H) | (have H2_ := (Option.bind_some _ _).symm.trans H; rw [hy408]; with_reducible exact H2_) | (have H2_ := (Option.bind_some _ _).symm.trans H; with_reducible exact H2_) | with_reducible exact H | (rw [hy408]; exact H) | exact H
              have Ny408 := am_ hy408
              clear hy408
              have H' := am_ H
              clear H
              have p407 : 0 ≤ ((ji33) : Int) := Sh.od
              have q407 : (ji33) < (x7_1.length : Int) := Sh.od
              obtain ⟨ad407, e407, hx407_0⟩ := Kd.at_int (Kd.R_reads' HO_7.out).2.2 (ji33) p407 q407
              cases e407
              replace p407 := eq_true p407
              replace q407 := eq_true q407
              have p36 : 0 ≤ ((ji33) : Int) := Sh.od
              have q36 : ((ji33) : Int) < ((x7_1.length : Int) : Int) := Sh.od
              obtain ⟨go36, co36, eo36, gb36, gl36, cl36, HG36⟩ := Kd.R_form HO_7.out (by omega)
              (first | cases eo36 | (injection eo36 with ea_ en_ ec_; (first | subst ea_ | (injection ea_ with ea_; subst ea_)); subst ec_; clear en_))
              have GB36 := am_ gb36
              have GG36 := am_ HG36
              clear gb36 gl36 HG36
              (first | simp only [add_plain] at hx407_0 | skip)
              obtain ⟨hx36_0, hf36_0⟩ := Kd.R_celln 0 HO_7.out ((ji33) : Int) p36 q36
              replace p36 := eq_true p36
              replace q36 := eq_true q36
              have HP37 := Kd.R_putg HO_7.out ((ji33) : Int) (IntKind.u64.wrap (1 - (rd x7_1 (ji33))))
              go_wp2_with (first | ((with_reducible refine gate_store (t := 61) (p := 82) rfl ?_); refine store_event (t := 61) (p := 82) (v := ?vo_w38) (w1 := (wc.setCell ⟨go36, ((ji33) : Int).toNat, none⟩ (.int .u64 (IntKind.u64.wrap (1 - (rd x7_1 (ji33))))))) ?hg ?ho ?hn ?hr ?_; (case ho => rfl); (case hg => rfl); (case hn => rfl); (case hr => first | (go_simp; done) | (go_simp; rfl)); intro w38 hw; have hg : wc.grownBy w38 (some go36) := (by rw [hw]; exact HP37.2); have hp_ : Kd.R (Kd.int .u64) 61 w38 w.heap.size (fun _ => True) (.slice (some ⟨go36, 0, none⟩) x7_1.length co12) y408 := (by rw [hw, Ny408.out]; exact HP37.1); clear HP37; replace BK396 := am_ (blk_grown (g := gb396) (o := .cells #[.int .i64 ((rd_T80 l1 x14_1).f0), .int .u64 ((rd_T80 l1 x14_1).f1)] 80 (0, 0)) (by (with_reducible repeat (first | refine blk_drewN ?_ _ | refine blk_drew ?_ | refine blk_alloc ?_ _)); exact BK396.out) hg (Kd.R_ne HO_7.out BK396.out (by decide))); replace HO_7 := am_ hp_; replace HB := am_ ((by rw [hw]; exact below_set (HB.out) GB36.out : Below w.heap.size w w38)); clear hg hw hp_))
              go_roundg kj8
              case measure => have := HK1.out; have := HJ8.out; omega
              case rel => exact ⟨(y408), (wrap64 (x14_1 + 1)), (Sh.es), H', ⟨by have := HK1.out; have := HJ8.out; omega⟩, ⟨by (with_reducible repeat (first | apply Kd.R_alloc | apply Kd.R_drewN | apply Kd.R_drew)); exact HO_7.out⟩, ⟨Sh.bw⟩⟩
             ·rw [if_neg c35] at H
              exact absurd H (by simp)
            ·rw [if_neg c34] at H
             exact absurd H (by simp)
           ·rw [if_neg c32] at H
            have c32b0 : (((rd_T80 l1 x14_1).f0) == 19) = false := beq_eq_false_iff_ne.mpr c32
            have c32b1 : (((rd_T80 l1 x14_1).f0) != 19) = true := bne_iff_ne.mpr c32
            obtain ⟨ji39, hj3⟩ : ∃ j_ : Int, (wrap64 ((wrap64 ((x7_1.length : Int) - 1)) - 1)) = j_ := ⟨_, rfl⟩
            replace H : (if 0 ≤ (ji39) then (if (ji39) < (x7_1.length : Int) then (if 0 ≤ (wrap64 ((x7_1.length : Int) - 1)) then (if (wrap64 ((x7_1.length : Int) - 1)) < (x7_1.length : Int) then (if (ji39) ≤ (x7_1.length : Int) then ((some (x7_1.take ((ji39) : Int).toNat : List Int)).bind fun y411 => ((impl_apply.f kj8 a0 ((rd_T80 l1 x14_1).f0) (rd x7_1 (ji39)) (rd x7_1 (wrap64 ((x7_1.length : Int) - 1)))).bind fun t414 => (if y411.length < 17592186044416 then (impl_valueOf.l0 kj8 a0 l2 (y411 ++ [t414]) l1 (l1.length : Int) (wrap64 (x14_1 + 1))) else (none)))) else (none)) else (none)) else (none)) else (none)) else (none)) = some r := by first | (rw [hj3] at H; exact H) | (simp only [hj3] at H ⊢; exact H)
            have hji39w : (IntKind.i64.wrap ((wrap64 ((x7_1.length : Int) - 1)) - 1)) = ji39 := (i64_w _).trans hj3
            by_cases c40 : 0 ≤ (ji39)
            ·rw [if_pos c40] at H
             have c40b0 : decide (0 ≤ (ji39)) = true := decide_eq_true c40
             clear c40
             by_cases c41 : (ji39) < (x7_1.length : Int)
             ·rw [if_pos c41] at H
              have c41b0 : decide ((ji39) < (x7_1.length : Int)) = true := decide_eq_true c41
              clear c41
              obtain ⟨ji42, hj4⟩ : ∃ j_ : Int, (wrap64 ((x7_1.length : Int) - 1)) = j_ := ⟨_, rfl⟩
              have hj5 := hj3; (try rw [hj4] at hj5)
              replace H : (if 0 ≤ (ji42) then (if (ji42) < (x7_1.length : Int) then (if (ji39) ≤ (x7_1.length : Int) then ((some (x7_1.take ((ji39) : Int).toNat : List Int)).bind fun y411 => ((impl_apply.f kj8 a0 ((rd_T80 l1 x14_1).f0) (rd x7_1 (ji39)) (rd x7_1 (ji42))).bind fun t414 => (if y411.length < 17592186044416 then (impl_valueOf.l0 kj8 a0 l2 (y411 ++ [t414]) l1 (l1.length : Int) (wrap64 (x14_1 + 1))) else (none)))) else (none)) else (none)) else (none)) = some r := by first | (rw [hj4] at H; exact H) | (simp only [hj4] at H ⊢; exact H)
              have hji42w : (IntKind.i64.wrap ((x7_1.length : Int) - 1)) = ji42 := (i64_w _).trans hj4
              by_cases c43 : 0 ≤ (ji42)
              ·rw [if_pos c43] at H
               have c43b0 : decide (0 ≤ (ji42)) = true := decide_eq_true c43
               clear c43
               by_cases c44 : (ji42) < (x7_1.length : Int)
               ·rw [if_pos c44] at H
                have c44b0 : decide ((ji42) < (x7_1.length : Int)) = true := decide_eq_true c44
                clear c44
                by_cases c45 : (ji39) ≤ (x7_1.length : Int)
                ·rw [if_pos c45] at H
                 have c45b0 := eq_true c45
                 have c45b1 : decide ((ji39) ≤ (x7_1.length : Int)) = true := decide_eq_true c45
                 clear c45
                 obtain ⟨y411, hy411⟩ : ∃ y_ : List Int, y_ = (x7_1.take ((ji39) : Int).toNat) := ⟨_, rfl⟩
                 replace H : ((impl_apply.f kj8 a0 ((rd_T80 l1 x14_1).f0) (rd x7_1 (ji39)) (rd x7_1 (ji42))).bind fun t414 => (if y411.length < 17592186044416 then (impl_valueOf.l0 kj8 a0 l2 (y411 ++ [t414]) l1 (l1.length : Int) (wrap64 (x14_1 + 1))) else (none))) = some r := by first | (rw [hy411]; with_reducible exact H) | (have H2_ := (Option.bind_some _ _).symm.trans H; rw [hy411]; with_reducible exact H2_) | (have H2_ := (Option.bind_some _ _).symm.trans H; with_reducible exact H2_) | with_reducible exact H | (rw [hy411]; exact H) | exact H
                 have Ny411 := am_ hy411
                 clear hy411
                 obtain ⟨t414, A460, H⟩ := Sh.bd H
                 have A46 := am_ A460
                 clear A460
                 by_cases c47 : y411.length < 17592186044416
                 ·rw [if_pos c47] at H
                  have LMc47 := am_ c47
                  clear c47
                  obtain ⟨y415, hy415⟩ : ∃ y_ : List Int, y_ = (y411 ++ [t414]) := ⟨_, rfl⟩
                  replace H : (impl_valueOf.l0 kj8 a0 l2 y415 l1 (l1.length : Int) (wrap64 (x14_1 + 1))) = some r := by first | (rw [hy415]; with_reducible exact H) | (have H2_ := (Option.bind_some _ _).symm.trans H; rw [hy415]; with_reducible exact H2_) | (have H2_ := (Option.bind_some _ _).symm.trans H; with_reducible exact H2_) | with_reducible exact H | (rw [hy415]; exact H) | exact H
                  have Ny415 := am_ hy415
                  clear hy415
                  have H' := am_ H
                  clear H
                  try go_wp2
                  replace HO_7 := am_ (Kd.R_drew HO_7.out)
                  replace BK396 := am_ (blk_drew BK396.out)
                  replace HB := am_ (below_drew1 HB.out)
                  have p409 : 0 ≤ ((ji39) : Int) := Sh.od
                  have q409 : (ji39) < (x7_1.length : Int) := Sh.od
                  obtain ⟨ad409, e409, hx409_0⟩ := Kd.at_int (Kd.R_reads' HO_7.out).2.2 (ji39) p409 q409
                  cases e409
                  replace p409 := eq_true p409
                  replace q409 := eq_true q409
                  have p410 : 0 ≤ ((ji42) : Int) := Sh.od
                  have q410 : (ji42) < (x7_1.length : Int) := Sh.od
                  obtain ⟨ad410, e410, hx410_0⟩ := Kd.at_int (Kd.R_reads' HO_7.out).2.2 (ji42) p410 q410
                  obtain rfl : ad409 = ad410 := (by injection e410)
                  replace p410 := eq_true p410
                  replace q410 := eq_true q410
                  have q49 : ((ji39) : Int) ≤ ((x7_1.length : Int) : Int) := Sh.od
                  obtain ⟨i049, hi049, _, hsz49, _⟩ := info_parts info61
                  have hcut49 := cut_to (P := Try.prog) 26 61 .i64 Try.underlying26 hi049 (some ad409) x7_1.length co12 (ji39) (of_decide_eq_true (by first | (with_reducible assumption) | assumption)) q49 (Kd.R_reads' HO_7.out).2.1
                  have hr49 := Kd.R_take (m := ((ji39) : Int).toNat) HO_7.out (by omega)
                  have hy49 : y411.length = ((ji39) : Int).toNat := (by rw [Ny411.out, List.length_take]; omega)
                  rw [← Ny411.out] at hr49
                  rw [← hy49] at hr49 hcut49
                  clear hy49 hi049 hsz49 HO_7
                  have HO413 := am_ hr49
                  clear hr49
                  replace q49 := eq_true q49
                  refine start_ (n := 20) (S := fun w' => w'.cell? ⟨gb396, 0, none⟩ = some (.int .i64 ((rd_T80 l1 x14_1).f0)) ∧ w'.cell? ⟨gb396, 1, none⟩ = some (.int .u64 ((rd_T80 l1 x14_1).f1)) ∧ w'.cell? (ad409.add ((ji39)).toNat) = some (.int .u64 (rd x7_1 (ji39))) ∧ w'.cell? (ad409.add ((ji42)).toNat) = some (.int .u64 (rd x7_1 (ji42)))) (ds := [17, 18]) (Sh.nm 20 0) (by kernel_rfl) rfl rfl ⟨(blk_cell BK396.out 0).trans rfl, (blk_cell BK396.out 1).trans rfl, hx409_0, hx410_0⟩ (fun hHeld => ?_); refine with_tabW impl_valueOf.tab7 impl_valueOf.bits7 (fun HT_ HW_ => ?_)
                  generalize wc.drew = w48 at HO_7 BK396 HB HO413 hx409_0 hx410_0 hHeld ⊢
                  refine Sh.qA 0 ?_; refine Sh.qA 1 ?_; refine Sh.qA 2 ?_; refine Sh.qA 3 ?_; refine Sh.qA 4 ?_; refine Sh.qA 5 ?_; refine Sh.qA 7 ?_; refine Sh.qA 8 ?_; refine Sh.qA 9 ?_; refine Sh.qA 10 ?_; refine Sh.qA 12 ?_; refine Sh.qA 13 ?_; refine Sh.qA 14 ?_; refine Sh.qT 6 hHeld ?_; refine Sh.qT 11 hHeld ?_; refine Sh.qT 15 hHeld ?_
                  refine one_ (i := 16) (N := some 39) (Sh.nm 20 131071) rfl rfl (one_of HT_.out (by kernel_rfl)) (by decide) (fun K hK => ?_)
                  refine goes_ Try.func91 (by kernel_rfl) rfl #[.int .i64 a0, .int .i64 ((rd_T80 l1 x14_1).f0), .int .u64 (rd x7_1 (ji39)), .int .u64 (rd x7_1 (ji42))] (by rfl) rfl rfl (by (try simp only [List.map_toArray, List.map_cons, List.map_nil]); first | done | (simp only [hj3, hj4]; rfl) | rfl | (simp only [List.length_drop, List.length_take]; rfl)) ?_
                  with_reducible refine (impl_apply.calls kj8 a0 ((rd_T80 l1 x14_1).f0) (rd x7_1 (ji39)) (rd x7_1 (ji42)) t414 _ A46.out).mono ?_
                  rintro e w' ⟨rfl, ⟨nd, rfl⟩⟩
                  refine ⟨_, rfl, ?_⟩
                  refine Sh.kN hK ⟨(blk_cell BK396.out 0).trans rfl, (blk_cell BK396.out 1).trans rfl, hHeld.2.2.1, hHeld.2.2.2⟩ fun hHeld => ?_
                  clear hK K
                  refine last_ (i := 17) (N := some 40) (Sh.nm 20 262143) rfl rfl (one_of HT_.out (by kernel_rfl)) (by decide) (fun K hK => ?_)
                  refine value_ (w1 := ?_) (v := ?_) (by rfl) rfl ?_ ?_
                  rotate_left 2
                  ·go_simp
                   constructor
                   ·rfl
                   ·rfl
                  refine Sh.kM hK ?_
                  clear hK K
                  refine last_ (i := 18) (N := some 41) (Sh.nm 20 524287) rfl rfl (one_of HT_.out (by kernel_rfl)) (by decide) (fun K hK => ?_)
                  refine Kd.R_append_step (Kd.int .u64) (w0 := w) w.heap.size (by rfl) (.tmp 26) (.tmp 40) 26 61 (.int .u64 0) 8 rfl Try.underlying26 info61 rfl (by decide) (by omega) (.slice (some ad409) y411.length co12) y411 t414 [.int .u64 t414] (fun _ => True) (fun _ => False) rfl rfl ?aP (fun _ hk => hk.elim) ?aF ?aO ?aB ?aS ?aL ?_
                  (case aP => exact rfl)
                  (case aB => exact Sh.bw)
                  (case aF => exact (fun _ _ => trivial))
                  (case aO => exact (by (with_reducible repeat (first | apply Kd.R_alloc | apply Kd.R_drewN | apply Kd.R_drew)); exact HO413.out))
                  (case aS => exact (below_size Sh.bw))
                  (case aL => have := LMc47.out; omega)
                  intro v416 w50 ho hb hg hat
                  rw [← Ny415.out] at ho
                  have n0_ := am_ (blk_grown (g := gb396) (o := .cells #[.int .i64 ((rd_T80 l1 x14_1).f0), .int .u64 ((rd_T80 l1 x14_1).f1)] 80 (0, 0)) (by (with_reducible repeat (first | refine blk_drewN ?_ _ | refine blk_drew ?_ | refine blk_alloc ?_ _)); exact BK396.out) hg (Kd.R_ne HO413.out BK396.out (by decide)))
                  have n1_ := am_ hb
                  have n2_ := am_ ho
                  clear BK396
                  clear HB
                  clear HO413
                  have BK396 := n0_
                  have HB := n1_
                  have HO417 := n2_
                  clear n0_ n1_ n2_
                  clear ho hb hg hat
                  refine Sh.kM hK ?_
                  clear hK K
                  refine Sh.qA 19 ?_
                  refine done_ (done_of HT_.out (by kernel_rfl)) ?_
                  try go_wp2
                  go_roundg kj8
                  case measure => have := HK1.out; have := HJ8.out; omega
                  case rel => exact ⟨(y415), (wrap64 (x14_1 + 1)), (Sh.es), H', ⟨by have := HK1.out; have := HJ8.out; omega⟩, ⟨by (with_reducible repeat (first | apply Kd.R_alloc | apply Kd.R_drewN | apply Kd.R_drew)); exact HO417.out⟩, ⟨Sh.bw⟩⟩
                 ·rw [if_neg c47] at H
                  exact absurd H (by simp)
                ·rw [if_neg c45] at H
                 exact absurd H (by simp)
               ·rw [if_neg c44] at H
                exact absurd H (by simp)
              ·rw [if_neg c43] at H
               exact absurd H (by simp)
             ·rw [if_neg c41] at H
              exact absurd H (by simp)
            ·rw [if_neg c40] at H
             exact absurd H (by simp)
     ·rw [if_neg c8] at H
      exact absurd H (by simp)
    ·rw [if_neg c7] at H
     exact absurd H (by simp)
   ·rw [if_neg c6] at H
    have c6b0 : decide (x14_1 < (l1.length : Int)) = false := decide_eq_false c6
    clear c6
    by_cases c51 : 0 < (x7_1.length : Int)
    ·rw [if_pos c51] at H
     have c51b0 : decide (0 < (x7_1.length : Int)) = true := decide_eq_true c51
     have c51b1 : decide (0 < x7_1.length) = true := decide_eq_true (by omega)
     clear c51
     obtain rfl := Option.some.inj H
     obtain ⟨Ao52, co52, eo52⟩ := Kd.R_slice HO_7.out
     subst eo52
     have p394 : 0 ≤ (0 : Int) := (by omega)
     have q394 : 0 < (x7_1.length : Int) := Sh.od
     obtain ⟨ad394, e394, hx394_0⟩ := Kd.at_int (Kd.R_reads' HO_7.out).2.2 0 p394 q394
     cases e394
     have qi394 : (0 < x7_1.length) = True := eq_true (by omega)
     (try rw [show ((0 : Int)).toNat = 0 from rfl] at hx394_0)
     (try rw [Addr.add_zero'] at hx394_0)
     replace p394 := eq_true p394
     replace q394 := eq_true q394
     go_wp2
     go_ret
     exact ⟨Sh.eR, Sh.bw⟩
    ·rw [if_neg c51] at H
     exact absurd H (by simp)
def impl_Program_holds.f (k : Nat) (a0_0 : Int) (a0_1 : Int) (l0_2 : List (S80)) (l0_3 : List (S71)) (l1 : List (S80)) (l2 : List Int) : Option (Bool) := (impl_valueOf.f k a0_0 l1 l2).bind fun t419 => (some (t419 == 1))
theorem impl_Program_holds.mono : ∀ a0 a1 a2 a3 a4 a5 k, LeO (impl_Program_holds.f k a0 a1 a2 a3 a4 a5) (impl_Program_holds.f (k + 1) a0 a1 a2 a3 a4 a5) := by
 intro a0 a1 a2 a3 a4 a5 k
 unfold impl_Program_holds.f
 repeat' with_reducible first | apply impl_valueOf.mono | exact LeO.refl _ | exact LeO.none _ | apply LeO.ite | refine LeO.bind ?_ fun _ => ?_
set_option maxHeartbeats 8000000 in
set_option maxRecDepth 100000 in
theorem impl_Program_holds.calls (k : Nat) (a0_0 : Int) (a0_1 : Int) (A0_2 : Option Addr) (c0_2 : Nat) (l0_2 : List (S80)) (A0_3 : Option Addr) (c0_3 : Nat) (l0_3 : List (S71)) (A1 : Option Addr) (c1 : Nat) (l1 : List (S80)) (A2 : Option Addr) (c2 : Nat) (l2 : List Int) (r : Bool) (w : World) (hr0_2 : Kd.C k80 w A0_2 l0_2.length l0_2) (hc0_2 : l0_2.length ≤ c0_2) (hr0_3 : Kd.C k71 w A0_3 l0_3.length l0_3) (hc0_3 : l0_3.length ≤ c0_3) (hr1 : Kd.C k80 w A1 l1.length l1) (hc1 : l1.length ≤ c1) (hr2 : Kd.C (Kd.int .u64) w A2 l2.length l2) (hc2 : l2.length ≤ c2) (h : impl_Program_holds.f k a0_0 a0_1 l0_2 l0_3 l1 l2 = some r) :
  Calls Try.prog 38 #[.agg #[.int .i64 a0_0, .int .i64 a0_1, .slice A0_2 l0_2.length c0_2, .slice A0_3 l0_3.length c0_3], .slice A1 l1.length c1, .slice A2 l2.length c2] w fun e w' => e = .returned (.bool r) ∧ Below w.heap.size w w' := by
 have hu33 := Try.underlying33
 have HR0_2 := am_ hr0_2
 have HC0_2 := am_ hc0_2
 clear hr0_2 hc0_2
 have HR0_3 := am_ hr0_3
 have HC0_3 := am_ hc0_3
 clear hr0_3 hc0_3
 have HR1 := am_ hr1
 have HC1 := am_ hc1
 clear hr1 hc1
 have HR2 := am_ hr2
 have HC2 := am_ hc2
 clear hr2 hc2
 have HB := am_ (Below.refl w.heap.size w)
 have H := h
 clear h
 unfold impl_Program_holds.f at H
 obtain ⟨t419, A40, H⟩ := Sh.bd H
 have A4 := am_ A40
 clear A40
 obtain rfl := Option.some.inj H
 go_enter Try.func38, Try.ntmps38
 go_wp2_with (first | ((with_reducible refine gate_dst (N := 3) rfl ?_); refine Sh.bx (N := 3) (cs := #[.int .i64 a0_0, .int .i64 a0_1, .slice A0_2 l0_2.length c0_2, .slice A0_3 l0_3.length c0_3]) (t := 33) (h := ?_); intro gb418 hg w5 hbox hb; have BK418 := am_ hbox; have GW418 := am_ (Sh.gw (w := w) hg); have GE418 := am_ (Sh.gw (w := w) hg); replace HB := am_ (below_step Sh.bw hb); clear hb hbox hg; obtain ⟨hcz6_0, hcz6_1, hcz6_2, hcz6_3, hfz6_0, hfz6_1, hfz6_2, hfz6_3⟩ := Sh.b4 BK418.out) | ((with_reducible refine gate_callee (f := 67) rfl ?_); refine Sh.gL (some 11) Try.func67 #[.int .i64 a0_0, .slice A1 l1.length c1, .slice A2 l2.length c2] (h := ?_); (with_reducible refine (impl_valueOf.calls k a0_0 _ _ l1 _ _ l2 t419 _ (Sh.cB HR1.out) HC1.out (Sh.cB HR2.out) HC2.out A4.out).mono ?_); rintro e w7 ⟨rfl, hb⟩; refine ⟨_, rfl, ?_⟩; replace BK418 := am_ (Sh.bb BK418.out hb); replace HB := am_ (below_step Sh.bw hb); (try clear hb); (try clear hb2); (try clear hk); (try clear hi)))
 go_ret
 exact ⟨Sh.eR, Sh.bw⟩
def laws_markUint64S.l0 : Nat → List Int → Int → Int → Option (Int × List Int)
 | 0, _, _, _ => none
 | k + 1, x0, x1, x5 => if x5 < (x0.length : Int) then (if 0 ≤ x5 then (laws_markUint64S.l0 k (x0.set (x5 : Int).toNat (IntKind.u64.wrap (x1))) (wrap64 (x1 + 1)) (wrap64 (x5 + 1))) else (none)) else (some (x1, x0))
def laws_markUint64S.f (k : Nat) (l0 : List Int) (a1 : Int) : Option (Int × List Int) := laws_markUint64S.l0 k l0 a1 0
theorem laws_markUint64S.mono_l : ∀ k, (∀ y0 y1 y2, LeO (laws_markUint64S.l0 k y0 y1 y2) (laws_markUint64S.l0 (k + 1) y0 y1 y2))
 | 0 => fun _ _ _ r h => by simp [laws_markUint64S.l0] at h
 | k + 1 => by
  have ih0 := laws_markUint64S.mono_l k
  ·intro y0 y1 y2
   unfold laws_markUint64S.l0
   repeat' with_reducible first | apply ih0 | exact LeO.refl _ | exact LeO.none _ | apply LeO.ite | refine LeO.bind ?_ fun _ => ?_
theorem laws_markUint64S.mono : ∀ a0 a1 k, LeO (laws_markUint64S.f k a0 a1) (laws_markUint64S.f (k + 1) a0 a1) := by
 intro a0 a1 k
 have ih0 := laws_markUint64S.mono_l k
 unfold laws_markUint64S.f
 repeat' with_reducible first | apply ih0 | exact LeO.refl _ | exact LeO.none _ | apply LeO.ite | refine LeO.bind ?_ fun _ => ?_
set_option maxHeartbeats 8000000 in
set_option maxRecDepth 100000 in
theorem laws_markUint64S.calls (k : Nat) (P0_ : Nat → Prop) (u9000_ : Value) (l0 : List Int) (a1 : Int) (r1 : Int) (r2 : List Int) (w0 w : World) (hB : Below w0.heap.size w0 w) (ho0 : Kd.R (Kd.int .u64) 61 w w0.heap.size P0_ u9000_ l0) (h : laws_markUint64S.f k l0 a1 = some (r1, r2)) :
  Calls Try.prog 23 #[u9000_, .int .i64 a1] w fun e w' => e = .returned (.int .i64 r1) ∧ Kd.R (Kd.int .u64) 61 w' w0.heap.size (fun k_ => (P0_ k_ ∨ w.heap.size ≤ k_)) u9000_ r2 ∧ Below w0.heap.size w0 w' ∧ Kept w w' (fun k_ => P0_ k_) := by
 have HO0 := am_ (show Kd.R (Kd.int .u64) 61 w w0.heap.size (fun k_ => (P0_ k_ ∨ w.heap.size ≤ k_)) u9000_ l0 from Kd.R_mono ho0 (fun k_ hk => (.inl hk)))
 have HK := am_ (Kept.refl w (fun k_ => P0_ k_))
 have HW0 := am_ hB.size
 have HB := am_ hB
 clear hB
 have H := h
 clear h
 unfold laws_markUint64S.f at H
 have H' := am_ H
 clear H
 go_enter Try.func23, Try.ntmps23
 go_wp2
 go_loopg [1, 5] k (fun kq v1 v5 w' => ∃ (x0_1 : List Int) (x1_1 : Int) (x5_1 : Int), v1 = .int .i64 x1_1 ∧ v5 = .int .i64 x5_1 ∧ Aside0 (laws_markUint64S.l0 kq x0_1 x1_1 x5_1 = some (r1, r2)) ∧ Aside0 (kq ≤ k) ∧ Aside0 (Kd.R (Kd.int .u64) 61 w' w0.heap.size (fun k_ => (P0_ k_ ∨ w.heap.size ≤ k_)) u9000_ x0_1) ∧ Aside0 (Kept w w' (fun k_ => P0_ k_)) ∧ Aside0 (Below w0.heap.size w0 w'))
 case atStart => exact ⟨(l0), (a1), (0), (Sh.es), (Sh.es), H', ⟨Nat.le_refl _⟩, ⟨by (with_reducible repeat (first | apply Kd.R_alloc | apply Kd.R_drewN | apply Kd.R_drew)); exact HO0.out⟩, ⟨by repeat (first | (with_reducible first | exact HK.out | apply Kept.alloc | apply Kept.drewN | apply Kept.drew) | exact HK.out)⟩, ⟨Sh.bw⟩⟩
 case round =>
  clear H'
  try clear c2
  try clear p2
  obtain ⟨x0_1, x1_1, x5_1, rfl, rfl, HA, HK1, HO_0, HK, HB⟩ := hrel
  cases gk with
  | zero => exact absurd HA.out (by simp [laws_markUint64S.l0])
  | succ k1 =>
   have H := HA.out
   clear HA
   simp only [laws_markUint64S.l0] at H
   by_cases c3 : x5_1 < (x0_1.length : Int)
   ·rw [if_pos c3] at H
    have c3b0 : decide (x5_1 < (x0_1.length : Int)) = true := decide_eq_true c3
    clear c3
    by_cases c4 : 0 ≤ x5_1
    ·rw [if_pos c4] at H
     have c4b0 : decide (0 ≤ x5_1) = true := decide_eq_true c4
     clear c4
     obtain ⟨y431, hy431⟩ : ∃ y_ : List Int, y_ = (x0_1.set (x5_1 : Int).toNat (IntKind.u64.wrap (x1_1))) := ⟨_, rfl⟩
     replace H : (laws_markUint64S.l0 k1 y431 (wrap64 (x1_1 + 1)) (wrap64 (x5_1 + 1))) = some (r1, r2) := by first | (rw [hy431]; with_reducible exact H) | (have H2_ := (Option.bind_some _ _).symm.trans H; rw [hy431]; with_reducible exact H2_) | (have H2_ := (Option.bind_some _ _).symm.trans H; with_reducible exact H2_) | with_reducible exact H | (rw [hy431]; exact H) | exact H
     have Ny431 := am_ hy431
     clear hy431
     have H' := am_ H
     clear H
     obtain ⟨Ao6, co6, eo6⟩ := Kd.R_slice HO_0.out
     subst eo6
     have p5 : 0 ≤ (x5_1 : Int) := Sh.od
     have q5 : (x5_1 : Int) < ((x0_1.length : Int) : Int) := Sh.od
     obtain ⟨go5, co5, eo5, gb5, gl5, cl5, HG5⟩ := Kd.R_form HO_0.out (by omega)
     (first | cases eo5 | (injection eo5 with ea_ en_ ec_; (first | subst ea_ | (injection ea_ with ea_; subst ea_)); subst ec_; clear en_))
     have GB5 := am_ gb5
     have GG5 := am_ HG5
     clear gb5 gl5 HG5
     have HMgo5 := am_ (show (P0_ go5 ∨ w.heap.size ≤ go5) from (HO_0.out.1 _ rfl))
     obtain ⟨hx5_0, hf5_0⟩ := Kd.R_celln 0 HO_0.out (x5_1 : Int) p5 q5
     replace p5 := eq_true p5
     replace q5 := eq_true q5
     have HP7 := Kd.R_putg HO_0.out (x5_1 : Int) (IntKind.u64.wrap (x1_1))
     go_wp2_with (first | ((with_reducible refine gate_store (t := 61) (p := 16) rfl ?_); refine store_event (t := 61) (p := 16) (v := ?vo_w8) (w1 := (wr.setCell ⟨go5, (x5_1 : Int).toNat, none⟩ (.int .u64 (IntKind.u64.wrap (x1_1))))) ?hg ?ho ?hn ?hr ?_; (case ho => rfl); (case hg => rfl); (case hn => rfl); (case hr => first | (go_simp; done) | (go_simp; rfl)); intro w8 hw; have hg : wr.grownBy w8 (some go5) := (by rw [hw]; exact HP7.2); have hp_ : Kd.R (Kd.int .u64) 61 w8 w0.heap.size (fun k_ => (P0_ k_ ∨ w.heap.size ≤ k_)) (.slice (some ⟨go5, 0, none⟩) x0_1.length co6) y431 := (by rw [hw, Ny431.out]; exact HP7.1); clear HP7; replace HB := am_ ((by rw [hw]; exact below_set (HB.out) GB5.out : Below w0.heap.size w0 w8)); replace HK := am_ (Kept.of_grown (S := (fun k_ => P0_ k_)) hg (by repeat (first | (with_reducible first | exact HK.out | apply Kept.alloc | apply Kept.drewN | apply Kept.drew) | exact HK.out)) (fun k_ e_ => (HO_0.out.1 k_ e_))); replace HO_0 := am_ hp_; clear hg hw hp_))
     go_roundg k1
     case measure => have := HK1.out; omega
     case rel => exact ⟨(y431), (wrap64 (x1_1 + 1)), (wrap64 (x5_1 + 1)), (Sh.es), (Sh.es), H', ⟨by have := HK1.out; omega⟩, ⟨by (with_reducible repeat (first | apply Kd.R_alloc | apply Kd.R_drewN | apply Kd.R_drew)); exact HO_0.out⟩, ⟨by repeat (first | (with_reducible first | exact HK.out | apply Kept.alloc | apply Kept.drewN | apply Kept.drew) | exact HK.out)⟩, ⟨Sh.bw⟩⟩
    ·rw [if_neg c4] at H
     exact absurd H (by simp)
   ·rw [if_neg c3] at H
    have c3b0 : decide (x5_1 < (x0_1.length : Int)) = false := decide_eq_false c3
    clear c3
    simp only [Option.some.injEq, Prod.mk.injEq] at H
    obtain ⟨rfl, rfl⟩ := H
    obtain ⟨Ao9, co9, eo9⟩ := Kd.R_slice HO_0.out
    subst eo9
    go_wp2
    go_ret
    exact ⟨Sh.eR, by (with_reducible repeat (first | apply Kd.R_alloc | apply Kd.R_drewN | apply Kd.R_drew)); exact HO_0.out, Sh.bw, by repeat (first | (with_reducible first | exact HK.out | apply Kept.alloc | apply Kept.drewN | apply Kept.drew) | exact HK.out)⟩
def spec_l1Has.l0 : Nat → Int → List Int → Int → Int → Option (Bool)
 | 0, _, _, _, _ => none
 | k + 1, x1, x7, x8, x9 => if x9 < x8 then (if 0 ≤ x9 then (if x9 < (x7.length : Int) then (if (rd x7 x9) = x1 then (some true) else (spec_l1Has.l0 k x1 x7 x8 (wrap64 (x9 + 1)))) else (none)) else (none)) else (some false)
def spec_l1Has.f (k : Nat) (l0 : List Int) (a1 : Int) : Option (Bool) := spec_l1Has.l0 k a1 l0 (l0.length : Int) 0
theorem spec_l1Has.mono_l : ∀ k, (∀ y0 y1 y2 y3, LeO (spec_l1Has.l0 k y0 y1 y2 y3) (spec_l1Has.l0 (k + 1) y0 y1 y2 y3))
 | 0 => fun _ _ _ _ r h => by simp [spec_l1Has.l0] at h
 | k + 1 => by
  have ih0 := spec_l1Has.mono_l k
  ·intro y0 y1 y2 y3
   unfold spec_l1Has.l0
   repeat' with_reducible first | apply ih0 | exact LeO.refl _ | exact LeO.none _ | apply LeO.ite | refine LeO.bind ?_ fun _ => ?_
theorem spec_l1Has.mono : ∀ a0 a1 k, LeO (spec_l1Has.f k a0 a1) (spec_l1Has.f (k + 1) a0 a1) := by
 intro a0 a1 k
 have ih0 := spec_l1Has.mono_l k
 unfold spec_l1Has.f
 repeat' with_reducible first | apply ih0 | exact LeO.refl _ | exact LeO.none _ | apply LeO.ite | refine LeO.bind ?_ fun _ => ?_
set_option maxHeartbeats 8000000 in
set_option maxRecDepth 100000 in
theorem spec_l1Has.calls (k : Nat) (A0 : Option Addr) (c0 : Nat) (l0 : List Int) (a1 : Int) (r : Bool) (w : World) (hr0 : Kd.C (Kd.int .i64) w A0 l0.length l0) (hc0 : l0.length ≤ c0) (h : spec_l1Has.f k l0 a1 = some r) :
  Calls Try.prog 47 #[.slice A0 l0.length c0, .int .i64 a1] w fun e w' => e = .returned (.bool r) ∧ Drawn0 w w' := by
 have HR0 := am_ hr0
 have HC0 := am_ hc0
 clear hr0 hc0
 have H := h
 clear h
 unfold spec_l1Has.f at H
 have H' := am_ H
 clear H
 go_enter Try.func47, Try.ntmps47
 go_wp2
 go_loopg [9] k (fun kq v9 w' => ∃ (x9_1 : Int), v9 = .int .i64 x9_1 ∧ Aside0 (spec_l1Has.l0 kq a1 l0 (l0.length : Int) x9_1 = some r) ∧ Aside0 (kq ≤ k) ∧ Drawn0 w w')
 case atStart => exact ⟨(0), (Sh.es), H', ⟨Nat.le_refl _⟩, Sh.dr⟩
 case round =>
  clear H'
  try clear p2
  obtain ⟨x9_1, rfl, HA, HK1, ⟨m1, rfl⟩⟩ := hrel
  cases gk with
  | zero => exact absurd HA.out (by simp [spec_l1Has.l0])
  | succ k1 =>
   have H := HA.out
   clear HA
   simp only [spec_l1Has.l0] at H
   by_cases c3 : x9_1 < (l0.length : Int)
   ·rw [if_pos c3] at H
    have c3b0 : decide (x9_1 < (l0.length : Int)) = true := decide_eq_true c3
    clear c3
    by_cases c4 : 0 ≤ x9_1
    ·rw [if_pos c4] at H
     have c4b0 : decide (0 ≤ x9_1) = true := decide_eq_true c4
     clear c4
     by_cases c5 : x9_1 < (l0.length : Int)
     ·rw [if_pos c5] at H
      have c5b0 : decide (x9_1 < (l0.length : Int)) = true := decide_eq_true c5
      clear c5
      by_cases c6 : (rd l0 x9_1) = a1
      ·rw [if_pos c6] at H
       have c6b0 : ((rd l0 x9_1) == a1) = true := beq_iff_eq.mpr c6
       have c6b1 : ((rd l0 x9_1) != a1) = false := bne_eq_false_iff_eq.mpr c6
       clear c6
       obtain rfl := Option.some.inj H
       have p509 : 0 ≤ (x9_1 : Int) := Sh.od
       have q509 : x9_1 < (l0.length : Int) := Sh.od
       obtain ⟨ad509, e509, hx509_0⟩ := Kd.at_int HR0.out x9_1 p509 q509
       cases e509
       replace p509 := eq_true p509
       replace q509 := eq_true q509
       go_wp2
       go_ret
       exact ⟨Sh.es, Sh.dr⟩
      ·rw [if_neg c6] at H
       have c6b0 : ((rd l0 x9_1) == a1) = false := beq_eq_false_iff_ne.mpr c6
       have c6b1 : ((rd l0 x9_1) != a1) = true := bne_iff_ne.mpr c6
       have H' := am_ H
       clear H
       have p509 : 0 ≤ (x9_1 : Int) := Sh.od
       have q509 : x9_1 < (l0.length : Int) := Sh.od
       obtain ⟨ad509, e509, hx509_0⟩ := Kd.at_int HR0.out x9_1 p509 q509
       cases e509
       replace p509 := eq_true p509
       replace q509 := eq_true q509
       go_wp2
       go_roundg k1
       case measure => have := HK1.out; omega
       case rel => exact ⟨(wrap64 (x9_1 + 1)), (Sh.es), H', ⟨by have := HK1.out; omega⟩, Sh.dr⟩
     ·rw [if_neg c5] at H
      exact absurd H (by simp)
    ·rw [if_neg c4] at H
     exact absurd H (by simp)
   ·rw [if_neg c3] at H
    have c3b0 : decide (x9_1 < (l0.length : Int)) = false := decide_eq_false c3
    clear c3
    obtain rfl := Option.some.inj H
    go_wp2
    go_ret
    exact ⟨Sh.es, Sh.dr⟩
def spec_l7Do.l0 : Nat → List Int → List Int → List (S102) → Int → Int → Int → Int → List (S80) → List (S71) → Option (List Int)
 | 0, _, _, _, _, _, _, _, _, _ => none
 | k + 1, x1, x7, x18, x19, x20, x511000, x511001, x511002, x511003 => if x20 < x19 then (if 0 ≤ x20 then (if x20 < (x18.length : Int) then ((spec_l2Value.f k x511000 ((rd_T102 x18 x20).f1) (wrap64 ((((rd_T102 x18 x20).f1).length : Int) - 1)) x1).bind fun t520 => (if 0 ≤ ((rd_T102 x18 x20).f0) then (if ((rd_T102 x18 x20).f0) < (x7.length : Int) then (spec_l7Do.l0 k x1 (x7.set (((rd_T102 x18 x20).f0) : Int).toNat t520) x18 x19 (wrap64 (x20 + 1)) x511000 x511001 x511002 x511003) else (none)) else (none))) else (none)) else (none)) else (some x7)
def spec_l7Do.f (k : Nat) (a0_0 : Int) (a0_1 : Int) (l0_2 : List (S80)) (l0_3 : List (S71)) (l1 : List Int) (a2 : Int) : Option (List Int) := (some (([] : List Int) : List Int)).bind fun y511 => (if y511.length + l1.length < 17592186044416 then (if 0 ≤ a2 then (if a2 < (l0_3.length : Int) then (spec_l7Do.l0 k l1 (y511 ++ l1) ((rd_T71 l0_3 a2).f1) (((rd_T71 l0_3 a2).f1).length : Int) 0 a0_0 a0_1 l0_2 l0_3) else (none)) else (none)) else (none))
theorem spec_l7Do.mono_l : ∀ k, (∀ y0 y1 y2 y3 y4 y5 y6 y7 y8, LeO (spec_l7Do.l0 k y0 y1 y2 y3 y4 y5 y6 y7 y8) (spec_l7Do.l0 (k + 1) y0 y1 y2 y3 y4 y5 y6 y7 y8))
 | 0 => fun _ _ _ _ _ _ _ _ _ r h => by simp [spec_l7Do.l0] at h
 | k + 1 => by
  have ih0 := spec_l7Do.mono_l k
  ·intro y0 y1 y2 y3 y4 y5 y6 y7 y8
   unfold spec_l7Do.l0
   repeat' with_reducible first | apply ih0 | apply spec_l2Value.mono | exact LeO.refl _ | exact LeO.none _ | apply LeO.ite | refine LeO.bind ?_ fun _ => ?_
theorem spec_l7Do.mono : ∀ a0 a1 a2 a3 a4 a5 k, LeO (spec_l7Do.f k a0 a1 a2 a3 a4 a5) (spec_l7Do.f (k + 1) a0 a1 a2 a3 a4 a5) := by
 intro a0 a1 a2 a3 a4 a5 k
 have ih0 := spec_l7Do.mono_l k
 unfold spec_l7Do.f
 repeat' with_reducible first | apply ih0 | apply spec_l2Value.mono | exact LeO.refl _ | exact LeO.none _ | apply LeO.ite | refine LeO.bind ?_ fun _ => ?_
def spec_l7Do.T5 : Bool × List (List Nat × List Nat) := (true, [([], []), ([], []), ([1], [1]), ([], []), ([3], [3]), ([], []), ([5], [5]), ([], []), ([7], [7]), ([8], [8]), ([9], [9]), ([], []), ([4, 6, 10, 11], [4, 6, 10, 11]), ([0, 2, 0, 1, 2, 3, 4, 5, 6, 7, 8, 9, 10, 11, 12], [0, 2]), ([13, 12, 12, 0, 1, 2, 3, 4, 5, 6, 7, 8, 9, 10, 11, 12], [12, 13])])
def spec_l7Do.B5 : List Nat := [0, 0, 2, 0, 8, 0, 32, 0, 128, 384, 896, 0, 4088, 8191, 16383]
theorem spec_l7Do.tab5 : rtab .any (opsOf Try.f48 5) = spec_l7Do.T5 := by kernel_rfl
theorem spec_l7Do.bits5 : waitsOk spec_l7Do.T5.2 spec_l7Do.B5 = true := by kernel_rfl
set_option maxHeartbeats 8000000 in
set_option maxRecDepth 100000 in
theorem spec_l7Do.calls (k : Nat) (a0_0 : Int) (a0_1 : Int) (A0_2 : Option Addr) (c0_2 : Nat) (l0_2 : List (S80)) (A0_3 : Option Addr) (c0_3 : Nat) (l0_3 : List (S71)) (A1 : Option Addr) (c1 : Nat) (l1 : List Int) (a2 : Int) (r : List Int) (w : World) (hr0_2 : Kd.C k80 w A0_2 l0_2.length l0_2) (hc0_2 : l0_2.length ≤ c0_2) (hr0_3 : Kd.C k71 w A0_3 l0_3.length l0_3) (hc0_3 : l0_3.length ≤ c0_3) (hr1 : Kd.C (Kd.int .u64) w A1 l1.length l1) (hc1 : l1.length ≤ c1) (h : spec_l7Do.f k a0_0 a0_1 l0_2 l0_3 l1 a2 = some r) :
  Calls Try.prog 48 #[.agg #[.int .i64 a0_0, .int .i64 a0_1, .slice A0_2 l0_2.length c0_2, .slice A0_3 l0_3.length c0_3], .slice A1 l1.length c1, .int .i64 a2] w fun e w' => ∃ v0_ : Value, e = .returned (v0_) ∧ Kd.R (Kd.int .u64) 61 w' w.heap.size (fun _ => True) v0_ r ∧ Below w.heap.size w w' := by
 have hu33 := Try.underlying33
 have hu102 := Try.underlying102
 have HR0_2 := am_ hr0_2
 have HC0_2 := am_ hc0_2
 clear hr0_2 hc0_2
 have HR0_3 := am_ hr0_3
 have HC0_3 := am_ hc0_3
 clear hr0_3 hc0_3
 have HR1 := am_ hr1
 have HC1 := am_ hc1
 clear hr1 hc1
 have HB := am_ (Below.refl w.heap.size w)
 have H := h
 clear h
 unfold spec_l7Do.f at H
 obtain ⟨y511, hy511⟩ : ∃ y_ : List Int, y_ = (([] : List Int)) := ⟨_, rfl⟩
 replace H : (if y511.length + l1.length < 17592186044416 then (if 0 ≤ a2 then (if a2 < (l0_3.length : Int) then (spec_l7Do.l0 k l1 (y511 ++ l1) ((rd_T71 l0_3 a2).f1) (((rd_T71 l0_3 a2).f1).length : Int) 0 a0_0 a0_1 l0_2 l0_3) else (none)) else (none)) else (none)) = some r := by first | (rw [hy511]; with_reducible exact H) | (have H2_ := (Option.bind_some _ _).symm.trans H; rw [hy511]; with_reducible exact H2_) | (have H2_ := (Option.bind_some _ _).symm.trans H; with_reducible exact H2_) | with_reducible exact H | (rw [hy511]; exact H) | exact H
 have Ny511 := am_ hy511
 clear hy511
 by_cases c4 : y511.length + l1.length < 17592186044416
 ·rw [if_pos c4] at H
  have LMc4 := am_ c4
  clear c4
  obtain ⟨y514, hy514⟩ : ∃ y_ : List Int, y_ = (y511 ++ l1) := ⟨_, rfl⟩
  replace H : (if 0 ≤ a2 then (if a2 < (l0_3.length : Int) then (spec_l7Do.l0 k l1 y514 ((rd_T71 l0_3 a2).f1) (((rd_T71 l0_3 a2).f1).length : Int) 0 a0_0 a0_1 l0_2 l0_3) else (none)) else (none)) = some r := by first | (rw [hy514]; with_reducible exact H) | (have H2_ := (Option.bind_some _ _).symm.trans H; rw [hy514]; with_reducible exact H2_) | (have H2_ := (Option.bind_some _ _).symm.trans H; with_reducible exact H2_) | with_reducible exact H | (rw [hy514]; exact H) | exact H
  have Ny514 := am_ hy514
  clear hy514
  by_cases c5 : 0 ≤ a2
  ·rw [if_pos c5] at H
   have c5b0 : decide (0 ≤ a2) = true := decide_eq_true c5
   clear c5
   by_cases c6 : a2 < (l0_3.length : Int)
   ·rw [if_pos c6] at H
    have c6b0 : decide (a2 < (l0_3.length : Int)) = true := decide_eq_true c6
    clear c6
    have H' := am_ H
    clear H
    go_enter Try.func48, Try.ntmps48
    go_wp2_with (first | ((with_reducible refine gate_dst (N := 3) rfl ?_); refine Sh.bx (N := 3) (cs := #[.int .i64 a0_0, .int .i64 a0_1, .slice A0_2 l0_2.length c0_2, .slice A0_3 l0_3.length c0_3]) (t := 33) (h := ?_); intro gb510 hg w7 hbox hb; have BK510 := am_ hbox; have GW510 := am_ (Sh.gw (w := w) hg); have GE510 := am_ (Sh.gw (w := w) hg); replace HB := am_ (below_step Sh.bw hb); clear hb hbox hg) | ((with_reducible refine gate_dst (N := 10) rfl ?_); refine Kd.R_lit (Kd.int .u64) _ 61 ?hg (N := 10) ?hd (xs := ([] : List Int)) (inner := []) (ok := fun _ => True) (okp := fun _ => True) ?hr ?hp (fun _ hk => hk) trivial (Below.refl _ _) (Nat.le_refl _) (by simp) ?_; (case hd => rfl); (case hg => rfl); (case hr => first | (go_simp; done) | (go_simp; rfl)); (case hp => exact (Reps.none _ _)); intro v512 w8 ho9 hb hg_ hnew_; clear hg_ hnew_; (first | rw [← Ny511.out] at ho9 | (simp only [Int.reduceToNat] at ho9; rw [← Ny511.out] at ho9)); have HO513 := am_ (Kd.R_lower ho9 (below_size Sh.bw)); replace BK510 := am_ (Sh.bb BK510.out hb); replace HB := am_ (below_step Sh.bw hb); clear hb ho9) | ((with_reducible refine gate_builtin (b := .append) (xs := #[.tmp 10, .tmp 11]) rfl ?_); at_builtin; refine Kd.R_append_rows (Kd.int .u64) (w0 := w) w.heap.size rfl (.tmp 10) (.tmp 11) 26 61 (.int .u64 0) 8 rfl Try.underlying26 info61 rfl (by decide) (by omega) v512 y511 l1 _ _ _ (fun _ => True) (fun _ => False) rfl rfl ?aO ?aR (fun _ _ h => h) (fun _ h => h.elim) ?aF ?aB ?aS ?aL ?_; (case aR => repeat (first | exact (Kd.C_below HR1.out HB.out) | (with_reducible first | refine Kd.C_alloc ?_ _ | refine Kd.C_drewN ?_ _ | refine Kd.C_drew ?_))); (case aB => exact Sh.bw); (case aF => exact (fun _ _ => trivial)); (case aO => exact (by (with_reducible repeat (first | apply Kd.R_alloc | apply Kd.R_drewN | apply Kd.R_drew)); exact HO513.out)); (case aS => exact (below_size Sh.bw)); (case aL => have := LMc4.out; omega); intro v515 w10 ho hb hg hat; rw [← Ny514.out] at ho; have n0_ := am_ (blk_grown (g := gb510) (o := .cells #[.int .i64 a0_0, .int .i64 a0_1, .slice A0_2 l0_2.length c0_2, .slice A0_3 l0_3.length c0_3] 33 (0, 0)) (by (with_reducible repeat (first | refine blk_drewN ?_ _ | refine blk_drew ?_ | refine blk_alloc ?_ _)); exact BK510.out) hg (Kd.R_ne HO513.out BK510.out (by decide))); have n1_ := am_ hb; have n2_ := am_ ho; clear BK510; clear HB; clear HO513; have BK510 := n0_; have HB := n1_; have HO516 := n2_; clear n0_ n1_ n2_; clear ho hb hg hat; obtain ⟨hcz11_0, hcz11_1, hcz11_2, hcz11_3, hfz11_0, hfz11_1, hfz11_2, hfz11_3⟩ := Sh.b4 BK510.out; have p517 : 0 ≤ (a2 : Int) := Sh.od; have q517 : a2 < (l0_3.length : Int) := Sh.od; obtain ⟨ad517, A517_0, c517_0, A517_1, c517_1, e517, hx517_0, hx517_1, hl517_0, hi517_0, hl517_1, hi517_1⟩ := at_T71 HR0_3.out a2 p517 q517; cases e517; replace hx517_0 := (HB.out.cell (World.block_lt_of_cell? w _ hx517_0)).trans hx517_0; replace hx517_1 := (HB.out.cell (World.block_lt_of_cell? w _ hx517_1)).trans hx517_1; have HR517_0 := am_ hi517_0; have HC517_0 := am_ hl517_0; clear hi517_0 hl517_0; have HR517_1 := am_ hi517_1; have HC517_1 := am_ hl517_1; clear hi517_1 hl517_1; replace p517 := eq_true p517; replace q517 := eq_true q517))
    go_loopg [20] k (fun kq v20 w' => ∃ (x7_1 : List Int) (x20_1 : Int), v20 = .int .i64 x20_1 ∧ Aside0 (spec_l7Do.l0 kq l1 x7_1 ((rd_T71 l0_3 a2).f1) (((rd_T71 l0_3 a2).f1).length : Int) x20_1 a0_0 a0_1 l0_2 l0_3 = some r) ∧ Aside0 (kq ≤ k) ∧ Aside0 (Kd.R (Kd.int .u64) 61 w' w.heap.size (fun _ => True) v515 x7_1) ∧ Aside0 (w'.heap[gb510]? = some (.cells #[.int .i64 a0_0, .int .i64 a0_1, (.slice A0_2 l0_2.length c0_2), (.slice (some ad517) l0_3.length c0_3)] 33 (0, 0))) ∧ Aside0 (Below w.heap.size w w'))
    case atStart => exact ⟨(y514), (0), (Sh.es), H', ⟨Nat.le_refl _⟩, ⟨by (with_reducible repeat (first | apply Kd.R_alloc | apply Kd.R_drewN | apply Kd.R_drew)); exact HO516.out⟩, ⟨by (with_reducible repeat (first | refine blk_drewN ?_ _ | refine blk_drew ?_ | refine blk_alloc ?_ _)); exact BK510.out⟩, ⟨Sh.bw⟩⟩
    case round =>
     clear H'
     try clear c1
     try clear p2
     try clear c4
     try clear c5
     try clear c5b0
     try clear p5
     try clear q5
     try clear hx5
     try clear c6
     try clear c6b0
     try clear hcz11_0
     try clear hcz11_1
     try clear hcz11_2
     try clear hcz11_3
     try clear hfz11_0
     try clear hfz11_1
     try clear hfz11_2
     try clear hfz11_3
     try clear hx517_0
     try clear hx517_1
     try clear p517
     try clear q517
     obtain ⟨x7_1, x20_1, rfl, HA, HK1, HO_7, BK510, HB⟩ := hrel
     cases gk with
     | zero => exact absurd HA.out (by simp [spec_l7Do.l0])
     | succ k1 =>
      have H := HA.out
      clear HA
      simp only [spec_l7Do.l0] at H
      by_cases c12 : x20_1 < (((rd_T71 l0_3 a2).f1).length : Int)
      ·rw [if_pos c12] at H
       have c12b0 : decide (x20_1 < (((rd_T71 l0_3 a2).f1).length : Int)) = true := decide_eq_true c12
       clear c12
       by_cases c13 : 0 ≤ x20_1
       ·rw [if_pos c13] at H
        have c13b0 : decide (0 ≤ x20_1) = true := decide_eq_true c13
        clear c13
        by_cases c14 : x20_1 < (((rd_T71 l0_3 a2).f1).length : Int)
        ·rw [if_pos c14] at H
         have c14b0 : decide (x20_1 < (((rd_T71 l0_3 a2).f1).length : Int)) = true := decide_eq_true c14
         clear c14
         obtain ⟨t520, A150, H⟩ := Sh.bd H
         have A15 := am_ A150
         clear A150
         by_cases c16 : 0 ≤ ((rd_T102 ((rd_T71 l0_3 a2).f1) x20_1).f0)
         ·rw [if_pos c16] at H
          have c16b0 : decide (0 ≤ ((rd_T102 ((rd_T71 l0_3 a2).f1) x20_1).f0)) = true := decide_eq_true c16
          clear c16
          by_cases c17 : ((rd_T102 ((rd_T71 l0_3 a2).f1) x20_1).f0) < (x7_1.length : Int)
          ·rw [if_pos c17] at H
           have c17b0 : decide (((rd_T102 ((rd_T71 l0_3 a2).f1) x20_1).f0) < (x7_1.length : Int)) = true := decide_eq_true c17
           clear c17
           obtain ⟨y521, hy521⟩ : ∃ y_ : List Int, y_ = (x7_1.set (((rd_T102 ((rd_T71 l0_3 a2).f1) x20_1).f0) : Int).toNat t520) := ⟨_, rfl⟩
           replace H : (spec_l7Do.l0 k1 l1 y521 ((rd_T71 l0_3 a2).f1) (((rd_T71 l0_3 a2).f1).length : Int) (wrap64 (x20_1 + 1)) a0_0 a0_1 l0_2 l0_3) = some r := by first | (rw [hy521]; with_reducible exact H) | (have H2_ := (Option.bind_some _ _).symm.trans H; rw [hy521]; with_reducible exact H2_) | (have H2_ := (Option.bind_some _ _).symm.trans H; with_reducible exact H2_) | with_reducible exact H | (rw [hy521]; exact H) | exact H
           have Ny521 := am_ hy521
           clear hy521
           have H' := am_ H
           clear H
           have p518 : 0 ≤ (x20_1 : Int) := Sh.od
           have q518 : x20_1 < (((rd_T71 l0_3 a2).f1).length : Int) := Sh.od
           obtain ⟨ad518, A518_1, c518_1, e518, hx518_0, hx518_1, hl518_1, hi518_1⟩ := at_T102 HR517_1.out x20_1 p518 q518
           cases e518
           (try replace hx518_0 := (HB.out.cell (World.block_lt_of_cell? w _ hx518_0)).trans hx518_0)
           (try replace hx518_1 := (HB.out.cell (World.block_lt_of_cell? w _ hx518_1)).trans hx518_1)
           have HR518_1 := am_ hi518_1
           have HC518_1 := am_ hl518_1
           clear hi518_1 hl518_1
           replace p518 := eq_true p518
           replace q518 := eq_true q518
           try go_wp2_with (first | ((with_reducible refine gate_dst (N := 9) rfl ?_); refine Sh.bx (N := 9) (cs := #[.int .i64 0, .slice none 0 0]) (t := 102) (h := ?_); intro gb519 hg w19 hbox hb; replace HO_7 := am_ (Kd.R_below (by (with_reducible repeat (first | apply Kd.R_alloc | apply Kd.R_drewN | apply Kd.R_drew)); exact HO_7.out) hb); have BK519 := am_ hbox; have GW519 := am_ (Sh.gw (w := w) hg); have GE519 := am_ (Sh.gw (w := w) hg); replace HB := am_ (below_step Sh.bw hb); have NB510_519 := am_ (Sh.nl hg BK510.out); have NB519_510 := am_ (Sh.ng hg BK510.out); replace BK510 := am_ (Sh.bb BK510.out hb); clear hb hbox hg; have hnb20 := NB519_510.out; have hnc20 := NB510_519.out; obtain ⟨hcz21_0, hcz21_1, hfz21_0, hfz21_1⟩ := Sh.b2 BK519.out))
           have n0_ : Aside0 (Kd.R (Kd.int .u64) 61 ((w19.setCell ⟨gb519, 0, none⟩ (.int .i64 ((rd_T102 ((rd_T71 l0_3 a2).f1) x20_1).f0))).setCell ⟨gb519, 1, none⟩ (.slice A518_1 ((rd_T102 ((rd_T71 l0_3 a2).f1) x20_1).f1).length c518_1)) w.heap.size (fun _ => True) v515 x7_1) := ⟨by (with_reducible repeat (first | apply Kd.R_alloc | apply Kd.R_drewN | apply Kd.R_drew)); exact Kd.R_mono (Kd.R_far (p := ⟨gb519, 1, none⟩) (Kd.R_far (p := ⟨gb519, 0, none⟩) (Kd.R_types HO_7.out BK519.out (by decide)) (fun _ hk => hk.2) (.int .i64 ((rd_T102 ((rd_T71 l0_3 a2).f1) x20_1).f0))) (fun _ hk => hk.2) (.slice A518_1 ((rd_T102 ((rd_T71 l0_3 a2).f1) x20_1).f1).length c518_1)) (fun _ hk => trivial)⟩
           have n1_ : Aside0 (((w19.setCell ⟨gb519, 0, none⟩ (.int .i64 ((rd_T102 ((rd_T71 l0_3 a2).f1) x20_1).f0))).setCell ⟨gb519, 1, none⟩ (.slice A518_1 ((rd_T102 ((rd_T71 l0_3 a2).f1) x20_1).f1).length c518_1)).heap[gb510]? = some (.cells #[.int .i64 a0_0, .int .i64 a0_1, .slice A0_2 l0_2.length c0_2, .slice (some ad517) l0_3.length c0_3] 33 (0, 0))) := ⟨by (with_reducible repeat (first | refine blk_drewN ?_ _ | refine blk_drew ?_ | refine blk_alloc ?_ _)); refine blk_far ?_ NB510_519.out _; (with_reducible repeat (first | refine blk_drewN ?_ _ | refine blk_drew ?_ | refine blk_alloc ?_ _)); refine blk_far ?_ NB510_519.out _; (with_reducible repeat (first | refine blk_drewN ?_ _ | refine blk_drew ?_ | refine blk_alloc ?_ _)); exact BK510.out⟩
           have n2_ : Aside0 (((w19.setCell ⟨gb519, 0, none⟩ (.int .i64 ((rd_T102 ((rd_T71 l0_3 a2).f1) x20_1).f0))).setCell ⟨gb519, 1, none⟩ (.slice A518_1 ((rd_T102 ((rd_T71 l0_3 a2).f1) x20_1).f1).length c518_1)).heap[gb519]? = some (.cells #[.int .i64 ((rd_T102 ((rd_T71 l0_3 a2).f1) x20_1).f0), .slice A518_1 ((rd_T102 ((rd_T71 l0_3 a2).f1) x20_1).f1).length c518_1] 102 (0, 0))) := ⟨by (with_reducible repeat (first | refine blk_drewN ?_ _ | refine blk_drew ?_ | refine blk_alloc ?_ _)); refine blk_put (cs := #[.int .i64 ((rd_T102 ((rd_T71 l0_3 a2).f1) x20_1).f0), .slice none 0 0]) ?_ 1 _ rfl; (with_reducible repeat (first | refine blk_drewN ?_ _ | refine blk_drew ?_ | refine blk_alloc ?_ _)); refine blk_put (cs := #[.int .i64 0, .slice none 0 0]) ?_ 0 _ rfl; (with_reducible repeat (first | refine blk_drewN ?_ _ | refine blk_drew ?_ | refine blk_alloc ?_ _)); exact BK519.out⟩
           have n3_ : Aside0 (Below w.heap.size w ((w19.setCell ⟨gb519, 0, none⟩ (.int .i64 ((rd_T102 ((rd_T71 l0_3 a2).f1) x20_1).f0))).setCell ⟨gb519, 1, none⟩ (.slice A518_1 ((rd_T102 ((rd_T71 l0_3 a2).f1) x20_1).f1).length c518_1))) := ⟨Sh.bw⟩
           (try clear HO_7)
           (try clear BK510)
           (try clear BK519)
           (try clear HB)
           generalize ((w19.setCell ⟨gb519, 0, none⟩ (.int .i64 ((rd_T102 ((rd_T71 l0_3 a2).f1) x20_1).f0))).setCell ⟨gb519, 1, none⟩ (.slice A518_1 ((rd_T102 ((rd_T71 l0_3 a2).f1) x20_1).f1).length c518_1)) = w22 at n0_ n1_ n2_ n3_ ⊢
           have HO_7 := n0_
           have BK510 := n1_
           have BK519 := n2_
           have HB := n3_
           clear n0_ n1_ n2_ n3_
           replace HO_7 := am_ (Kd.R_drew HO_7.out)
           replace BK510 := am_ (blk_drew BK510.out)
           replace BK519 := am_ (blk_drew BK519.out)
           replace HB := am_ (below_drew1 HB.out)
           refine start_ (n := 15) (S := fun w' => w'.cell? ⟨gb519, 0, none⟩ = some (.int .i64 ((rd_T102 ((rd_T71 l0_3 a2).f1) x20_1).f0)) ∧ w'.cell? ⟨gb519, 1, none⟩ = some (.slice A518_1 ((rd_T102 ((rd_T71 l0_3 a2).f1) x20_1).f1).length c518_1) ∧ w'.cell? ⟨gb510, 0, none⟩ = some (.int .i64 a0_0) ∧ w'.cell? ⟨gb510, 1, none⟩ = some (.int .i64 a0_1) ∧ w'.cell? ⟨gb510, 2, none⟩ = some (.slice A0_2 l0_2.length c0_2) ∧ w'.cell? ⟨gb510, 3, none⟩ = some (.slice (some ad517) l0_3.length c0_3)) (ds := [14]) (Sh.nm 15 0) (by kernel_rfl) rfl rfl Sh.cs (fun hHeld => ?_); refine with_tabW spec_l7Do.tab5 spec_l7Do.bits5 (fun HT_ HW_ => ?_)
           generalize w22.drew = w23 at HO_7 BK510 BK519 HB hHeld ⊢
           refine Sh.qA 0 ?_; refine Sh.qA 1 ?_; refine Sh.qA 3 ?_; refine Sh.qA 5 ?_; refine Sh.qA 7 ?_; refine Sh.qA 11 ?_; refine Sh.qT 2 hHeld ?_; refine Sh.qT 4 hHeld ?_; refine Sh.qT 6 hHeld ?_; refine Sh.qT 8 hHeld ?_; refine Sh.qA 9 ?_; refine Sh.qA 10 ?_
           refine Sh.oC 12 Try.func63 #[.int .i64 a0_0, .slice A518_1 ((rd_T102 ((rd_T71 l0_3 a2).f1) x20_1).f1).length c518_1, .int .i64 (wrap64 ((((rd_T102 ((rd_T71 l0_3 a2).f1) x20_1).f1).length : Int) - 1)), .slice A1 l1.length c1] fun K hK => ?_
           with_reducible refine (spec_l2Value.calls k1 a0_0 _ _ ((rd_T102 ((rd_T71 l0_3 a2).f1) x20_1).f1) (wrap64 ((((rd_T102 ((rd_T71 l0_3 a2).f1) x20_1).f1).length : Int) - 1)) _ _ l1 t520 _ ?side1 ?side2 ?side3 ?side4 A15.out).mono ?_
           (case side1 => repeat (first | exact (Kd.C_below HR518_1.out HB.out) | (with_reducible first | refine Kd.C_alloc ?_ _ | refine Kd.C_drewN ?_ _ | refine Kd.C_drew ?_)))
           (case side2 => exact HC518_1.out)
           (case side3 => repeat (first | exact (Kd.C_below HR1.out HB.out) | (with_reducible first | refine Kd.C_alloc ?_ _ | refine Kd.C_drewN ?_ _ | refine Kd.C_drew ?_)))
           (case side4 => exact HC1.out)
           rintro e w24 ⟨rfl, hb⟩
           refine ⟨_, rfl, ?_⟩
           replace HO_7 := am_ (Kd.R_below (by (with_reducible repeat (first | apply Kd.R_alloc | apply Kd.R_drewN | apply Kd.R_drew)); exact HO_7.out) hb)
           replace BK510 := am_ (Sh.bb BK510.out hb)
           replace BK519 := am_ (Sh.bb BK519.out hb)
           replace HB := am_ (below_step Sh.bw hb)
           (try clear hb)
           (try clear hb2)
           (try clear hk)
           (try clear hi)
           have p18 : 0 ≤ (((rd_T102 ((rd_T71 l0_3 a2).f1) x20_1).f0) : Int) := Sh.od
           have q18 : (((rd_T102 ((rd_T71 l0_3 a2).f1) x20_1).f0) : Int) < ((x7_1.length : Int) : Int) := Sh.od
           obtain ⟨go18, co18, eo18, gb18, gl18, cl18, HG18⟩ := Kd.R_form HO_7.out (by omega)
           (first | cases eo18 | (injection eo18 with ea_ en_ ec_; (first | subst ea_ | (injection ea_ with ea_; subst ea_)); subst ec_; clear en_))
           have GB18 := am_ gb18
           have GG18 := am_ HG18
           clear gb18 gl18 HG18
           obtain ⟨hx18_0, hf18_0⟩ := Kd.R_celln 0 HO_7.out (((rd_T102 ((rd_T71 l0_3 a2).f1) x20_1).f0) : Int) p18 q18
           replace p18 := eq_true p18
           replace q18 := eq_true q18
           have HP25 := Kd.R_putn HO_7.out (((rd_T102 ((rd_T71 l0_3 a2).f1) x20_1).f0) : Int) t520
           rw [← Ny521.out] at HP25
           have HQ25 := am_ HP25
           clear HP25
           refine Sh.kN hK Sh.cs fun hHeld => ?_
           clear hK K
           refine Sh.qA 13 ?_
           refine last_ (i := 14) (N := none) (Sh.nm 15 32767) rfl rfl (one_of HT_.out (by kernel_rfl)) (by decide) (fun K hK => ?_)
           refine skip_ (w1 := ?_) (by rfl) rfl ?_ ?_
           rotate_left
           ·go_simp
            rfl
           refine hK.out _ _ ?_
           clear hK K
           refine done_ (done_of HT_.out (by kernel_rfl)) ?_
           try go_wp2
           go_roundg k1
           case measure => have := HK1.out; omega
           case rel => exact ⟨(y521), (wrap64 (x20_1 + 1)), (Sh.es), H', ⟨by have := HK1.out; omega⟩, ⟨by (with_reducible repeat (first | apply Kd.R_alloc | apply Kd.R_drewN | apply Kd.R_drew)); exact HQ25.out⟩, ⟨by (with_reducible repeat (first | refine blk_drewN ?_ _ | refine blk_drew ?_ | refine blk_alloc ?_ _)); refine blk_far ?_ (by have h_ := Kd.R_ne HO_7.out BK510.out (by decide); intro e_; exact h_ (by rw [e_]; rfl)) _; (with_reducible repeat (first | refine blk_drewN ?_ _ | refine blk_drew ?_ | refine blk_alloc ?_ _)); exact BK510.out⟩, ⟨Sh.bw⟩⟩
          ·rw [if_neg c17] at H
           exact absurd H (by simp)
         ·rw [if_neg c16] at H
          exact absurd H (by simp)
        ·rw [if_neg c14] at H
         exact absurd H (by simp)
       ·rw [if_neg c13] at H
        exact absurd H (by simp)
      ·rw [if_neg c12] at H
       have c12b0 : decide (x20_1 < (((rd_T71 l0_3 a2).f1).length : Int)) = false := decide_eq_false c12
       clear c12
       obtain rfl := Option.some.inj H
       go_wp2
       go_ret
       exact ⟨_, Sh.eR, by (with_reducible repeat (first | apply Kd.R_alloc | apply Kd.R_drewN | apply Kd.R_drew)); exact HO_7.out, Sh.bw⟩
   ·rw [if_neg c6] at H
    exact absurd H (by simp)
  ·rw [if_neg c5] at H
   exact absurd H (by simp)
 ·rw [if_neg c4] at H
  exact absurd H (by simp)
def spec_StepBy.f (k : Nat) (a0_0 : Int) (a0_1 : Int) (l0_2 : List (S80)) (l0_3 : List (S71)) (l1 : List Int) (a2 : Int) : Option (List Int × Bool) := (spec_Enabled.f k a0_0 a0_1 l0_2 l0_3 l1).bind fun bt523 => (if bt523.2 = true then ((spec_l1Has.f k bt523.1 a2).bind fun t527 => (if t527 = true then ((spec_l7Do.f k a0_0 a0_1 l0_2 l0_3 l1 a2).bind fun t528 => (some (t528, true))) else (some (([] : List Int), false)))) else (some (([] : List Int), false)))
theorem spec_StepBy.mono : ∀ a0 a1 a2 a3 a4 a5 k, LeO (spec_StepBy.f k a0 a1 a2 a3 a4 a5) (spec_StepBy.f (k + 1) a0 a1 a2 a3 a4 a5) := by
 intro a0 a1 a2 a3 a4 a5 k
 unfold spec_StepBy.f
 repeat' with_reducible first | apply spec_Enabled.mono | apply spec_l1Has.mono | apply spec_l7Do.mono | exact LeO.refl _ | exact LeO.none _ | apply LeO.ite | refine LeO.bind ?_ fun _ => ?_
set_option maxHeartbeats 8000000 in
set_option maxRecDepth 100000 in
theorem spec_StepBy.calls (k : Nat) (a0_0 : Int) (a0_1 : Int) (A0_2 : Option Addr) (c0_2 : Nat) (l0_2 : List (S80)) (A0_3 : Option Addr) (c0_3 : Nat) (l0_3 : List (S71)) (A1 : Option Addr) (c1 : Nat) (l1 : List Int) (a2 : Int) (r1 : List Int) (r2 : Bool) (w : World) (hr0_2 : Kd.C k80 w A0_2 l0_2.length l0_2) (hc0_2 : l0_2.length ≤ c0_2) (hr0_3 : Kd.C k71 w A0_3 l0_3.length l0_3) (hc0_3 : l0_3.length ≤ c0_3) (hr1 : Kd.C (Kd.int .u64) w A1 l1.length l1) (hc1 : l1.length ≤ c1) (h : spec_StepBy.f k a0_0 a0_1 l0_2 l0_3 l1 a2 = some (r1, r2)) :
  Calls Try.prog 24 #[.agg #[.int .i64 a0_0, .int .i64 a0_1, .slice A0_2 l0_2.length c0_2, .slice A0_3 l0_3.length c0_3], .slice A1 l1.length c1, .int .i64 a2] w fun e w' => ∃ v0_ : Value, e = .returned (.tuple #[v0_, .bool r2]) ∧ Kd.R (Kd.int .u64) 61 w' w.heap.size (fun _ => True) v0_ r1 ∧ Below w.heap.size w w' := by
 have hu33 := Try.underlying33
 have HR0_2 := am_ hr0_2
 have HC0_2 := am_ hc0_2
 clear hr0_2 hc0_2
 have HR0_3 := am_ hr0_3
 have HC0_3 := am_ hc0_3
 clear hr0_3 hc0_3
 have HR1 := am_ hr1
 have HC1 := am_ hc1
 clear hr1 hc1
 have HB := am_ (Below.refl w.heap.size w)
 have H := h
 clear h
 unfold spec_StepBy.f at H
 obtain ⟨⟨t523, t526⟩, A40, H⟩ := Sh.bd H
 have A4 := am_ A40
 clear A40
 by_cases c5 : t526 = true
 ·subst c5
  rw [if_pos rfl] at H
  obtain ⟨t527, A60, H⟩ := Sh.bd H
  have A6 := am_ A60
  clear A60
  by_cases c7 : t527 = true
  ·subst c7
   rw [if_pos rfl] at H
   obtain ⟨t528, A80, H⟩ := Sh.bd H
   have A8 := am_ A80
   clear A80
   simp only [Option.some.injEq, Prod.mk.injEq] at H
   obtain ⟨rfl, rfl⟩ := H
   go_enter Try.func24, Try.ntmps24
   go_wp2_with (first | ((with_reducible refine gate_dst (N := 3) rfl ?_); refine Sh.bx (N := 3) (cs := #[.int .i64 a0_0, .int .i64 a0_1, .slice A0_2 l0_2.length c0_2, .slice A0_3 l0_3.length c0_3]) (t := 33) (h := ?_); intro gb522 hg w9 hbox hb; have BK522 := am_ hbox; have GW522 := am_ (Sh.gw (w := w) hg); have GE522 := am_ (Sh.gw (w := w) hg); replace HB := am_ (below_step Sh.bw hb); clear hb hbox hg; obtain ⟨hcz10_0, hcz10_1, hcz10_2, hcz10_3, hfz10_0, hfz10_1, hfz10_2, hfz10_3⟩ := Sh.b4 BK522.out) | ((with_reducible refine gate_callee (f := 21) rfl ?_); refine Sh.gL (some 13) Try.func21 #[.agg #[.int .i64 a0_0, .int .i64 a0_1, .slice A0_2 l0_2.length c0_2, .slice A0_3 l0_3.length c0_3], .slice A1 l1.length c1] (h := ?_); (with_reducible refine (spec_Enabled.calls k a0_0 a0_1 _ _ l0_2 _ _ l0_3 _ _ l1 t523 true _ (Sh.cB HR0_2.out) HC0_2.out (Sh.cB HR0_3.out) HC0_3.out (Sh.cB HR1.out) HC1.out A4.out).mono ?_); rintro e w11 ⟨v524, rfl, ho0, hb⟩; refine ⟨_, rfl, ?_⟩; have HO525 := am_ (Kd.R_lower ho0 (below_size Sh.bw)); replace BK522 := am_ (Sh.bb BK522.out hb); replace HB := am_ (below_step Sh.bw hb); (try clear hb); (try clear hb2); (try clear hk); (try clear hi); (try clear ho0); obtain ⟨Ao12, co12, eo12⟩ := Kd.R_slice HO525.out; subst eo12) | (go_at_call 47; (with_reducible refine (spec_l1Has.calls k _ _ t523 a2 true _ (Sh.cR (Kd.R_reads' HO525.out).2.2) (Kd.R_reads' HO525.out).2.1 A6.out).mono ?_); rintro e w' ⟨rfl, ⟨nd, rfl⟩⟩; obtain ⟨hcz13_0, hcz13_1, hcz13_2, hcz13_3, hfz13_0, hfz13_1, hfz13_2, hfz13_3⟩ := Sh.b4 BK522.out) | ((with_reducible refine gate_callee (f := 48) rfl ?_); refine Sh.gL (some 27) Try.func48 #[.agg #[.int .i64 a0_0, .int .i64 a0_1, .slice A0_2 l0_2.length c0_2, .slice A0_3 l0_3.length c0_3], .slice A1 l1.length c1, .int .i64 a2] (h := ?_); (with_reducible refine (spec_l7Do.calls k a0_0 a0_1 _ _ l0_2 _ _ l0_3 _ _ l1 a2 t528 _ (Sh.cB HR0_2.out) HC0_2.out (Sh.cB HR0_3.out) HC0_3.out (Sh.cB HR1.out) HC1.out A8.out).mono ?_); rintro e w14 ⟨v529, rfl, ho0, hb⟩; refine ⟨_, rfl, ?_⟩; replace HO525 := am_ (Kd.R_below (by (with_reducible repeat (first | apply Kd.R_alloc | apply Kd.R_drewN | apply Kd.R_drew)); exact HO525.out) hb); have HO530 := am_ (Kd.R_lower ho0 (below_size Sh.bw)); replace BK522 := am_ (Sh.bb BK522.out hb); replace HB := am_ (below_step Sh.bw hb); (try clear hb); (try clear hb2); (try clear hk); (try clear hi); (try clear ho0)))
   go_ret2
   exact ⟨_, Sh.eR, by (with_reducible repeat (first | apply Kd.R_alloc | apply Kd.R_drewN | apply Kd.R_drew)); exact HO530.out, Sh.bw⟩
  ·replace c7 := Bool.eq_false_iff.mpr c7
   subst c7
   rw [Sh.nf] at H
   simp only [Option.some.injEq, Prod.mk.injEq] at H
   obtain ⟨rfl, rfl⟩ := H
   go_enter Try.func24, Try.ntmps24
   go_wp2_with (first | ((with_reducible refine gate_dst (N := 3) rfl ?_); refine Sh.bx (N := 3) (cs := #[.int .i64 a0_0, .int .i64 a0_1, .slice A0_2 l0_2.length c0_2, .slice A0_3 l0_3.length c0_3]) (t := 33) (h := ?_); intro gb522 hg w15 hbox hb; have BK522 := am_ hbox; have GW522 := am_ (Sh.gw (w := w) hg); have GE522 := am_ (Sh.gw (w := w) hg); replace HB := am_ (below_step Sh.bw hb); clear hb hbox hg; obtain ⟨hcz16_0, hcz16_1, hcz16_2, hcz16_3, hfz16_0, hfz16_1, hfz16_2, hfz16_3⟩ := Sh.b4 BK522.out) | ((with_reducible refine gate_callee (f := 21) rfl ?_); refine Sh.gL (some 13) Try.func21 #[.agg #[.int .i64 a0_0, .int .i64 a0_1, .slice A0_2 l0_2.length c0_2, .slice A0_3 l0_3.length c0_3], .slice A1 l1.length c1] (h := ?_); (with_reducible refine (spec_Enabled.calls k a0_0 a0_1 _ _ l0_2 _ _ l0_3 _ _ l1 t523 true _ (Sh.cB HR0_2.out) HC0_2.out (Sh.cB HR0_3.out) HC0_3.out (Sh.cB HR1.out) HC1.out A4.out).mono ?_); rintro e w17 ⟨v524, rfl, ho0, hb⟩; refine ⟨_, rfl, ?_⟩; have HO525 := am_ (Kd.R_lower ho0 (below_size Sh.bw)); replace BK522 := am_ (Sh.bb BK522.out hb); replace HB := am_ (below_step Sh.bw hb); (try clear hb); (try clear hb2); (try clear hk); (try clear hi); (try clear ho0); obtain ⟨Ao18, co18, eo18⟩ := Kd.R_slice HO525.out; subst eo18) | (go_at_call 47; (with_reducible refine (spec_l1Has.calls k _ _ t523 a2 false _ (Sh.cR (Kd.R_reads' HO525.out).2.2) (Kd.R_reads' HO525.out).2.1 A6.out).mono ?_); rintro e w' ⟨rfl, ⟨nd, rfl⟩⟩))
   go_ret2
   exact ⟨_, Sh.eR, by first | exact Kd.R_nil _ _ _ _ _ | exact Kd.N_nil _ _ _ _ _ | exact Kd.V_nil _ _ _ _ _ | exact Kd.Q_nil _ _ _ _ _ | exact Kd.S_nil _ _ _ _ _, Sh.bw⟩
 ·replace c5 := Bool.eq_false_iff.mpr c5
  subst c5
  rw [Sh.nf] at H
  simp only [Option.some.injEq, Prod.mk.injEq] at H
  obtain ⟨rfl, rfl⟩ := H
  go_enter Try.func24, Try.ntmps24
  go_wp2_with (first | ((with_reducible refine gate_dst (N := 3) rfl ?_); refine Sh.bx (N := 3) (cs := #[.int .i64 a0_0, .int .i64 a0_1, .slice A0_2 l0_2.length c0_2, .slice A0_3 l0_3.length c0_3]) (t := 33) (h := ?_); intro gb522 hg w19 hbox hb; have BK522 := am_ hbox; have GW522 := am_ (Sh.gw (w := w) hg); have GE522 := am_ (Sh.gw (w := w) hg); replace HB := am_ (below_step Sh.bw hb); clear hb hbox hg; obtain ⟨hcz20_0, hcz20_1, hcz20_2, hcz20_3, hfz20_0, hfz20_1, hfz20_2, hfz20_3⟩ := Sh.b4 BK522.out) | ((with_reducible refine gate_callee (f := 21) rfl ?_); refine Sh.gL (some 13) Try.func21 #[.agg #[.int .i64 a0_0, .int .i64 a0_1, .slice A0_2 l0_2.length c0_2, .slice A0_3 l0_3.length c0_3], .slice A1 l1.length c1] (h := ?_); (with_reducible refine (spec_Enabled.calls k a0_0 a0_1 _ _ l0_2 _ _ l0_3 _ _ l1 t523 false _ (Sh.cB HR0_2.out) HC0_2.out (Sh.cB HR0_3.out) HC0_3.out (Sh.cB HR1.out) HC1.out A4.out).mono ?_); rintro e w21 ⟨v524, rfl, ho0, hb⟩; refine ⟨_, rfl, ?_⟩; have HO525 := am_ (Kd.R_lower ho0 (below_size Sh.bw)); replace BK522 := am_ (Sh.bb BK522.out hb); replace HB := am_ (below_step Sh.bw hb); (try clear hb); (try clear hb2); (try clear hk); (try clear hi); (try clear ho0)))
  go_ret2
  exact ⟨_, Sh.eR, by first | exact Kd.R_nil _ _ _ _ _ | exact Kd.N_nil _ _ _ _ _ | exact Kd.V_nil _ _ _ _ _ | exact Kd.Q_nil _ _ _ _ _ | exact Kd.S_nil _ _ _ _ _, Sh.bw⟩
def impl_Program_isCommandNo.f (a0_0 : Int) (a0_1 : Int) (l0_2 : List (S80)) (l0_3 : List (S71)) (a1 : Int) : Option (Bool) := if a1 ≥ 0 then (some (decide (a1 < (l0_3.length : Int)))) else (some false)
set_option maxHeartbeats 8000000 in
set_option maxRecDepth 100000 in
theorem impl_Program_isCommandNo.calls (a0_0 : Int) (a0_1 : Int) (A0_2 : Option Addr) (c0_2 : Nat) (l0_2 : List (S80)) (A0_3 : Option Addr) (c0_3 : Nat) (l0_3 : List (S71)) (a1 : Int) (r : Bool) (w : World) (hr0_2 : Kd.C k80 w A0_2 l0_2.length l0_2) (hc0_2 : l0_2.length ≤ c0_2) (hr0_3 : Kd.C k71 w A0_3 l0_3.length l0_3) (hc0_3 : l0_3.length ≤ c0_3) (h : impl_Program_isCommandNo.f a0_0 a0_1 l0_2 l0_3 a1 = some r) :
  Calls Try.prog 49 #[.agg #[.int .i64 a0_0, .int .i64 a0_1, .slice A0_2 l0_2.length c0_2, .slice A0_3 l0_3.length c0_3], .int .i64 a1] w fun e w' => e = .returned (.bool r) ∧ Below w.heap.size w w' := by
 have hu33 := Try.underlying33
 have HR0_2 := am_ hr0_2
 have HC0_2 := am_ hc0_2
 clear hr0_2 hc0_2
 have HR0_3 := am_ hr0_3
 have HC0_3 := am_ hc0_3
 clear hr0_3 hc0_3
 have HB := am_ (Below.refl w.heap.size w)
 have H := h
 clear h
 unfold impl_Program_isCommandNo.f at H
 by_cases c3 : a1 ≥ 0
 ·rw [if_pos c3] at H
  have c3b0 : decide (0 ≤ a1) = true := decide_eq_true c3
  clear c3
  obtain rfl := Option.some.inj H
  go_enter Try.func49, Try.ntmps49
  go_wp2_with (first | ((with_reducible refine gate_dst (N := 2) rfl ?_); (try (refine gate_guard (by rfl) ?_; dsimp only)); refine Sh.bx (N := 2) (cs := #[.int .i64 a0_0, .int .i64 a0_1, .slice A0_2 l0_2.length c0_2, .slice A0_3 l0_3.length c0_3]) (t := 33) (h := ?_); intro gb531 hg w4 hbox hb; have BK531 := am_ hbox; have GW531 := am_ (Sh.gw (w := w) hg); have GE531 := am_ (Sh.gw (w := w) hg); replace HB := am_ (below_step Sh.bw hb); clear hb hbox hg; obtain ⟨hcz5_0, hcz5_1, hcz5_2, hcz5_3, hfz5_0, hfz5_1, hfz5_2, hfz5_3⟩ := Sh.b4 BK531.out))
  go_ret
  exact ⟨Sh.eR, Sh.bw⟩
 ·rw [if_neg c3] at H
  have c3b0 : decide (0 ≤ a1) = false := decide_eq_false c3
  clear c3
  obtain rfl := Option.some.inj H
  go_enter Try.func49, Try.ntmps49
  go_wp2_with (first | ((with_reducible refine gate_dst (N := 2) rfl ?_); (try (refine gate_guard (by rfl) ?_; dsimp only)); refine Sh.bx (N := 2) (cs := #[.int .i64 a0_0, .int .i64 a0_1, .slice A0_2 l0_2.length c0_2, .slice A0_3 l0_3.length c0_3]) (t := 33) (h := ?_); intro gb531 hg w6 hbox hb; have BK531 := am_ hbox; have GW531 := am_ (Sh.gw (w := w) hg); have GE531 := am_ (Sh.gw (w := w) hg); replace HB := am_ (below_step Sh.bw hb); clear hb hbox hg))
  go_ret
  exact ⟨Sh.eR, Sh.bw⟩
def slices_Clone_uint64_uint64.f (l0 : List (Int)) : Option (List (Int)) := if l0.length < 17592186044416 then some l0 else none
set_option maxHeartbeats 8000000 in
set_option maxRecDepth 100000 in
theorem slices_Clone_uint64_uint64.calls (A0 : Option Addr) (c0 : Nat) (l0 : List (Int)) (r : List (Int)) (w : World) (hr0 : Kd.C (Kd.int .u64) w A0 l0.length l0) (hc0 : l0.length ≤ c0) (h : slices_Clone_uint64_uint64.f l0 = some r) :
  Calls Try.prog 72 #[.slice A0 l0.length c0] w fun e w' => ∃ v0_ : Value, e = .returned (v0_) ∧ Kd.R (Kd.int .u64) 61 w' w.heap.size (fun _ => True) v0_ r ∧ Below w.heap.size w w' := by
 have hlim : l0.length < 17592186044416 := by
  rcases Nat.lt_or_ge l0.length 17592186044416 with h1 | h1
  ·exact h1
  ·rw [slices_Clone_uint64_uint64.f, if_neg (by omega)] at h; cases h
 rw [slices_Clone_uint64_uint64.f, if_pos hlim] at h
 obtain rfl := Option.some.inj h
 clear h
 cases A0 with
 | none =>
  have hl : l0 = [] := by
   rcases l0 with _ | ⟨x, t⟩
   ·rfl
   ·obtain ⟨ad, e, _⟩ := hr0.2.2 (by simp)
    cases e
  subst hl
  have he : ∀ (w : World) (n c : Nat), (binOp .eql 26 (.slice none n c) (.slice none 0 0)).run Try.prog w = .ok (.bool true) w := fun _ _ _ => rfl
  go_enter Try.func72, Try.ntmps72
  go_wp2
  all_goals (go_ret; exact ⟨_, rfl, Kd.R_nil _ _ _ _ _, Below.refl _ _⟩)
 | some a0 =>
  have HR0 := am_ hr0
  have HC0 := am_ hc0
  clear hr0 hc0
  have HB := am_ (Below.refl w.heap.size w)
  have LM := am_ hlim
  clear hlim
  have he : ∀ (w : World) (n c : Nat), (binOp .eql 26 (.slice (some a0) n c) (.slice none 0 0)).run Try.prog w = .ok (.bool false) w := fun _ _ _ => rfl
  go_enter Try.func72, Try.ntmps72
  go_wp2_with (first | ((with_reducible refine gate_dst (N := 5) rfl ?_); refine Kd.R_lit (Kd.int .u64) _ 61 ?hg (N := 5) ?hd (xs := ([] : List (Int))) (inner := []) (ok := fun _ => True) (okp := fun _ => True) ?hr ?hp (fun _ hk => hk) trivial (Below.refl _ _) (Nat.le_refl _) (by simp) ?_; (case hd => rfl); (case hg => rfl); (case hr => first | (go_simp; done) | (go_simp; rfl)); (case hp => exact (Reps.none _ _)); intro v359 w3 ho4 hb hg_ hnew_; clear hg_ hnew_; have HO360 := am_ (Kd.R_lower ho4 (below_size Sh.bw)); replace HB := am_ (below_step Sh.bw hb); clear hb ho4) | ((with_reducible refine gate_builtin (b := .append) (xs := #[.tmp 5, .tmp 6]) rfl ?_); at_builtin; refine Kd.R_append_rows (Kd.int .u64) (w0 := w) w.heap.size rfl (.tmp 5) (.tmp 6) 26 61 (.int .u64 0) 8 rfl Try.underlying26 info61 rfl (by decide) (by omega) v359 [] l0 _ _ _ (fun _ => True) (fun _ => False) rfl rfl ?aO ?aR (fun _ _ h => h) (fun _ h => h.elim) ?aF ?aB ?aS ?aL ?_; (case aR => repeat (first | exact (Kd.C_below HR0.out HB.out) | (with_reducible first | refine Kd.C_alloc ?_ _ | refine Kd.C_drewN ?_ _ | refine Kd.C_drew ?_))); (case aB => exact Sh.bw); (case aF => exact (fun _ _ => trivial)); (case aO => exact (by (with_reducible repeat (first | apply Kd.R_alloc | apply Kd.R_drewN | apply Kd.R_drew)); exact HO360.out)); (case aS => exact (below_size Sh.bw)); (case aL => have := LM.out; simp only [List.length_nil]; omega); intro v362 w5 ho hb hg hat; rw [List.nil_append] at ho; have n0_ := am_ hb; have n1_ := am_ ho; clear HB; clear HO360; have HB := n0_; have HO363 := n1_; clear n0_ n1_; clear ho hb hg hat))
  go_ret
  exact ⟨_, rfl, HO363.out, HB.out⟩
def impl_Program_after.l0 : Nat → List Int → List Int → List (S102) → Int → Int → Int → Int → List (S80) → List (S71) → Option (List Int)
 | 0, _, _, _, _, _, _, _, _, _ => none
 | k + 1, x2, x7, x13, x14, x15, x533000, x533001, x533002, x533003 => if x15 < x14 then (if 0 ≤ x15 then (if x15 < (x13.length : Int) then ((impl_valueOf.f k x533000 ((rd_T102 x13 x15).f1) x2).bind fun t539 => (if 0 ≤ ((rd_T102 x13 x15).f0) then (if ((rd_T102 x13 x15).f0) < (x7.length : Int) then (impl_Program_after.l0 k x2 (x7.set (((rd_T102 x13 x15).f0) : Int).toNat t539) x13 x14 (wrap64 (x15 + 1)) x533000 x533001 x533002 x533003) else (none)) else (none))) else (none)) else (none)) else (some x7)
def impl_Program_after.f (k : Nat) (a0_0 : Int) (a0_1 : Int) (l0_2 : List (S80)) (l0_3 : List (S71)) (l1_0 : List (S80)) (l1_1 : List (S102)) (l2 : List Int) : Option (List Int) := (slices_Clone_uint64_uint64.f l2).bind fun t534 => (impl_Program_after.l0 k l2 t534 l1_1 (l1_1.length : Int) 0 a0_0 a0_1 l0_2 l0_3)
theorem impl_Program_after.mono_l : ∀ k, (∀ y0 y1 y2 y3 y4 y5 y6 y7 y8, LeO (impl_Program_after.l0 k y0 y1 y2 y3 y4 y5 y6 y7 y8) (impl_Program_after.l0 (k + 1) y0 y1 y2 y3 y4 y5 y6 y7 y8))
 | 0 => fun _ _ _ _ _ _ _ _ _ r h => by simp [impl_Program_after.l0] at h
 | k + 1 => by
  have ih0 := impl_Program_after.mono_l k
  ·intro y0 y1 y2 y3 y4 y5 y6 y7 y8
   unfold impl_Program_after.l0
   repeat' with_reducible first | apply ih0 | apply impl_valueOf.mono | exact LeO.refl _ | exact LeO.none _ | apply LeO.ite | refine LeO.bind ?_ fun _ => ?_
theorem impl_Program_after.mono : ∀ a0 a1 a2 a3 a4 a5 a6 k, LeO (impl_Program_after.f k a0 a1 a2 a3 a4 a5 a6) (impl_Program_after.f (k + 1) a0 a1 a2 a3 a4 a5 a6) := by
 intro a0 a1 a2 a3 a4 a5 a6 k
 have ih0 := impl_Program_after.mono_l k
 unfold impl_Program_after.f
 repeat' with_reducible first | apply ih0 | apply impl_valueOf.mono | exact LeO.refl _ | exact LeO.none _ | apply LeO.ite | refine LeO.bind ?_ fun _ => ?_
def impl_Program_after.T5 : Bool × List (List Nat × List Nat) := (true, [([], []), ([], []), ([1], [1]), ([], []), ([3], [3]), ([], []), ([5], [5]), ([], []), ([4, 6, 7], [4, 6, 7]), ([0, 2, 0, 1, 2, 3, 4, 5, 6, 7, 8], [0, 2]), ([9, 8, 8, 0, 1, 2, 3, 4, 5, 6, 7, 8], [8, 9])])
def impl_Program_after.B5 : List Nat := [0, 0, 2, 0, 8, 0, 32, 0, 248, 511, 1023]
theorem impl_Program_after.tab5 : rtab .any (opsOf Try.f50 5) = impl_Program_after.T5 := by kernel_rfl
theorem impl_Program_after.bits5 : waitsOk impl_Program_after.T5.2 impl_Program_after.B5 = true := by kernel_rfl
set_option maxHeartbeats 8000000 in
set_option maxRecDepth 100000 in
theorem impl_Program_after.calls (k : Nat) (a0_0 : Int) (a0_1 : Int) (A0_2 : Option Addr) (c0_2 : Nat) (l0_2 : List (S80)) (A0_3 : Option Addr) (c0_3 : Nat) (l0_3 : List (S71)) (A1_0 : Option Addr) (c1_0 : Nat) (l1_0 : List (S80)) (A1_1 : Option Addr) (c1_1 : Nat) (l1_1 : List (S102)) (A2 : Option Addr) (c2 : Nat) (l2 : List Int) (r : List Int) (w : World) (hr0_2 : Kd.C k80 w A0_2 l0_2.length l0_2) (hc0_2 : l0_2.length ≤ c0_2) (hr0_3 : Kd.C k71 w A0_3 l0_3.length l0_3) (hc0_3 : l0_3.length ≤ c0_3) (hr1_0 : Kd.C k80 w A1_0 l1_0.length l1_0) (hc1_0 : l1_0.length ≤ c1_0) (hr1_1 : Kd.C k102 w A1_1 l1_1.length l1_1) (hc1_1 : l1_1.length ≤ c1_1) (hr2 : Kd.C (Kd.int .u64) w A2 l2.length l2) (hc2 : l2.length ≤ c2) (h : impl_Program_after.f k a0_0 a0_1 l0_2 l0_3 l1_0 l1_1 l2 = some r) :
  Calls Try.prog 50 #[.agg #[.int .i64 a0_0, .int .i64 a0_1, .slice A0_2 l0_2.length c0_2, .slice A0_3 l0_3.length c0_3], .agg #[.slice A1_0 l1_0.length c1_0, .slice A1_1 l1_1.length c1_1], .slice A2 l2.length c2] w fun e w' => ∃ v0_ : Value, e = .returned (v0_) ∧ Kd.R (Kd.int .u64) 61 w' w.heap.size (fun _ => True) v0_ r ∧ Below w.heap.size w w' := by
 have hu33 := Try.underlying33
 have hu71 := Try.underlying71
 have hu102 := Try.underlying102
 have HR0_2 := am_ hr0_2
 have HC0_2 := am_ hc0_2
 clear hr0_2 hc0_2
 have HR0_3 := am_ hr0_3
 have HC0_3 := am_ hc0_3
 clear hr0_3 hc0_3
 have HR1_0 := am_ hr1_0
 have HC1_0 := am_ hc1_0
 clear hr1_0 hc1_0
 have HR1_1 := am_ hr1_1
 have HC1_1 := am_ hc1_1
 clear hr1_1 hc1_1
 have HR2 := am_ hr2
 have HC2 := am_ hc2
 clear hr2 hc2
 have HB := am_ (Below.refl w.heap.size w)
 have H := h
 clear h
 unfold impl_Program_after.f at H
 obtain ⟨t534, A40, H⟩ := Sh.bd H
 have A4 := am_ A40
 clear A40
 have H' := am_ H
 clear H
 go_enter Try.func50, Try.ntmps50
 go_wp2_with (first | ((with_reducible refine gate_dst (N := 3) rfl ?_); refine Sh.bx (N := 3) (cs := #[.int .i64 a0_0, .int .i64 a0_1, .slice A0_2 l0_2.length c0_2, .slice A0_3 l0_3.length c0_3]) (t := 33) (h := ?_); intro gb532 hg w5 hbox hb; have BK532 := am_ hbox; have GW532 := am_ (Sh.gw (w := w) hg); have GE532 := am_ (Sh.gw (w := w) hg); replace HB := am_ (below_step Sh.bw hb); clear hb hbox hg) | ((with_reducible refine gate_dst (N := 4) rfl ?_); refine Sh.bx (N := 4) (cs := #[.slice A1_0 l1_0.length c1_0, .slice A1_1 l1_1.length c1_1]) (t := 71) (h := ?_); intro gb533 hg w6 hbox hb; have BK533 := am_ hbox; have GW533 := am_ (Sh.gw (w := w) hg); have GE533 := am_ (Sh.gw (w := w) hg); replace HB := am_ (below_step Sh.bw hb); have NB532_533 := am_ (Sh.nl hg BK532.out); have NB533_532 := am_ (Sh.ng hg BK532.out); replace BK532 := am_ (Sh.bb BK532.out hb); clear hb hbox hg) | ((with_reducible refine gate_callee (f := 72) rfl ?_); refine Sh.gL (some 11) Try.func72 #[.slice A2 l2.length c2] (h := ?_); (with_reducible refine (slices_Clone_uint64_uint64.calls _ _ l2 t534 _ (Sh.cB HR2.out) HC2.out A4.out).mono ?_); rintro e w7 ⟨v535, rfl, ho0, hb⟩; refine ⟨_, rfl, ?_⟩; have HO536 := am_ (Kd.R_lower ho0 (below_size Sh.bw)); replace BK532 := am_ (Sh.bb BK532.out hb); replace BK533 := am_ (Sh.bb BK533.out hb); replace HB := am_ (below_step Sh.bw hb); (try clear hb); (try clear hb2); (try clear hk); (try clear hi); (try clear ho0); have hnb8 := NB533_532.out; have hnc8 := NB532_533.out; obtain ⟨hcz9_0, hcz9_1, hfz9_0, hfz9_1⟩ := Sh.b2 BK533.out))
 go_loopg [15] k (fun kq v15 w' => ∃ (x7_1 : List Int) (x15_1 : Int), v15 = .int .i64 x15_1 ∧ Aside0 (impl_Program_after.l0 kq l2 x7_1 l1_1 (l1_1.length : Int) x15_1 a0_0 a0_1 l0_2 l0_3 = some r) ∧ Aside0 (kq ≤ k) ∧ Aside0 (Kd.R (Kd.int .u64) 61 w' w.heap.size (fun _ => True) v535 x7_1) ∧ Aside0 (w'.heap[gb532]? = some (.cells #[.int .i64 a0_0, .int .i64 a0_1, (.slice A0_2 l0_2.length c0_2), (.slice A0_3 l0_3.length c0_3)] 33 (0, 0))) ∧ Aside0 (w'.heap[gb533]? = some (.cells #[(.slice A1_0 l1_0.length c1_0), (.slice A1_1 l1_1.length c1_1)] 71 (0, 0))) ∧ Aside0 (Below w.heap.size w w'))
 case atStart => exact ⟨(t534), (0), (Sh.es), H', ⟨Nat.le_refl _⟩, ⟨by (with_reducible repeat (first | apply Kd.R_alloc | apply Kd.R_drewN | apply Kd.R_drew)); exact HO536.out⟩, ⟨by (with_reducible repeat (first | refine blk_drewN ?_ _ | refine blk_drew ?_ | refine blk_alloc ?_ _)); exact BK532.out⟩, ⟨by (with_reducible repeat (first | refine blk_drewN ?_ _ | refine blk_drew ?_ | refine blk_alloc ?_ _)); exact BK533.out⟩, ⟨Sh.bw⟩⟩
 case round =>
  clear H'
  try clear c1
  try clear c2
  try clear p2
  try clear c5
  try clear c7
  try clear c8
  try clear hcz9_0
  try clear hcz9_1
  try clear hfz9_0
  try clear hfz9_1
  obtain ⟨x7_1, x15_1, rfl, HA, HK1, HO_7, BK532, BK533, HB⟩ := hrel
  cases gk with
  | zero => exact absurd HA.out (by simp [impl_Program_after.l0])
  | succ k1 =>
   have H := HA.out
   clear HA
   simp only [impl_Program_after.l0] at H
   by_cases c10 : x15_1 < (l1_1.length : Int)
   ·rw [if_pos c10] at H
    have c10b0 : decide (x15_1 < (l1_1.length : Int)) = true := decide_eq_true c10
    clear c10
    by_cases c11 : 0 ≤ x15_1
    ·rw [if_pos c11] at H
     have c11b0 : decide (0 ≤ x15_1) = true := decide_eq_true c11
     clear c11
     by_cases c12 : x15_1 < (l1_1.length : Int)
     ·rw [if_pos c12] at H
      have c12b0 : decide (x15_1 < (l1_1.length : Int)) = true := decide_eq_true c12
      clear c12
      obtain ⟨t539, A130, H⟩ := Sh.bd H
      have A13 := am_ A130
      clear A130
      by_cases c14 : 0 ≤ ((rd_T102 l1_1 x15_1).f0)
      ·rw [if_pos c14] at H
       have c14b0 : decide (0 ≤ ((rd_T102 l1_1 x15_1).f0)) = true := decide_eq_true c14
       clear c14
       by_cases c15 : ((rd_T102 l1_1 x15_1).f0) < (x7_1.length : Int)
       ·rw [if_pos c15] at H
        have c15b0 : decide (((rd_T102 l1_1 x15_1).f0) < (x7_1.length : Int)) = true := decide_eq_true c15
        clear c15
        obtain ⟨y540, hy540⟩ : ∃ y_ : List Int, y_ = (x7_1.set (((rd_T102 l1_1 x15_1).f0) : Int).toNat t539) := ⟨_, rfl⟩
        replace H : (impl_Program_after.l0 k1 l2 y540 l1_1 (l1_1.length : Int) (wrap64 (x15_1 + 1)) a0_0 a0_1 l0_2 l0_3) = some r := by first | (rw [hy540]; with_reducible exact H) | (have H2_ := (Option.bind_some _ _).symm.trans H; rw [hy540]; with_reducible exact H2_) | (have H2_ := (Option.bind_some _ _).symm.trans H; with_reducible exact H2_) | with_reducible exact H | (rw [hy540]; exact H) | exact H
        have Ny540 := am_ hy540
        clear hy540
        have H' := am_ H
        clear H
        have p537 : 0 ≤ (x15_1 : Int) := Sh.od
        have q537 : x15_1 < (l1_1.length : Int) := Sh.od
        obtain ⟨ad537, A537_1, c537_1, e537, hx537_0, hx537_1, hl537_1, hi537_1⟩ := at_T102 HR1_1.out x15_1 p537 q537
        cases e537
        (try replace hx537_0 := (HB.out.cell (World.block_lt_of_cell? w _ hx537_0)).trans hx537_0)
        (try replace hx537_1 := (HB.out.cell (World.block_lt_of_cell? w _ hx537_1)).trans hx537_1)
        have HR537_1 := am_ hi537_1
        have HC537_1 := am_ hl537_1
        clear hi537_1 hl537_1
        replace p537 := eq_true p537
        replace q537 := eq_true q537
        try go_wp2_with (first | ((with_reducible refine gate_dst (N := 9) rfl ?_); refine Sh.bx (N := 9) (cs := #[.int .i64 0, .slice none 0 0]) (t := 102) (h := ?_); intro gb538 hg w17 hbox hb; replace HO_7 := am_ (Kd.R_below (by (with_reducible repeat (first | apply Kd.R_alloc | apply Kd.R_drewN | apply Kd.R_drew)); exact HO_7.out) hb); have BK538 := am_ hbox; have GW538 := am_ (Sh.gw (w := w) hg); have GE538 := am_ (Sh.gw (w := w) hg); replace HB := am_ (below_step Sh.bw hb); have NB532_538 := am_ (Sh.nl hg BK532.out); have NB538_532 := am_ (Sh.ng hg BK532.out); replace BK532 := am_ (Sh.bb BK532.out hb); have NB533_538 := am_ (Sh.nl hg BK533.out); have NB538_533 := am_ (Sh.ng hg BK533.out); replace BK533 := am_ (Sh.bb BK533.out hb); clear hb hbox hg; have hnb18 := NB538_532.out; have hnc18 := NB532_538.out; have hnb19 := NB538_533.out; have hnc19 := NB533_538.out; obtain ⟨hcz20_0, hcz20_1, hfz20_0, hfz20_1⟩ := Sh.b2 BK538.out))
        have n0_ : Aside0 (Kd.R (Kd.int .u64) 61 ((w17.setCell ⟨gb538, 0, none⟩ (.int .i64 ((rd_T102 l1_1 x15_1).f0))).setCell ⟨gb538, 1, none⟩ (.slice A537_1 ((rd_T102 l1_1 x15_1).f1).length c537_1)) w.heap.size (fun _ => True) v535 x7_1) := ⟨by (with_reducible repeat (first | apply Kd.R_alloc | apply Kd.R_drewN | apply Kd.R_drew)); exact Kd.R_mono (Kd.R_far (p := ⟨gb538, 1, none⟩) (Kd.R_far (p := ⟨gb538, 0, none⟩) (Kd.R_types HO_7.out BK538.out (by decide)) (fun _ hk => hk.2) (.int .i64 ((rd_T102 l1_1 x15_1).f0))) (fun _ hk => hk.2) (.slice A537_1 ((rd_T102 l1_1 x15_1).f1).length c537_1)) (fun _ hk => trivial)⟩
        have n1_ : Aside0 (((w17.setCell ⟨gb538, 0, none⟩ (.int .i64 ((rd_T102 l1_1 x15_1).f0))).setCell ⟨gb538, 1, none⟩ (.slice A537_1 ((rd_T102 l1_1 x15_1).f1).length c537_1)).heap[gb532]? = some (.cells #[.int .i64 a0_0, .int .i64 a0_1, .slice A0_2 l0_2.length c0_2, .slice A0_3 l0_3.length c0_3] 33 (0, 0))) := ⟨by (with_reducible repeat (first | refine blk_drewN ?_ _ | refine blk_drew ?_ | refine blk_alloc ?_ _)); refine blk_far ?_ NB532_538.out _; (with_reducible repeat (first | refine blk_drewN ?_ _ | refine blk_drew ?_ | refine blk_alloc ?_ _)); refine blk_far ?_ NB532_538.out _; (with_reducible repeat (first | refine blk_drewN ?_ _ | refine blk_drew ?_ | refine blk_alloc ?_ _)); exact BK532.out⟩
        have n2_ : Aside0 (((w17.setCell ⟨gb538, 0, none⟩ (.int .i64 ((rd_T102 l1_1 x15_1).f0))).setCell ⟨gb538, 1, none⟩ (.slice A537_1 ((rd_T102 l1_1 x15_1).f1).length c537_1)).heap[gb533]? = some (.cells #[.slice A1_0 l1_0.length c1_0, .slice (some ad537) l1_1.length c1_1] 71 (0, 0))) := ⟨by (with_reducible repeat (first | refine blk_drewN ?_ _ | refine blk_drew ?_ | refine blk_alloc ?_ _)); refine blk_far ?_ NB533_538.out _; (with_reducible repeat (first | refine blk_drewN ?_ _ | refine blk_drew ?_ | refine blk_alloc ?_ _)); refine blk_far ?_ NB533_538.out _; (with_reducible repeat (first | refine blk_drewN ?_ _ | refine blk_drew ?_ | refine blk_alloc ?_ _)); exact BK533.out⟩
        have n3_ : Aside0 (((w17.setCell ⟨gb538, 0, none⟩ (.int .i64 ((rd_T102 l1_1 x15_1).f0))).setCell ⟨gb538, 1, none⟩ (.slice A537_1 ((rd_T102 l1_1 x15_1).f1).length c537_1)).heap[gb538]? = some (.cells #[.int .i64 ((rd_T102 l1_1 x15_1).f0), .slice A537_1 ((rd_T102 l1_1 x15_1).f1).length c537_1] 102 (0, 0))) := ⟨by (with_reducible repeat (first | refine blk_drewN ?_ _ | refine blk_drew ?_ | refine blk_alloc ?_ _)); refine blk_put (cs := #[.int .i64 ((rd_T102 l1_1 x15_1).f0), .slice none 0 0]) ?_ 1 _ rfl; (with_reducible repeat (first | refine blk_drewN ?_ _ | refine blk_drew ?_ | refine blk_alloc ?_ _)); refine blk_put (cs := #[.int .i64 0, .slice none 0 0]) ?_ 0 _ rfl; (with_reducible repeat (first | refine blk_drewN ?_ _ | refine blk_drew ?_ | refine blk_alloc ?_ _)); exact BK538.out⟩
        have n4_ : Aside0 (Below w.heap.size w ((w17.setCell ⟨gb538, 0, none⟩ (.int .i64 ((rd_T102 l1_1 x15_1).f0))).setCell ⟨gb538, 1, none⟩ (.slice A537_1 ((rd_T102 l1_1 x15_1).f1).length c537_1))) := ⟨Sh.bw⟩
        (try clear HO_7)
        (try clear BK532)
        (try clear BK533)
        (try clear BK538)
        (try clear HB)
        generalize ((w17.setCell ⟨gb538, 0, none⟩ (.int .i64 ((rd_T102 l1_1 x15_1).f0))).setCell ⟨gb538, 1, none⟩ (.slice A537_1 ((rd_T102 l1_1 x15_1).f1).length c537_1)) = w21 at n0_ n1_ n2_ n3_ n4_ ⊢
        have HO_7 := n0_
        have BK532 := n1_
        have BK533 := n2_
        have BK538 := n3_
        have HB := n4_
        clear n0_ n1_ n2_ n3_ n4_
        replace HO_7 := am_ (Kd.R_drew HO_7.out)
        replace BK532 := am_ (blk_drew BK532.out)
        replace BK533 := am_ (blk_drew BK533.out)
        replace BK538 := am_ (blk_drew BK538.out)
        replace HB := am_ (below_drew1 HB.out)
        refine start_ (n := 11) (S := fun w' => w'.cell? ⟨gb538, 0, none⟩ = some (.int .i64 ((rd_T102 l1_1 x15_1).f0)) ∧ w'.cell? ⟨gb538, 1, none⟩ = some (.slice A537_1 ((rd_T102 l1_1 x15_1).f1).length c537_1) ∧ w'.cell? ⟨gb532, 0, none⟩ = some (.int .i64 a0_0) ∧ w'.cell? ⟨gb532, 1, none⟩ = some (.int .i64 a0_1) ∧ w'.cell? ⟨gb532, 2, none⟩ = some (.slice A0_2 l0_2.length c0_2) ∧ w'.cell? ⟨gb532, 3, none⟩ = some (.slice A0_3 l0_3.length c0_3)) (ds := [10]) (Sh.nm 11 0) (by kernel_rfl) rfl rfl Sh.cs (fun hHeld => ?_); refine with_tabW impl_Program_after.tab5 impl_Program_after.bits5 (fun HT_ HW_ => ?_)
        generalize w21.drew = w22 at HO_7 BK532 BK533 BK538 HB hHeld ⊢
        refine Sh.qA 0 ?_; refine Sh.qA 1 ?_; refine Sh.qA 3 ?_; refine Sh.qA 5 ?_; refine Sh.qA 7 ?_; refine Sh.qT 2 hHeld ?_; refine Sh.qT 4 hHeld ?_; refine Sh.qT 6 hHeld ?_
        refine Sh.oC 8 Try.func67 #[.int .i64 a0_0, .slice A537_1 ((rd_T102 l1_1 x15_1).f1).length c537_1, .slice A2 l2.length c2] fun K hK => ?_
        with_reducible refine (impl_valueOf.calls k1 a0_0 _ _ ((rd_T102 l1_1 x15_1).f1) _ _ l2 t539 _ ?side1 ?side2 ?side3 ?side4 A13.out).mono ?_
        (case side1 => repeat (first | exact (Kd.C_below HR537_1.out HB.out) | (with_reducible first | refine Kd.C_alloc ?_ _ | refine Kd.C_drewN ?_ _ | refine Kd.C_drew ?_)))
        (case side2 => exact HC537_1.out)
        (case side3 => repeat (first | exact (Kd.C_below HR2.out HB.out) | (with_reducible first | refine Kd.C_alloc ?_ _ | refine Kd.C_drewN ?_ _ | refine Kd.C_drew ?_)))
        (case side4 => exact HC2.out)
        rintro e w23 ⟨rfl, hb⟩
        refine ⟨_, rfl, ?_⟩
        replace HO_7 := am_ (Kd.R_below (by (with_reducible repeat (first | apply Kd.R_alloc | apply Kd.R_drewN | apply Kd.R_drew)); exact HO_7.out) hb)
        replace BK532 := am_ (Sh.bb BK532.out hb)
        replace BK533 := am_ (Sh.bb BK533.out hb)
        replace BK538 := am_ (Sh.bb BK538.out hb)
        replace HB := am_ (below_step Sh.bw hb)
        (try clear hb)
        (try clear hb2)
        (try clear hk)
        (try clear hi)
        have p16 : 0 ≤ (((rd_T102 l1_1 x15_1).f0) : Int) := Sh.od
        have q16 : (((rd_T102 l1_1 x15_1).f0) : Int) < ((x7_1.length : Int) : Int) := Sh.od
        obtain ⟨go16, co16, eo16, gb16, gl16, cl16, HG16⟩ := Kd.R_form HO_7.out (by omega)
        (first | cases eo16 | (injection eo16 with ea_ en_ ec_; (first | subst ea_ | (injection ea_ with ea_; subst ea_)); subst ec_; clear en_))
        have GB16 := am_ gb16
        have GG16 := am_ HG16
        clear gb16 gl16 HG16
        obtain ⟨hx16_0, hf16_0⟩ := Kd.R_celln 0 HO_7.out (((rd_T102 l1_1 x15_1).f0) : Int) p16 q16
        replace p16 := eq_true p16
        replace q16 := eq_true q16
        have HP24 := Kd.R_putn HO_7.out (((rd_T102 l1_1 x15_1).f0) : Int) t539
        rw [← Ny540.out] at HP24
        have HQ24 := am_ HP24
        clear HP24
        refine Sh.kN hK Sh.cs fun hHeld => ?_
        clear hK K
        refine Sh.qA 9 ?_
        refine last_ (i := 10) (N := none) (Sh.nm 11 2047) rfl rfl (one_of HT_.out (by kernel_rfl)) (by decide) (fun K hK => ?_)
        refine skip_ (w1 := ?_) (by rfl) rfl ?_ ?_
        rotate_left
        ·go_simp
         rfl
        refine hK.out _ _ ?_
        clear hK K
        refine done_ (done_of HT_.out (by kernel_rfl)) ?_
        try go_wp2
        go_roundg k1
        case measure => have := HK1.out; omega
        case rel => exact ⟨(y540), (wrap64 (x15_1 + 1)), (Sh.es), H', ⟨by have := HK1.out; omega⟩, ⟨by (with_reducible repeat (first | apply Kd.R_alloc | apply Kd.R_drewN | apply Kd.R_drew)); exact HQ24.out⟩, ⟨by (with_reducible repeat (first | refine blk_drewN ?_ _ | refine blk_drew ?_ | refine blk_alloc ?_ _)); refine blk_far ?_ (by have h_ := Kd.R_ne HO_7.out BK532.out (by decide); intro e_; exact h_ (by rw [e_]; rfl)) _; (with_reducible repeat (first | refine blk_drewN ?_ _ | refine blk_drew ?_ | refine blk_alloc ?_ _)); exact BK532.out⟩, ⟨by (with_reducible repeat (first | refine blk_drewN ?_ _ | refine blk_drew ?_ | refine blk_alloc ?_ _)); refine blk_far ?_ (by have h_ := Kd.R_ne HO_7.out BK533.out (by decide); intro e_; exact h_ (by rw [e_]; rfl)) _; (with_reducible repeat (first | refine blk_drewN ?_ _ | refine blk_drew ?_ | refine blk_alloc ?_ _)); exact BK533.out⟩, ⟨Sh.bw⟩⟩
       ·rw [if_neg c15] at H
        exact absurd H (by simp)
      ·rw [if_neg c14] at H
       exact absurd H (by simp)
     ·rw [if_neg c12] at H
      exact absurd H (by simp)
    ·rw [if_neg c11] at H
     exact absurd H (by simp)
   ·rw [if_neg c10] at H
    have c10b0 : decide (x15_1 < (l1_1.length : Int)) = false := decide_eq_false c10
    clear c10
    obtain rfl := Option.some.inj H
    go_wp2
    go_ret
    exact ⟨_, Sh.eR, by (with_reducible repeat (first | apply Kd.R_alloc | apply Kd.R_drewN | apply Kd.R_drew)); exact HO_7.out, Sh.bw⟩
def impl_StepBy.f (k : Nat) (a0_0 : Int) (a0_1 : Int) (l0_2 : List (S80)) (l0_3 : List (S71)) (l1 : List Int) (a2 : Int) : Option (List Int × Bool) := (impl_isStateOf.f k a0_0 a0_1 l0_2 l0_3 l1).bind fun t542 => (if t542 = true then ((impl_Program_isCommandNo.f a0_0 a0_1 l0_2 l0_3 a2).bind fun t543 => (if t543 = true then (if 0 ≤ a2 then (if a2 < (l0_3.length : Int) then ((impl_Program_holds.f k a0_0 a0_1 l0_2 l0_3 ((rd_T71 l0_3 a2).f0) l1).bind fun t545 => (if t545 = true then ((impl_Program_after.f k a0_0 a0_1 l0_2 l0_3 ((rd_T71 l0_3 a2).f0) ((rd_T71 l0_3 a2).f1) l1).bind fun t547 => (some (t547, true))) else (some (([] : List Int), false)))) else (none)) else (none)) else (some (([] : List Int), false)))) else (some (([] : List Int), false)))
theorem impl_StepBy.mono : ∀ a0 a1 a2 a3 a4 a5 k, LeO (impl_StepBy.f k a0 a1 a2 a3 a4 a5) (impl_StepBy.f (k + 1) a0 a1 a2 a3 a4 a5) := by
 intro a0 a1 a2 a3 a4 a5 k
 unfold impl_StepBy.f
 repeat' with_reducible first | apply impl_Program_after.mono | apply impl_Program_holds.mono | apply impl_isStateOf.mono | exact LeO.refl _ | exact LeO.none _ | apply LeO.ite | refine LeO.bind ?_ fun _ => ?_
def impl_StepBy.T1 : Bool × List (List Nat × List Nat) := (true, [([], []), ([], []), ([0, 1], [0, 1]), ([2], [2]), ([3, 2], [3]), ([4], [4]), ([4], [4]), ([5, 6, 4, 4], [4, 5, 6]), ([7, 4], [4, 7]), ([4, 8], [4, 8]), ([9, 7], [9]), ([10], [10]), ([10], [10]), ([12, 10], [10, 12]), ([10], [10]), ([13, 14, 10], [10, 13, 14]), ([15, 10], [10, 15]), ([16, 10], [10, 16]), ([10], [10]), ([11, 17, 18, 10, 10], [10, 11, 17, 18]), ([19, 10], [10, 19]), ([10, 20], [10, 20])])
def impl_StepBy.B1 : List Nat := [0, 0, 3, 7, 15, 31, 31, 127, 255, 511, 1023, 2047, 2047, 6143, 2047, 30719, 63487, 129023, 2047, 524287, 1048575, 2097151]
theorem impl_StepBy.tab1 : rtab .any (opsOf Try.f25 1) = impl_StepBy.T1 := by kernel_rfl
theorem impl_StepBy.bits1 : waitsOk impl_StepBy.T1.2 impl_StepBy.B1 = true := by kernel_rfl
def impl_StepBy.T3 : Bool × List (List Nat × List Nat) := (true, [([], []), ([], []), ([1], [1]), ([], []), ([2, 3], [2, 3]), ([4], [4]), ([], []), ([0, 5, 6], [0, 5, 6]), ([7, 7, 0, 1, 2, 3, 4, 5, 6, 7], [7]), ([8, 0, 1, 2, 3, 4, 5, 6, 7, 8], [])])
def impl_StepBy.B3 : List Nat := [0, 0, 2, 0, 14, 30, 0, 127, 255, 511]
theorem impl_StepBy.tab3 : rtab .any (opsOf Try.f25 3) = impl_StepBy.T3 := by kernel_rfl
theorem impl_StepBy.bits3 : waitsOk impl_StepBy.T3.2 impl_StepBy.B3 = true := by kernel_rfl
set_option maxHeartbeats 8000000 in
set_option maxRecDepth 100000 in
theorem impl_StepBy.calls (k : Nat) (a0_0 : Int) (a0_1 : Int) (A0_2 : Option Addr) (c0_2 : Nat) (l0_2 : List (S80)) (A0_3 : Option Addr) (c0_3 : Nat) (l0_3 : List (S71)) (A1 : Option Addr) (c1 : Nat) (l1 : List Int) (a2 : Int) (r1 : List Int) (r2 : Bool) (w : World) (hr0_2 : Kd.C k80 w A0_2 l0_2.length l0_2) (hc0_2 : l0_2.length ≤ c0_2) (hr0_3 : Kd.C k71 w A0_3 l0_3.length l0_3) (hc0_3 : l0_3.length ≤ c0_3) (hr1 : Kd.C (Kd.int .u64) w A1 l1.length l1) (hc1 : l1.length ≤ c1) (h : impl_StepBy.f k a0_0 a0_1 l0_2 l0_3 l1 a2 = some (r1, r2)) :
  Calls Try.prog 25 #[.agg #[.int .i64 a0_0, .int .i64 a0_1, .slice A0_2 l0_2.length c0_2, .slice A0_3 l0_3.length c0_3], .slice A1 l1.length c1, .int .i64 a2] w fun e w' => ∃ v0_ : Value, e = .returned (.tuple #[v0_, .bool r2]) ∧ Kd.R (Kd.int .u64) 61 w' w.heap.size (fun _ => True) v0_ r1 ∧ Below w.heap.size w w' := by
 have hu33 := Try.underlying33
 have hu71 := Try.underlying71
 have HR0_2 := am_ hr0_2
 have HC0_2 := am_ hc0_2
 clear hr0_2 hc0_2
 have HR0_3 := am_ hr0_3
 have HC0_3 := am_ hc0_3
 clear hr0_3 hc0_3
 have HR1 := am_ hr1
 have HC1 := am_ hc1
 clear hr1 hc1
 have HB := am_ (Below.refl w.heap.size w)
 have H := h
 clear h
 unfold impl_StepBy.f at H
 obtain ⟨t542, A40, H⟩ := Sh.bd H
 have A4 := am_ A40
 clear A40
 by_cases c5 : t542 = true
 ·subst c5
  rw [if_pos rfl] at H
  obtain ⟨t543, A60, H⟩ := Sh.bd H
  have A6 := am_ A60
  clear A60
  by_cases c7 : t543 = true
  ·subst c7
   rw [if_pos rfl] at H
   by_cases c8 : 0 ≤ a2
   ·rw [if_pos c8] at H
    have c8b0 : decide (0 ≤ a2) = true := decide_eq_true c8
    clear c8
    by_cases c9 : a2 < (l0_3.length : Int)
    ·rw [if_pos c9] at H
     have c9b0 : decide (a2 < (l0_3.length : Int)) = true := decide_eq_true c9
     clear c9
     obtain ⟨t545, A100, H⟩ := Sh.bd H
     have A10 := am_ A100
     clear A100
     by_cases c11 : t545 = true
     ·subst c11
      rw [if_pos rfl] at H
      obtain ⟨t547, A120, H⟩ := Sh.bd H
      have A12 := am_ A120
      clear A120
      simp only [Option.some.injEq, Prod.mk.injEq] at H
      obtain ⟨rfl, rfl⟩ := H
      go_enter Try.func25, Try.ntmps25
      try go_wp2_with (first | ((with_reducible refine gate_dst (N := 3) rfl ?_); refine Sh.bx (N := 3) (cs := #[.int .i64 a0_0, .int .i64 a0_1, .slice A0_2 l0_2.length c0_2, .slice A0_3 l0_3.length c0_3]) (t := 33) (h := ?_); intro gb541 hg w13 hbox hb; have BK541 := am_ hbox; have GW541 := am_ (Sh.gw (w := w) hg); have GE541 := am_ (Sh.gw (w := w) hg); replace HB := am_ (below_step Sh.bw hb); clear hb hbox hg))
      replace BK541 := am_ (blk_drew BK541.out)
      replace HB := am_ (below_drew1 HB.out)
      have p544 : 0 ≤ (a2 : Int) := Sh.od
      have q544 : a2 < (l0_3.length : Int) := Sh.od
      obtain ⟨ad544, A544_0, c544_0, A544_1, c544_1, e544, hx544_0, hx544_1, hl544_0, hi544_0, hl544_1, hi544_1⟩ := at_T71 HR0_3.out a2 p544 q544
      have hw544_1 := hx544_1
      have hw544_0 := hx544_0
      cases e544
      (try replace hx544_0 := (HB.out.cell (World.block_lt_of_cell? w _ hx544_0)).trans hx544_0)
      (try replace hx544_1 := (HB.out.cell (World.block_lt_of_cell? w _ hx544_1)).trans hx544_1)
      have HR544_0 := am_ hi544_0
      have HC544_0 := am_ hl544_0
      clear hi544_0 hl544_0
      have HR544_1 := am_ hi544_1
      have HC544_1 := am_ hl544_1
      clear hi544_1 hl544_1
      replace p544 := eq_true p544
      replace q544 := eq_true q544
      refine start_ (n := 22) (S := fun w' => w'.cell? ⟨gb541, 0, none⟩ = some (.int .i64 a0_0) ∧ w'.cell? ⟨gb541, 1, none⟩ = some (.int .i64 a0_1) ∧ w'.cell? ⟨gb541, 2, none⟩ = some (.slice A0_2 l0_2.length c0_2) ∧ w'.cell? ⟨gb541, 3, none⟩ = some (.slice (some ad544) l0_3.length c0_3) ∧ w'.cell? (ad544.add ((a2).toNat * 2)) = some (.slice A544_0 ((rd_T71 l0_3 a2).f0).length c544_0) ∧ w'.cell? ⟨(ad544.add ((a2).toNat * 2)).block, (ad544.add ((a2).toNat * 2)).off + 1, none⟩ = some (.slice A544_1 ((rd_T71 l0_3 a2).f1).length c544_1)) (ds := []) (Sh.nm 22 0) (by kernel_rfl) rfl rfl Sh.cs (fun hHeld => ?_); refine with_tabW impl_StepBy.tab1 impl_StepBy.bits1 (fun HT_ HW_ => ?_)
      generalize w13.drew = w14 at BK541 HB HR544_0 HR544_1 hx544_0 hx544_1 hHeld ⊢
      refine Sh.qA 1 ?_; refine Sh.qT 0 hHeld ?_
      refine Sh.oC 2 Try.func37 #[.agg #[.int .i64 a0_0, .int .i64 a0_1, .slice A0_2 l0_2.length c0_2, .slice (some ad544) l0_3.length c0_3], .slice A1 l1.length c1] fun K hK => ?_
      with_reducible refine (impl_isStateOf.calls k a0_0 a0_1 _ _ l0_2 _ _ l0_3 _ _ l1 true _ ?side1 ?side2 ?side3 ?side4 ?side5 ?side6 A4.out).mono ?_
      (case side1 => repeat (first | exact (Kd.C_below HR0_2.out HB.out) | (with_reducible first | refine Kd.C_alloc ?_ _ | refine Kd.C_drewN ?_ _ | refine Kd.C_drew ?_)))
      (case side2 => exact HC0_2.out)
      (case side3 => repeat (first | exact (Kd.C_below HR0_3.out HB.out) | (with_reducible first | refine Kd.C_alloc ?_ _ | refine Kd.C_drewN ?_ _ | refine Kd.C_drew ?_)))
      (case side4 => exact HC0_3.out)
      (case side5 => repeat (first | exact (Kd.C_below HR1.out HB.out) | (with_reducible first | refine Kd.C_alloc ?_ _ | refine Kd.C_drewN ?_ _ | refine Kd.C_drew ?_)))
      (case side6 => exact HC1.out)
      rintro e w15 ⟨rfl, hb⟩
      refine ⟨_, rfl, ?_⟩
      replace BK541 := am_ (Sh.bb BK541.out hb)
      replace HB := am_ (below_step Sh.bw hb)
      (try clear hb)
      (try clear hb2)
      (try clear hk)
      (try clear hi)
      refine Sh.kN hK Sh.cs fun hHeld => ?_
      clear hK K
      refine Sh.qA 3 ?_; refine Sh.qA 4 ?_; refine Sh.qA 6 ?_; refine Sh.qT 5 hHeld ?_
      refine Sh.oC 7 Try.func49 #[.agg #[.int .i64 a0_0, .int .i64 a0_1, .slice A0_2 l0_2.length c0_2, .slice (some ad544) l0_3.length c0_3], .int .i64 a2] fun K hK => ?_
      with_reducible refine (impl_Program_isCommandNo.calls a0_0 a0_1 _ _ l0_2 _ _ l0_3 a2 true _ ?side1 ?side2 ?side3 ?side4 A6.out).mono ?_
      (case side1 => repeat (first | exact (Kd.C_below HR0_2.out HB.out) | (with_reducible first | refine Kd.C_alloc ?_ _ | refine Kd.C_drewN ?_ _ | refine Kd.C_drew ?_)))
      (case side2 => exact HC0_2.out)
      (case side3 => repeat (first | exact (Kd.C_below HR0_3.out HB.out) | (with_reducible first | refine Kd.C_alloc ?_ _ | refine Kd.C_drewN ?_ _ | refine Kd.C_drew ?_)))
      (case side4 => exact HC0_3.out)
      rintro e w16 ⟨rfl, hb⟩
      refine ⟨_, rfl, ?_⟩
      replace BK541 := am_ (Sh.bb BK541.out hb)
      replace HB := am_ (below_step Sh.bw hb)
      (try clear hb)
      (try clear hb2)
      (try clear hk)
      (try clear hi)
      refine Sh.kN hK Sh.cs fun hHeld => ?_
      clear hK K
      refine Sh.qA 8 ?_; refine Sh.qA 9 ?_; refine Sh.qA 10 ?_; refine Sh.qA 12 ?_; refine Sh.qA 14 ?_; refine Sh.qA 18 ?_; refine Sh.qT 11 hHeld ?_; refine Sh.qT 13 hHeld ?_; refine Sh.qA 15 ?_; refine Sh.qA 16 ?_; refine Sh.qT 17 hHeld ?_
      refine Sh.oC 19 Try.func38 #[.agg #[.int .i64 a0_0, .int .i64 a0_1, .slice A0_2 l0_2.length c0_2, .slice (some ad544) l0_3.length c0_3], .slice A544_0 ((rd_T71 l0_3 a2).f0).length c544_0, .slice A1 l1.length c1] fun K hK => ?_
      with_reducible refine (impl_Program_holds.calls k a0_0 a0_1 _ _ l0_2 _ _ l0_3 _ _ ((rd_T71 l0_3 a2).f0) _ _ l1 true _ ?side1 ?side2 ?side3 ?side4 ?side5 ?side6 ?side7 ?side8 A10.out).mono ?_
      (case side1 => repeat (first | exact (Kd.C_below HR0_2.out HB.out) | (with_reducible first | refine Kd.C_alloc ?_ _ | refine Kd.C_drewN ?_ _ | refine Kd.C_drew ?_)))
      (case side2 => exact HC0_2.out)
      (case side3 => repeat (first | exact (Kd.C_below HR0_3.out HB.out) | (with_reducible first | refine Kd.C_alloc ?_ _ | refine Kd.C_drewN ?_ _ | refine Kd.C_drew ?_)))
      (case side4 => exact HC0_3.out)
      (case side5 => repeat (first | exact (Kd.C_below HR544_0.out HB.out) | (with_reducible first | refine Kd.C_alloc ?_ _ | refine Kd.C_drewN ?_ _ | refine Kd.C_drew ?_)))
      (case side6 => exact HC544_0.out)
      (case side7 => repeat (first | exact (Kd.C_below HR1.out HB.out) | (with_reducible first | refine Kd.C_alloc ?_ _ | refine Kd.C_drewN ?_ _ | refine Kd.C_drew ?_)))
      (case side8 => exact HC1.out)
      rintro e w17 ⟨rfl, hb⟩
      refine ⟨_, rfl, ?_⟩
      replace BK541 := am_ (Sh.bb BK541.out hb)
      replace HB := am_ (below_step Sh.bw hb)
      (try clear hb)
      (try clear hb2)
      (try clear hk)
      (try clear hi)
      refine Sh.kN hK Sh.cs fun hHeld => ?_
      clear hK K
      refine Sh.qA 20 ?_; refine Sh.qA 21 ?_
      refine done_ (done_of HT_.out (by kernel_rfl)) ?_
      try go_wp2
      replace BK541 := am_ (blk_drew BK541.out)
      replace HB := am_ (below_drew1 HB.out)
      have p546 : 0 ≤ (a2 : Int) := Sh.od
      have q546 : a2 < (l0_3.length : Int) := Sh.od
      obtain ⟨ad546, A546_0, c546_0, A546_1, c546_1, e546, hx546_0, hx546_1, hl546_0, hi546_0, hl546_1, hi546_1⟩ := at_T71 HR0_3.out a2 p546 q546
      have hw546_1 := hx546_1
      have hw546_0 := hx546_0
      obtain rfl : ad544 = ad546 := (by injection e546)
      (try replace hx546_0 := (HB.out.cell (World.block_lt_of_cell? w _ hx546_0)).trans hx546_0)
      (try replace hx546_1 := (HB.out.cell (World.block_lt_of_cell? w _ hx546_1)).trans hx546_1)
      have HR546_0 := am_ hi546_0
      have HC546_0 := am_ hl546_0
      clear hi546_0 hl546_0
      have HR546_1 := am_ hi546_1
      have HC546_1 := am_ hl546_1
      clear hi546_1 hl546_1
      replace p546 := eq_true p546
      replace q546 := eq_true q546
      refine start_ (n := 10) (S := fun w' => w'.cell? ⟨gb541, 0, none⟩ = some (.int .i64 a0_0) ∧ w'.cell? ⟨gb541, 1, none⟩ = some (.int .i64 a0_1) ∧ w'.cell? ⟨gb541, 2, none⟩ = some (.slice A0_2 l0_2.length c0_2) ∧ w'.cell? ⟨gb541, 3, none⟩ = some (.slice (some ad544) l0_3.length c0_3) ∧ w'.cell? (ad544.add ((a2).toNat * 2)) = some (.slice A546_0 ((rd_T71 l0_3 a2).f0).length c546_0) ∧ w'.cell? ⟨(ad544.add ((a2).toNat * 2)).block, (ad544.add ((a2).toNat * 2)).off + 1, none⟩ = some (.slice A546_1 ((rd_T71 l0_3 a2).f1).length c546_1)) (ds := []) (Sh.nm 10 0) (by kernel_rfl) rfl rfl Sh.cs (fun hHeld => ?_); refine with_tabW impl_StepBy.tab3 impl_StepBy.bits3 (fun HT_ HW_ => ?_)
      generalize w17.drew = w18 at BK541 HB HR546_0 HR546_1 hx546_0 hx546_1 hHeld ⊢
      refine Sh.qA 1 ?_; refine Sh.qA 3 ?_; refine Sh.qA 6 ?_; refine Sh.qT 0 hHeld ?_; refine Sh.qT 2 hHeld ?_; refine Sh.qA 4 ?_; refine Sh.qT 5 hHeld ?_
      refine Sh.oC 7 Try.func50 #[.agg #[.int .i64 a0_0, .int .i64 a0_1, .slice A0_2 l0_2.length c0_2, .slice (some ad544) l0_3.length c0_3], .agg #[.slice A546_0 ((rd_T71 l0_3 a2).f0).length c546_0, .slice A546_1 ((rd_T71 l0_3 a2).f1).length c546_1], .slice A1 l1.length c1] fun K hK => ?_
      with_reducible refine (impl_Program_after.calls k a0_0 a0_1 _ _ l0_2 _ _ l0_3 _ _ ((rd_T71 l0_3 a2).f0) _ _ ((rd_T71 l0_3 a2).f1) _ _ l1 t547 _ ?side1 ?side2 ?side3 ?side4 ?side5 ?side6 ?side7 ?side8 ?side9 ?side10 A12.out).mono ?_
      (case side1 => repeat (first | exact (Kd.C_below HR0_2.out HB.out) | (with_reducible first | refine Kd.C_alloc ?_ _ | refine Kd.C_drewN ?_ _ | refine Kd.C_drew ?_)))
      (case side2 => exact HC0_2.out)
      (case side3 => repeat (first | exact (Kd.C_below HR0_3.out HB.out) | (with_reducible first | refine Kd.C_alloc ?_ _ | refine Kd.C_drewN ?_ _ | refine Kd.C_drew ?_)))
      (case side4 => exact HC0_3.out)
      (case side5 => repeat (first | exact (Kd.C_below HR546_0.out HB.out) | (with_reducible first | refine Kd.C_alloc ?_ _ | refine Kd.C_drewN ?_ _ | refine Kd.C_drew ?_)))
      (case side6 => exact HC546_0.out)
      (case side7 => repeat (first | exact (Kd.C_below HR546_1.out HB.out) | (with_reducible first | refine Kd.C_alloc ?_ _ | refine Kd.C_drewN ?_ _ | refine Kd.C_drew ?_)))
      (case side8 => exact HC546_1.out)
      (case side9 => repeat (first | exact (Kd.C_below HR1.out HB.out) | (with_reducible first | refine Kd.C_alloc ?_ _ | refine Kd.C_drewN ?_ _ | refine Kd.C_drew ?_)))
      (case side10 => exact HC1.out)
      rintro e w19 ⟨v548, rfl, ho0, hb⟩
      refine ⟨_, rfl, ?_⟩
      have HO549 := am_ (Kd.R_lower ho0 (below_size Sh.bw))
      replace BK541 := am_ (Sh.bb BK541.out hb)
      replace HB := am_ (below_step Sh.bw hb)
      (try clear hb)
      (try clear hb2)
      (try clear hk)
      (try clear hi)
      (try clear ho0)
      refine Sh.kN hK Sh.cs fun hHeld => ?_
      clear hK K
      refine Sh.qA 8 ?_; refine Sh.qA 9 ?_
      refine done_ (done_of HT_.out (by kernel_rfl)) ?_
      try go_wp2
      go_ret2
      exact ⟨_, Sh.eR, by (with_reducible repeat (first | apply Kd.R_alloc | apply Kd.R_drewN | apply Kd.R_drew)); exact HO549.out, Sh.bw⟩
     ·replace c11 := Bool.eq_false_iff.mpr c11
      subst c11
      rw [Sh.nf] at H
      simp only [Option.some.injEq, Prod.mk.injEq] at H
      obtain ⟨rfl, rfl⟩ := H
      go_enter Try.func25, Try.ntmps25
      try go_wp2_with (first | ((with_reducible refine gate_dst (N := 3) rfl ?_); refine Sh.bx (N := 3) (cs := #[.int .i64 a0_0, .int .i64 a0_1, .slice A0_2 l0_2.length c0_2, .slice A0_3 l0_3.length c0_3]) (t := 33) (h := ?_); intro gb541 hg w20 hbox hb; have BK541 := am_ hbox; have GW541 := am_ (Sh.gw (w := w) hg); have GE541 := am_ (Sh.gw (w := w) hg); replace HB := am_ (below_step Sh.bw hb); clear hb hbox hg))
      replace BK541 := am_ (blk_drew BK541.out)
      replace HB := am_ (below_drew1 HB.out)
      have p544 : 0 ≤ (a2 : Int) := Sh.od
      have q544 : a2 < (l0_3.length : Int) := Sh.od
      obtain ⟨ad544, A544_0, c544_0, A544_1, c544_1, e544, hx544_0, hx544_1, hl544_0, hi544_0, hl544_1, hi544_1⟩ := at_T71 HR0_3.out a2 p544 q544
      have hw544_1 := hx544_1
      have hw544_0 := hx544_0
      cases e544
      (try replace hx544_0 := (HB.out.cell (World.block_lt_of_cell? w _ hx544_0)).trans hx544_0)
      (try replace hx544_1 := (HB.out.cell (World.block_lt_of_cell? w _ hx544_1)).trans hx544_1)
      have HR544_0 := am_ hi544_0
      have HC544_0 := am_ hl544_0
      clear hi544_0 hl544_0
      have HR544_1 := am_ hi544_1
      have HC544_1 := am_ hl544_1
      clear hi544_1 hl544_1
      replace p544 := eq_true p544
      replace q544 := eq_true q544
      refine start_ (n := 22) (S := fun w' => w'.cell? ⟨gb541, 0, none⟩ = some (.int .i64 a0_0) ∧ w'.cell? ⟨gb541, 1, none⟩ = some (.int .i64 a0_1) ∧ w'.cell? ⟨gb541, 2, none⟩ = some (.slice A0_2 l0_2.length c0_2) ∧ w'.cell? ⟨gb541, 3, none⟩ = some (.slice (some ad544) l0_3.length c0_3) ∧ w'.cell? (ad544.add ((a2).toNat * 2)) = some (.slice A544_0 ((rd_T71 l0_3 a2).f0).length c544_0) ∧ w'.cell? ⟨(ad544.add ((a2).toNat * 2)).block, (ad544.add ((a2).toNat * 2)).off + 1, none⟩ = some (.slice A544_1 ((rd_T71 l0_3 a2).f1).length c544_1)) (ds := []) (Sh.nm 22 0) (by kernel_rfl) rfl rfl Sh.cs (fun hHeld => ?_); refine with_tabW impl_StepBy.tab1 impl_StepBy.bits1 (fun HT_ HW_ => ?_)
      generalize w20.drew = w21 at BK541 HB HR544_0 HR544_1 hx544_0 hx544_1 hHeld ⊢
      refine Sh.qA 1 ?_; refine Sh.qT 0 hHeld ?_
      refine Sh.oC 2 Try.func37 #[.agg #[.int .i64 a0_0, .int .i64 a0_1, .slice A0_2 l0_2.length c0_2, .slice (some ad544) l0_3.length c0_3], .slice A1 l1.length c1] fun K hK => ?_
      with_reducible refine (impl_isStateOf.calls k a0_0 a0_1 _ _ l0_2 _ _ l0_3 _ _ l1 true _ ?side1 ?side2 ?side3 ?side4 ?side5 ?side6 A4.out).mono ?_
      (case side1 => repeat (first | exact (Kd.C_below HR0_2.out HB.out) | (with_reducible first | refine Kd.C_alloc ?_ _ | refine Kd.C_drewN ?_ _ | refine Kd.C_drew ?_)))
      (case side2 => exact HC0_2.out)
      (case side3 => repeat (first | exact (Kd.C_below HR0_3.out HB.out) | (with_reducible first | refine Kd.C_alloc ?_ _ | refine Kd.C_drewN ?_ _ | refine Kd.C_drew ?_)))
      (case side4 => exact HC0_3.out)
      (case side5 => repeat (first | exact (Kd.C_below HR1.out HB.out) | (with_reducible first | refine Kd.C_alloc ?_ _ | refine Kd.C_drewN ?_ _ | refine Kd.C_drew ?_)))
      (case side6 => exact HC1.out)
      rintro e w22 ⟨rfl, hb⟩
      refine ⟨_, rfl, ?_⟩
      replace BK541 := am_ (Sh.bb BK541.out hb)
      replace HB := am_ (below_step Sh.bw hb)
      (try clear hb)
      (try clear hb2)
      (try clear hk)
      (try clear hi)
      refine Sh.kN hK Sh.cs fun hHeld => ?_
      clear hK K
      refine Sh.qA 3 ?_; refine Sh.qA 4 ?_; refine Sh.qA 6 ?_; refine Sh.qT 5 hHeld ?_
      refine Sh.oC 7 Try.func49 #[.agg #[.int .i64 a0_0, .int .i64 a0_1, .slice A0_2 l0_2.length c0_2, .slice (some ad544) l0_3.length c0_3], .int .i64 a2] fun K hK => ?_
      with_reducible refine (impl_Program_isCommandNo.calls a0_0 a0_1 _ _ l0_2 _ _ l0_3 a2 true _ ?side1 ?side2 ?side3 ?side4 A6.out).mono ?_
      (case side1 => repeat (first | exact (Kd.C_below HR0_2.out HB.out) | (with_reducible first | refine Kd.C_alloc ?_ _ | refine Kd.C_drewN ?_ _ | refine Kd.C_drew ?_)))
      (case side2 => exact HC0_2.out)
      (case side3 => repeat (first | exact (Kd.C_below HR0_3.out HB.out) | (with_reducible first | refine Kd.C_alloc ?_ _ | refine Kd.C_drewN ?_ _ | refine Kd.C_drew ?_)))
      (case side4 => exact HC0_3.out)
      rintro e w23 ⟨rfl, hb⟩
      refine ⟨_, rfl, ?_⟩
      replace BK541 := am_ (Sh.bb BK541.out hb)
      replace HB := am_ (below_step Sh.bw hb)
      (try clear hb)
      (try clear hb2)
      (try clear hk)
      (try clear hi)
      refine Sh.kN hK Sh.cs fun hHeld => ?_
      clear hK K
      refine Sh.qA 8 ?_; refine Sh.qA 9 ?_; refine Sh.qA 10 ?_; refine Sh.qA 12 ?_; refine Sh.qA 14 ?_; refine Sh.qA 18 ?_; refine Sh.qT 11 hHeld ?_; refine Sh.qT 13 hHeld ?_; refine Sh.qA 15 ?_; refine Sh.qA 16 ?_; refine Sh.qT 17 hHeld ?_
      refine Sh.oC 19 Try.func38 #[.agg #[.int .i64 a0_0, .int .i64 a0_1, .slice A0_2 l0_2.length c0_2, .slice (some ad544) l0_3.length c0_3], .slice A544_0 ((rd_T71 l0_3 a2).f0).length c544_0, .slice A1 l1.length c1] fun K hK => ?_
      with_reducible refine (impl_Program_holds.calls k a0_0 a0_1 _ _ l0_2 _ _ l0_3 _ _ ((rd_T71 l0_3 a2).f0) _ _ l1 false _ ?side1 ?side2 ?side3 ?side4 ?side5 ?side6 ?side7 ?side8 A10.out).mono ?_
      (case side1 => repeat (first | exact (Kd.C_below HR0_2.out HB.out) | (with_reducible first | refine Kd.C_alloc ?_ _ | refine Kd.C_drewN ?_ _ | refine Kd.C_drew ?_)))
      (case side2 => exact HC0_2.out)
      (case side3 => repeat (first | exact (Kd.C_below HR0_3.out HB.out) | (with_reducible first | refine Kd.C_alloc ?_ _ | refine Kd.C_drewN ?_ _ | refine Kd.C_drew ?_)))
      (case side4 => exact HC0_3.out)
      (case side5 => repeat (first | exact (Kd.C_below HR544_0.out HB.out) | (with_reducible first | refine Kd.C_alloc ?_ _ | refine Kd.C_drewN ?_ _ | refine Kd.C_drew ?_)))
      (case side6 => exact HC544_0.out)
      (case side7 => repeat (first | exact (Kd.C_below HR1.out HB.out) | (with_reducible first | refine Kd.C_alloc ?_ _ | refine Kd.C_drewN ?_ _ | refine Kd.C_drew ?_)))
      (case side8 => exact HC1.out)
      rintro e w24 ⟨rfl, hb⟩
      refine ⟨_, rfl, ?_⟩
      replace BK541 := am_ (Sh.bb BK541.out hb)
      replace HB := am_ (below_step Sh.bw hb)
      (try clear hb)
      (try clear hb2)
      (try clear hk)
      (try clear hi)
      refine Sh.kN hK Sh.cs fun hHeld => ?_
      clear hK K
      refine Sh.qA 20 ?_; refine Sh.qA 21 ?_
      refine done_ (done_of HT_.out (by kernel_rfl)) ?_
      try go_wp2
      go_ret2
      exact ⟨_, Sh.eR, by first | exact Kd.R_nil _ _ _ _ _ | exact Kd.N_nil _ _ _ _ _ | exact Kd.V_nil _ _ _ _ _ | exact Kd.Q_nil _ _ _ _ _ | exact Kd.S_nil _ _ _ _ _, Sh.bw⟩
    ·rw [if_neg c9] at H
     exact absurd H (by simp)
   ·rw [if_neg c8] at H
    exact absurd H (by simp)
  ·replace c7 := Bool.eq_false_iff.mpr c7
   subst c7
   rw [Sh.nf] at H
   simp only [Option.some.injEq, Prod.mk.injEq] at H
   obtain ⟨rfl, rfl⟩ := H
   go_enter Try.func25, Try.ntmps25
   try go_wp2_with (first | ((with_reducible refine gate_dst (N := 3) rfl ?_); refine Sh.bx (N := 3) (cs := #[.int .i64 a0_0, .int .i64 a0_1, .slice A0_2 l0_2.length c0_2, .slice A0_3 l0_3.length c0_3]) (t := 33) (h := ?_); intro gb541 hg w25 hbox hb; have BK541 := am_ hbox; have GW541 := am_ (Sh.gw (w := w) hg); have GE541 := am_ (Sh.gw (w := w) hg); replace HB := am_ (below_step Sh.bw hb); clear hb hbox hg))
   replace BK541 := am_ (blk_drew BK541.out)
   replace HB := am_ (below_drew1 HB.out)
   refine start_ (n := 22) (S := fun w' => w'.cell? ⟨gb541, 0, none⟩ = some (.int .i64 a0_0) ∧ w'.cell? ⟨gb541, 1, none⟩ = some (.int .i64 a0_1) ∧ w'.cell? ⟨gb541, 2, none⟩ = some (.slice A0_2 l0_2.length c0_2) ∧ w'.cell? ⟨gb541, 3, none⟩ = some (.slice A0_3 l0_3.length c0_3)) (ds := []) (Sh.nm 22 0) (by kernel_rfl) rfl rfl Sh.cs (fun hHeld => ?_); refine with_tabW impl_StepBy.tab1 impl_StepBy.bits1 (fun HT_ HW_ => ?_)
   generalize w25.drew = w26 at BK541 HB hHeld ⊢
   refine Sh.qA 1 ?_; refine Sh.qT 0 hHeld ?_
   refine Sh.oC 2 Try.func37 #[.agg #[.int .i64 a0_0, .int .i64 a0_1, .slice A0_2 l0_2.length c0_2, .slice A0_3 l0_3.length c0_3], .slice A1 l1.length c1] fun K hK => ?_
   with_reducible refine (impl_isStateOf.calls k a0_0 a0_1 _ _ l0_2 _ _ l0_3 _ _ l1 true _ ?side1 ?side2 ?side3 ?side4 ?side5 ?side6 A4.out).mono ?_
   (case side1 => repeat (first | exact (Kd.C_below HR0_2.out HB.out) | (with_reducible first | refine Kd.C_alloc ?_ _ | refine Kd.C_drewN ?_ _ | refine Kd.C_drew ?_)))
   (case side2 => exact HC0_2.out)
   (case side3 => repeat (first | exact (Kd.C_below HR0_3.out HB.out) | (with_reducible first | refine Kd.C_alloc ?_ _ | refine Kd.C_drewN ?_ _ | refine Kd.C_drew ?_)))
   (case side4 => exact HC0_3.out)
   (case side5 => repeat (first | exact (Kd.C_below HR1.out HB.out) | (with_reducible first | refine Kd.C_alloc ?_ _ | refine Kd.C_drewN ?_ _ | refine Kd.C_drew ?_)))
   (case side6 => exact HC1.out)
   rintro e w27 ⟨rfl, hb⟩
   refine ⟨_, rfl, ?_⟩
   replace BK541 := am_ (Sh.bb BK541.out hb)
   replace HB := am_ (below_step Sh.bw hb)
   (try clear hb)
   (try clear hb2)
   (try clear hk)
   (try clear hi)
   refine Sh.kN hK Sh.cs fun hHeld => ?_
   clear hK K
   refine Sh.qA 3 ?_; refine Sh.qA 4 ?_; refine Sh.qA 6 ?_; refine Sh.qT 5 hHeld ?_
   refine Sh.oC 7 Try.func49 #[.agg #[.int .i64 a0_0, .int .i64 a0_1, .slice A0_2 l0_2.length c0_2, .slice A0_3 l0_3.length c0_3], .int .i64 a2] fun K hK => ?_
   with_reducible refine (impl_Program_isCommandNo.calls a0_0 a0_1 _ _ l0_2 _ _ l0_3 a2 false _ ?side1 ?side2 ?side3 ?side4 A6.out).mono ?_
   (case side1 => repeat (first | exact (Kd.C_below HR0_2.out HB.out) | (with_reducible first | refine Kd.C_alloc ?_ _ | refine Kd.C_drewN ?_ _ | refine Kd.C_drew ?_)))
   (case side2 => exact HC0_2.out)
   (case side3 => repeat (first | exact (Kd.C_below HR0_3.out HB.out) | (with_reducible first | refine Kd.C_alloc ?_ _ | refine Kd.C_drewN ?_ _ | refine Kd.C_drew ?_)))
   (case side4 => exact HC0_3.out)
   rintro e w28 ⟨rfl, hb⟩
   refine ⟨_, rfl, ?_⟩
   replace BK541 := am_ (Sh.bb BK541.out hb)
   replace HB := am_ (below_step Sh.bw hb)
   (try clear hb)
   (try clear hb2)
   (try clear hk)
   (try clear hi)
   refine Sh.kN hK Sh.cs fun hHeld => ?_
   clear hK K
   refine Sh.qA 8 ?_; refine Sh.qA 9 ?_; refine Sh.qA 10 ?_; refine Sh.qU 11 ?_; refine Sh.qU 12 ?_; refine Sh.qU 13 ?_; refine Sh.qU 14 ?_; refine Sh.qU 15 ?_; refine Sh.qU 16 ?_; refine Sh.qU 17 ?_; refine Sh.qU 18 ?_; refine Sh.qU 19 ?_; refine Sh.qU 20 ?_; refine Sh.qA 21 ?_
   refine done_ (done_of HT_.out (by kernel_rfl)) ?_
   try go_wp2
   go_ret2
   exact ⟨_, Sh.eR, by first | exact Kd.R_nil _ _ _ _ _ | exact Kd.N_nil _ _ _ _ _ | exact Kd.V_nil _ _ _ _ _ | exact Kd.Q_nil _ _ _ _ _ | exact Kd.S_nil _ _ _ _ _, Sh.bw⟩
 ·replace c5 := Bool.eq_false_iff.mpr c5
  subst c5
  rw [Sh.nf] at H
  simp only [Option.some.injEq, Prod.mk.injEq] at H
  obtain ⟨rfl, rfl⟩ := H
  go_enter Try.func25, Try.ntmps25
  try go_wp2_with (first | ((with_reducible refine gate_dst (N := 3) rfl ?_); refine Sh.bx (N := 3) (cs := #[.int .i64 a0_0, .int .i64 a0_1, .slice A0_2 l0_2.length c0_2, .slice A0_3 l0_3.length c0_3]) (t := 33) (h := ?_); intro gb541 hg w29 hbox hb; have BK541 := am_ hbox; have GW541 := am_ (Sh.gw (w := w) hg); have GE541 := am_ (Sh.gw (w := w) hg); replace HB := am_ (below_step Sh.bw hb); clear hb hbox hg))
  replace BK541 := am_ (blk_drew BK541.out)
  replace HB := am_ (below_drew1 HB.out)
  refine start_ (n := 22) (S := fun w' => w'.cell? ⟨gb541, 0, none⟩ = some (.int .i64 a0_0) ∧ w'.cell? ⟨gb541, 1, none⟩ = some (.int .i64 a0_1) ∧ w'.cell? ⟨gb541, 2, none⟩ = some (.slice A0_2 l0_2.length c0_2) ∧ w'.cell? ⟨gb541, 3, none⟩ = some (.slice A0_3 l0_3.length c0_3)) (ds := []) (Sh.nm 22 0) (by kernel_rfl) rfl rfl Sh.cs (fun hHeld => ?_); refine with_tabW impl_StepBy.tab1 impl_StepBy.bits1 (fun HT_ HW_ => ?_)
  generalize w29.drew = w30 at BK541 HB hHeld ⊢
  refine Sh.qA 1 ?_; refine Sh.qT 0 hHeld ?_
  refine Sh.oC 2 Try.func37 #[.agg #[.int .i64 a0_0, .int .i64 a0_1, .slice A0_2 l0_2.length c0_2, .slice A0_3 l0_3.length c0_3], .slice A1 l1.length c1] fun K hK => ?_
  with_reducible refine (impl_isStateOf.calls k a0_0 a0_1 _ _ l0_2 _ _ l0_3 _ _ l1 false _ ?side1 ?side2 ?side3 ?side4 ?side5 ?side6 A4.out).mono ?_
  (case side1 => repeat (first | exact (Kd.C_below HR0_2.out HB.out) | (with_reducible first | refine Kd.C_alloc ?_ _ | refine Kd.C_drewN ?_ _ | refine Kd.C_drew ?_)))
  (case side2 => exact HC0_2.out)
  (case side3 => repeat (first | exact (Kd.C_below HR0_3.out HB.out) | (with_reducible first | refine Kd.C_alloc ?_ _ | refine Kd.C_drewN ?_ _ | refine Kd.C_drew ?_)))
  (case side4 => exact HC0_3.out)
  (case side5 => repeat (first | exact (Kd.C_below HR1.out HB.out) | (with_reducible first | refine Kd.C_alloc ?_ _ | refine Kd.C_drewN ?_ _ | refine Kd.C_drew ?_)))
  (case side6 => exact HC1.out)
  rintro e w31 ⟨rfl, hb⟩
  refine ⟨_, rfl, ?_⟩
  replace BK541 := am_ (Sh.bb BK541.out hb)
  replace HB := am_ (below_step Sh.bw hb)
  (try clear hb)
  (try clear hb2)
  (try clear hk)
  (try clear hi)
  refine Sh.kN hK Sh.cs fun hHeld => ?_
  clear hK K
  refine Sh.qA 3 ?_; refine Sh.qA 4 ?_; refine Sh.qU 5 ?_; refine Sh.qU 6 ?_; refine Sh.qU 7 ?_; refine Sh.qU 8 ?_; refine Sh.qA 9 ?_; refine Sh.qA 10 ?_; refine Sh.qU 11 ?_; refine Sh.qU 12 ?_; refine Sh.qU 13 ?_; refine Sh.qU 14 ?_; refine Sh.qU 15 ?_; refine Sh.qU 16 ?_; refine Sh.qU 17 ?_; refine Sh.qU 18 ?_; refine Sh.qU 19 ?_; refine Sh.qU 20 ?_; refine Sh.qA 21 ?_
  refine done_ (done_of HT_.out (by kernel_rfl)) ?_
  try go_wp2
  go_ret2
  exact ⟨_, Sh.eR, by first | exact Kd.R_nil _ _ _ _ _ | exact Kd.N_nil _ _ _ _ _ | exact Kd.V_nil _ _ _ _ _ | exact Kd.Q_nil _ _ _ _ _ | exact Kd.S_nil _ _ _ _ _, Sh.bw⟩
def laws_heldUint64S.l0 : Nat → List Int → Int → Int → Option (Int)
 | 0, _, _, _ => none
 | k + 1, x0, x1, x5 => if x5 < (x0.length : Int) then (if 0 ≤ x5 then (if (rd x0 x5) = (IntKind.u64.wrap (x1)) then (laws_heldUint64S.l0 k x0 (wrap64 (x1 + 1)) (wrap64 (x5 + 1))) else (some (-1))) else (none)) else (some x1)
def laws_heldUint64S.f (k : Nat) (l0 : List Int) (a1 : Int) : Option (Int) := laws_heldUint64S.l0 k l0 a1 0
theorem laws_heldUint64S.mono_l : ∀ k, (∀ y0 y1 y2, LeO (laws_heldUint64S.l0 k y0 y1 y2) (laws_heldUint64S.l0 (k + 1) y0 y1 y2))
 | 0 => fun _ _ _ r h => by simp [laws_heldUint64S.l0] at h
 | k + 1 => by
  have ih0 := laws_heldUint64S.mono_l k
  ·intro y0 y1 y2
   unfold laws_heldUint64S.l0
   repeat' with_reducible first | apply ih0 | exact LeO.refl _ | exact LeO.none _ | apply LeO.ite | refine LeO.bind ?_ fun _ => ?_
theorem laws_heldUint64S.mono : ∀ a0 a1 k, LeO (laws_heldUint64S.f k a0 a1) (laws_heldUint64S.f (k + 1) a0 a1) := by
 intro a0 a1 k
 have ih0 := laws_heldUint64S.mono_l k
 unfold laws_heldUint64S.f
 repeat' with_reducible first | apply ih0 | exact LeO.refl _ | exact LeO.none _ | apply LeO.ite | refine LeO.bind ?_ fun _ => ?_
set_option maxHeartbeats 8000000 in
set_option maxRecDepth 100000 in
theorem laws_heldUint64S.calls (k : Nat) (A0 : Option Addr) (c0 : Nat) (l0 : List Int) (a1 : Int) (r : Int) (w : World) (hr0 : Kd.C (Kd.int .u64) w A0 l0.length l0) (hc0 : l0.length ≤ c0) (h : laws_heldUint64S.f k l0 a1 = some r) :
  Calls Try.prog 26 #[.slice A0 l0.length c0, .int .i64 a1] w fun e w' => e = .returned (.int .i64 r) ∧ Drawn0 w w' := by
 have HR0 := am_ hr0
 have HC0 := am_ hc0
 clear hr0 hc0
 have H := h
 clear h
 unfold laws_heldUint64S.f at H
 have H' := am_ H
 clear H
 go_enter Try.func26, Try.ntmps26
 go_wp2
 go_loopg [1, 5] k (fun kq v1 v5 w' => ∃ (x1_1 : Int) (x5_1 : Int), v1 = .int .i64 x1_1 ∧ v5 = .int .i64 x5_1 ∧ Aside0 (laws_heldUint64S.l0 kq l0 x1_1 x5_1 = some r) ∧ Aside0 (kq ≤ k) ∧ Drawn0 w w')
 case atStart => exact ⟨(a1), (0), (Sh.es), (Sh.es), H', ⟨Nat.le_refl _⟩, Sh.dr⟩
 case round =>
  clear H'
  try clear c2
  try clear p2
  obtain ⟨x1_1, x5_1, rfl, rfl, HA, HK1, ⟨m1, rfl⟩⟩ := hrel
  cases gk with
  | zero => exact absurd HA.out (by simp [laws_heldUint64S.l0])
  | succ k1 =>
   have H := HA.out
   clear HA
   simp only [laws_heldUint64S.l0] at H
   by_cases c3 : x5_1 < (l0.length : Int)
   ·rw [if_pos c3] at H
    have c3b0 : decide (x5_1 < (l0.length : Int)) = true := decide_eq_true c3
    clear c3
    by_cases c4 : 0 ≤ x5_1
    ·rw [if_pos c4] at H
     have c4b0 : decide (0 ≤ x5_1) = true := decide_eq_true c4
     clear c4
     by_cases c5 : (rd l0 x5_1) = (IntKind.u64.wrap (x1_1))
     ·rw [if_pos c5] at H
      have c5b0 : ((rd l0 x5_1) == (IntKind.u64.wrap (x1_1))) = true := beq_iff_eq.mpr c5
      have c5b1 : ((rd l0 x5_1) != (IntKind.u64.wrap (x1_1))) = false := bne_eq_false_iff_eq.mpr c5
      clear c5
      have H' := am_ H
      clear H
      have p550 : 0 ≤ (x5_1 : Int) := Sh.od
      have q550 : x5_1 < (l0.length : Int) := Sh.od
      obtain ⟨ad550, e550, hx550_0⟩ := Kd.at_int HR0.out x5_1 p550 q550
      cases e550
      replace p550 := eq_true p550
      replace q550 := eq_true q550
      go_wp2
      go_roundg k1
      case measure => have := HK1.out; omega
      case rel => exact ⟨(wrap64 (x1_1 + 1)), (wrap64 (x5_1 + 1)), (Sh.es), (Sh.es), H', ⟨by have := HK1.out; omega⟩, Sh.dr⟩
     ·rw [if_neg c5] at H
      have c5b0 : ((rd l0 x5_1) == (IntKind.u64.wrap (x1_1))) = false := beq_eq_false_iff_ne.mpr c5
      have c5b1 : ((rd l0 x5_1) != (IntKind.u64.wrap (x1_1))) = true := bne_iff_ne.mpr c5
      obtain rfl := Option.some.inj H
      have p550 : 0 ≤ (x5_1 : Int) := Sh.od
      have q550 : x5_1 < (l0.length : Int) := Sh.od
      obtain ⟨ad550, e550, hx550_0⟩ := Kd.at_int HR0.out x5_1 p550 q550
      cases e550
      replace p550 := eq_true p550
      replace q550 := eq_true q550
      go_wp2
      go_ret
      exact ⟨Sh.es, Sh.dr⟩
    ·rw [if_neg c4] at H
     exact absurd H (by simp)
   ·rw [if_neg c3] at H
    have c3b0 : decide (x5_1 < (l0.length : Int)) = false := decide_eq_false c3
    clear c3
    obtain rfl := Option.some.inj H
    go_wp2
    go_ret
    exact ⟨Sh.es, Sh.dr⟩
open Go.Proofs.Ytjnolbjaagmooaa.Lw
def laws_FnExactStepBy.Holds (k : Nat) (a0_0 : Int) (a0_1 : Int) (l0_2 : List (S82)) (l0_3 : List (S89)) (l1 : List Int) (a2 : Int) : Prop :=
 (1048576 < (l1.length : Int)) ∨ (¬ (1048576 < (l1.length : Int))) ∧ (∃ s6 : Int, laws_szProgram.f k a0_0 a0_1 l0_2 l0_3 1048576 = some s6 ∧ ((s6 < 0) ∨ (¬ (s6 < 0)) ∧ (∃ (y9 : List (S80)) (y10 : List (S71)) (y33 : List Int) (y34 : Bool) (m109 : Int) (m111 : Int) (y112 : List Int) (m115 : Int) (y116 : List Int), laws_toProgram.f k a0_0 a0_1 l0_2 l0_3 = some (a0_0, a0_1, y9, y10) ∧ laws_toUint64S.f k l1 = some l1 ∧ spec_StepBy.f k a0_0 a0_1 y9 y10 l1 a2 = some (y33, y34) ∧ impl_StepBy.f k a0_0 a0_1 y9 y10 l1 a2 = some (y33, y34) ∧ laws_eqUint64S.f k y33 y33 = some true ∧ laws_eqProgram.f k a0_0 a0_1 y9 y10 a0_0 a0_1 y9 y10 = some true ∧ laws_eqUint64S.f k l1 l1 = some true ∧ laws_markProgram.f k a0_0 a0_1 y9 y10 1 = some m109 ∧ laws_markUint64S.f k l1 m109 = some (m111, y112) ∧ laws_markUint64S.f k y33 1 = some (m115, y116) ∧ laws_heldUint64S.f k y116 1 = some m115 ∧ ¬ m111 < 0 ∧ ¬ m115 < 0)))
set_option maxHeartbeats 40000000 in
set_option maxRecDepth 100000 in
theorem laws_FnExactStepBy.calls (k : Nat) (a0_0 : Int) (a0_1 : Int) (A0_2 : Option Addr) (c0_2 : Nat) (l0_2 : List (S82)) (A0_3 : Option Addr) (c0_3 : Nat) (l0_3 : List (S89)) (A1 : Option Addr) (c1 : Nat) (l1 : List Int) (a2 : Int) (w : World) (hr0_2 : Kd.C k82 w A0_2 l0_2.length l0_2) (hc0_2 : l0_2.length ≤ c0_2) (hr0_3 : Kd.C k89 w A0_3 l0_3.length l0_3) (hc0_3 : l0_3.length ≤ c0_3) (hr1 : Kd.C (Kd.int .u64) w A1 l1.length l1) (hc1 : l1.length ≤ c1) (h : laws_FnExactStepBy.Holds k a0_0 a0_1 l0_2 l0_3 l1 a2) :
  Calls Try.prog 6 #[.agg #[.int .i64 a0_0, .int .i64 a0_1, .slice A0_2 l0_2.length c0_2, .slice A0_3 l0_3.length c0_3], .slice A1 l1.length c1, .int .i64 a2] w fun e w' => e = .returned (.bool true) ∧ Below w.heap.size w w' := by
 have hu25 := Try.underlying25
 have hu33 := Try.underlying33
 have HR0_2 := am_ hr0_2
 have HC0_2 := am_ hc0_2
 clear hr0_2 hc0_2
 have HR0_3 := am_ hr0_3
 have HC0_3 := am_ hc0_3
 clear hr0_3 hc0_3
 have HR1 := am_ hr1
 have HC1 := am_ hc1
 clear hr1 hc1
 have HB := am_ (Below.refl w.heap.size w)
 have NW : 0 ≤ w.heap.size := Nat.zero_le _
 rcases h with c | ⟨c, h⟩
 ·have cb : decide (1048576 < (l1.length : Int)) = true := decide_eq_true c
  clear c
  go_enter Try.func6, Try.ntmps6
  go_wp2_with (first | ((with_reducible refine gate_dst (N := 3) rfl ?_); refine Sh.bx (N := 3) (cs := #[.int .i64 a0_0, .int .i64 a0_1, .slice A0_2 l0_2.length c0_2, .slice A0_3 l0_3.length c0_3]) (t := 25) (h := ?_); intro g1 hg w3 hbox hb; have BK2 := box_new (w := w) (W := w) HB.out hg hbox; have oa4 := new_g (W := w) hg NW; replace HB := am_ (below_step HB.out hb); replace NW := Nat.le_trans NW hb.size; replace NW := BK2.lt; clear hb hbox hg; have hczq5_0 : w3.cell? ⟨g1, 0, none⟩ = some (.int .i64 a0_0) := (blk_cell BK2.b 0).trans rfl; have hfzq5_0 := blk_frozen BK2.b 0; have hczq5_1 : w3.cell? ⟨g1, 1, none⟩ = some (.int .i64 a0_1) := (blk_cell BK2.b 1).trans rfl; have hfzq5_1 := blk_frozen BK2.b 1; have hczq5_2 : w3.cell? ⟨g1, 2, none⟩ = some (.slice A0_2 l0_2.length c0_2) := (blk_cell BK2.b 2).trans rfl; have hfzq5_2 := blk_frozen BK2.b 2; have hczq5_3 : w3.cell? ⟨g1, 3, none⟩ = some (.slice A0_3 l0_3.length c0_3) := (blk_cell BK2.b 3).trans rfl; have hfzq5_3 := blk_frozen BK2.b 3))
  go_ret
  exact ⟨rfl, HB.out⟩
 have cb0 : decide (1048576 < (l1.length : Int)) = false := decide_eq_false c
 clear c
 obtain ⟨s6, ESs6, h⟩ := h
 replace ESs6 := am_ ESs6
 rcases h with c | ⟨c, h⟩
 ·have cb : decide (s6 < 0) = true := decide_eq_true c
  clear c
  go_enter Try.func6, Try.ntmps6
  go_wp2_with (first | ((with_reducible refine gate_dst (N := 3) rfl ?_); refine Sh.bx (N := 3) (cs := #[.int .i64 a0_0, .int .i64 a0_1, .slice A0_2 l0_2.length c0_2, .slice A0_3 l0_3.length c0_3]) (t := 25) (h := ?_); intro g1 hg w3 hbox hb; have BK2 := box_new (w := w) (W := w) HB.out hg hbox; have oa4 := new_g (W := w) hg NW; replace HB := am_ (below_step HB.out hb); replace NW := Nat.le_trans NW hb.size; replace NW := BK2.lt; clear hb hbox hg; have hczq5_0 : w3.cell? ⟨g1, 0, none⟩ = some (.int .i64 a0_0) := (blk_cell BK2.b 0).trans rfl; have hfzq5_0 := blk_frozen BK2.b 0; have hczq5_1 : w3.cell? ⟨g1, 1, none⟩ = some (.int .i64 a0_1) := (blk_cell BK2.b 1).trans rfl; have hfzq5_1 := blk_frozen BK2.b 1; have hczq5_2 : w3.cell? ⟨g1, 2, none⟩ = some (.slice A0_2 l0_2.length c0_2) := (blk_cell BK2.b 2).trans rfl; have hfzq5_2 := blk_frozen BK2.b 2; have hczq5_3 : w3.cell? ⟨g1, 3, none⟩ = some (.slice A0_3 l0_3.length c0_3) := (blk_cell BK2.b 3).trans rfl; have hfzq5_3 := blk_frozen BK2.b 3) | ((with_reducible refine gate_callee (f := 8) rfl ?_); refine Sh.gL (some 24) Try.func8 #[.agg #[.int .i64 a0_0, .int .i64 a0_1, .slice A0_2 l0_2.length c0_2, .slice A0_3 l0_3.length c0_3], .int .i64 1048576] (h := ?_); (with_reducible refine (laws_szProgram.calls k a0_0 a0_1 _ _ l0_2 _ _ l0_3 1048576 s6 _ (Kd.C_below HR0_2.out HB.out) HC0_2.out (Kd.C_below HR0_3.out HB.out) HC0_3.out ESs6.out).mono ?_); rintro e w7 ⟨rfl, hb⟩; refine ⟨_, rfl, ?_⟩; replace BK2 := BK2.same hb; replace HB := am_ (below_step HB.out hb); replace NW := Nat.le_trans NW hb.size; clear hb; have hczq8_0 : w7.cell? ⟨g1, 0, none⟩ = some (.int .i64 a0_0) := (blk_cell BK2.b 0).trans rfl; have hfzq8_0 := blk_frozen BK2.b 0; have hczq8_1 : w7.cell? ⟨g1, 1, none⟩ = some (.int .i64 a0_1) := (blk_cell BK2.b 1).trans rfl; have hfzq8_1 := blk_frozen BK2.b 1; have hczq8_2 : w7.cell? ⟨g1, 2, none⟩ = some (.slice A0_2 l0_2.length c0_2) := (blk_cell BK2.b 2).trans rfl; have hfzq8_2 := blk_frozen BK2.b 2; have hczq8_3 : w7.cell? ⟨g1, 3, none⟩ = some (.slice A0_3 l0_3.length c0_3) := (blk_cell BK2.b 3).trans rfl; have hfzq8_3 := blk_frozen BK2.b 3))
  go_ret
  exact ⟨rfl, HB.out⟩
 have cb1 : decide (s6 < 0) = false := decide_eq_false c
 clear c
 obtain ⟨y9, y10, y33, y34, m109, m111, y112, m115, y116, E1, E2, E3, E4, E5, E6, E7, E8, E9, E10, E11, cd0, cd1⟩ := h
 replace E1 := am_ E1
 replace E2 := am_ E2
 replace E3 := am_ E3
 replace E4 := am_ E4
 replace E5 := am_ E5
 replace E6 := am_ E6
 replace E7 := am_ E7
 replace E8 := am_ E8
 replace E9 := am_ E9
 replace E10 := am_ E10
 replace E11 := am_ E11
 have ce0 : decide (m111 < 0) = false := decide_eq_false cd0
 clear cd0
 have ce1 : decide (m115 < 0) = false := decide_eq_false cd1
 clear cd1
 have cr0 : (y34 != y34) = false := bne_self_eq_false _
 go_enter Try.func6, Try.ntmps6
 go_upto_region 13 with (first | ((with_reducible refine gate_dst (N := 3) rfl ?_); refine Sh.bx (N := 3) (cs := #[.int .i64 a0_0, .int .i64 a0_1, .slice A0_2 l0_2.length c0_2, .slice A0_3 l0_3.length c0_3]) (t := 25) (h := ?_); intro g1 hg w3 hbox hb; have BK2 := box_new (w := w) (W := w) HB.out hg hbox; have oa4 := new_g (W := w) hg NW; replace HB := am_ (below_step HB.out hb); replace NW := Nat.le_trans NW hb.size; replace NW := BK2.lt; clear hb hbox hg; have hczq5_0 : w3.cell? ⟨g1, 0, none⟩ = some (.int .i64 a0_0) := (blk_cell BK2.b 0).trans rfl; have hfzq5_0 := blk_frozen BK2.b 0; have hczq5_1 : w3.cell? ⟨g1, 1, none⟩ = some (.int .i64 a0_1) := (blk_cell BK2.b 1).trans rfl; have hfzq5_1 := blk_frozen BK2.b 1; have hczq5_2 : w3.cell? ⟨g1, 2, none⟩ = some (.slice A0_2 l0_2.length c0_2) := (blk_cell BK2.b 2).trans rfl; have hfzq5_2 := blk_frozen BK2.b 2; have hczq5_3 : w3.cell? ⟨g1, 3, none⟩ = some (.slice A0_3 l0_3.length c0_3) := (blk_cell BK2.b 3).trans rfl; have hfzq5_3 := blk_frozen BK2.b 3) | ((with_reducible refine gate_callee (f := 8) rfl ?_); refine Sh.gL (some 24) Try.func8 #[.agg #[.int .i64 a0_0, .int .i64 a0_1, .slice A0_2 l0_2.length c0_2, .slice A0_3 l0_3.length c0_3], .int .i64 1048576] (h := ?_); (with_reducible refine (laws_szProgram.calls k a0_0 a0_1 _ _ l0_2 _ _ l0_3 1048576 s6 _ (Kd.C_below HR0_2.out HB.out) HC0_2.out (Kd.C_below HR0_3.out HB.out) HC0_3.out ESs6.out).mono ?_); rintro e w7 ⟨rfl, hb⟩; refine ⟨_, rfl, ?_⟩; replace BK2 := BK2.same hb; replace HB := am_ (below_step HB.out hb); replace NW := Nat.le_trans NW hb.size; clear hb; have hczq8_0 : w7.cell? ⟨g1, 0, none⟩ = some (.int .i64 a0_0) := (blk_cell BK2.b 0).trans rfl; have hfzq8_0 := blk_frozen BK2.b 0; have hczq8_1 : w7.cell? ⟨g1, 1, none⟩ = some (.int .i64 a0_1) := (blk_cell BK2.b 1).trans rfl; have hfzq8_1 := blk_frozen BK2.b 1; have hczq8_2 : w7.cell? ⟨g1, 2, none⟩ = some (.slice A0_2 l0_2.length c0_2) := (blk_cell BK2.b 2).trans rfl; have hfzq8_2 := blk_frozen BK2.b 2; have hczq8_3 : w7.cell? ⟨g1, 3, none⟩ = some (.slice A0_3 l0_3.length c0_3) := (blk_cell BK2.b 3).trans rfl; have hfzq8_3 := blk_frozen BK2.b 3) | ((with_reducible refine gate_callee (f := 10) rfl ?_); refine Sh.gL (some 29) Try.func10 #[.agg #[.int .i64 a0_0, .int .i64 a0_1, .slice A0_2 l0_2.length c0_2, .slice A0_3 l0_3.length c0_3]] (h := ?_); (with_reducible refine (laws_toProgram.calls k a0_0 a0_1 _ _ l0_2 _ _ l0_3 a0_0 a0_1 y9 y10 _ (Kd.C_below HR0_2.out HB.out) HC0_2.out (Kd.C_below HR0_3.out HB.out) HC0_3.out E1.out).mono ?_); rintro e w11 ⟨v2_, v3_, rfl, ho0, ho1, hb⟩; refine ⟨_, rfl, ?_⟩; obtain ⟨lo14, hi15, ⟨HO12, HO13⟩, oa16, ob17, NW2⟩ := new1 (F := fun lo_ hi_ => Held k80 80 w11 w.heap.size lo_ hi_ v2_ y9 ∧ Held k71 71 w11 w.heap.size lo_ hi_ v3_ y10) ⟨held_new ho0 hb HB.out, held_new ho1 hb HB.out⟩ hb NW; replace BK2 := BK2.same hb; replace HB := am_ (below_step HB.out hb); replace NW := Nat.le_trans NW hb.size; replace NW := NW2; skip; obtain ⟨A18, c19, e20⟩ := HO12.slice; subst e20; obtain ⟨A21, c22, e23⟩ := HO13.slice; subst e23; clear hb ho0 ho1) | ((with_reducible refine gate_callee (f := 11) rfl ?_); refine Sh.gL (some 31) Try.func11 #[.slice A1 l1.length c1] (h := ?_); (with_reducible refine (laws_toUint64S.calls k _ _ l1 l1 _ (Kd.C_below HR1.out HB.out) HC1.out E2.out).mono ?_); rintro e w24 ⟨v0_, rfl, ho0, hb⟩; refine ⟨_, rfl, ?_⟩; obtain ⟨lo26, hi27, HO25, oa28, ob29, NW2⟩ := new1 (F := fun lo_ hi_ => Held (Kd.int .u64) 61 w24 w.heap.size lo_ hi_ v0_ l1) (held_new ho0 hb HB.out) hb NW; replace BK2 := BK2.same hb; replace HO12 := HO12.same hb; replace HO13 := HO13.same hb; replace HB := am_ (below_step HB.out hb); replace NW := Nat.le_trans NW hb.size; replace NW := NW2; skip; obtain ⟨A30, c31, e32⟩ := HO25.slice; subst e32; clear hb ho0) | ((with_reducible refine gate_callee (f := 24) rfl ?_); refine Sh.gL (some 33) Try.func24 #[.agg #[.int .i64 a0_0, .int .i64 a0_1, .slice A18 y9.length c19, .slice A21 y10.length c22], .slice A30 l1.length c31, .int .i64 a2] (h := ?_); (with_reducible refine (spec_StepBy.calls k a0_0 a0_1 _ _ y9 _ _ y10 _ _ l1 a2 y33 y34 _ HO12.C HO12.c HO13.C HO13.c HO25.C HO25.c E3.out).mono ?_); rintro e w35 ⟨v0_, rfl, ho0, hb⟩; refine ⟨_, rfl, ?_⟩; obtain ⟨lo37, hi38, HO36, oa39, ob40, NW2⟩ := new1 (F := fun lo_ hi_ => Held (Kd.int .u64) 61 w35 w.heap.size lo_ hi_ v0_ y33) (held_new ho0 hb HB.out) hb NW; replace BK2 := BK2.same hb; replace HO12 := HO12.same hb; replace HO13 := HO13.same hb; replace HO25 := HO25.same hb; replace HB := am_ (below_step HB.out hb); replace NW := Nat.le_trans NW hb.size; replace NW := NW2; skip; obtain ⟨A41, c42, e43⟩ := HO36.slice; subst e43; clear hb ho0; have hczq44_0 : w35.cell? ⟨g1, 0, none⟩ = some (.int .i64 a0_0) := (blk_cell BK2.b 0).trans rfl; have hfzq44_0 := blk_frozen BK2.b 0; have hczq44_1 : w35.cell? ⟨g1, 1, none⟩ = some (.int .i64 a0_1) := (blk_cell BK2.b 1).trans rfl; have hfzq44_1 := blk_frozen BK2.b 1; have hczq44_2 : w35.cell? ⟨g1, 2, none⟩ = some (.slice A0_2 l0_2.length c0_2) := (blk_cell BK2.b 2).trans rfl; have hfzq44_2 := blk_frozen BK2.b 2; have hczq44_3 : w35.cell? ⟨g1, 3, none⟩ = some (.slice A0_3 l0_3.length c0_3) := (blk_cell BK2.b 3).trans rfl; have hfzq44_3 := blk_frozen BK2.b 3) | ((with_reducible refine gate_callee (f := 10) rfl ?_); refine Sh.gL (some 37) Try.func10 #[.agg #[.int .i64 a0_0, .int .i64 a0_1, .slice A0_2 l0_2.length c0_2, .slice A0_3 l0_3.length c0_3]] (h := ?_); (with_reducible refine (laws_toProgram.calls k a0_0 a0_1 _ _ l0_2 _ _ l0_3 a0_0 a0_1 y9 y10 _ (Kd.C_below HR0_2.out HB.out) HC0_2.out (Kd.C_below HR0_3.out HB.out) HC0_3.out E1.out).mono ?_); rintro e w45 ⟨v2_, v3_, rfl, ho0, ho1, hb⟩; refine ⟨_, rfl, ?_⟩; obtain ⟨lo48, hi49, ⟨HO46, HO47⟩, oa50, ob51, NW2⟩ := new1 (F := fun lo_ hi_ => Held k80 80 w45 w.heap.size lo_ hi_ v2_ y9 ∧ Held k71 71 w45 w.heap.size lo_ hi_ v3_ y10) ⟨held_new ho0 hb HB.out, held_new ho1 hb HB.out⟩ hb NW; replace BK2 := BK2.same hb; replace HO12 := HO12.same hb; replace HO13 := HO13.same hb; replace HO25 := HO25.same hb; replace HO36 := HO36.same hb; replace HB := am_ (below_step HB.out hb); replace NW := Nat.le_trans NW hb.size; replace NW := NW2; skip; obtain ⟨A52, c53, e54⟩ := HO46.slice; subst e54; obtain ⟨A55, c56, e57⟩ := HO47.slice; subst e57; clear hb ho0 ho1) | ((with_reducible refine gate_dst (N := 10) rfl ?_); refine Sh.bx (N := 10) (cs := #[.int .i64 0, .int .i64 0, .slice none 0 0, .slice none 0 0]) (t := 33) (h := ?_); intro g58 hg w60 hbox hb; have BK59 := box_new (w := w) (W := w45) HB.out hg hbox; have oa61 := new_g (W := w45) hg NW; replace BK2 := BK2.same hb; replace HO12 := HO12.same hb; replace HO13 := HO13.same hb; replace HO25 := HO25.same hb; replace HO36 := HO36.same hb; replace HO46 := HO46.same hb; replace HO47 := HO47.same hb; replace HB := am_ (below_step HB.out hb); replace NW := Nat.le_trans NW hb.size; replace NW := BK59.lt; clear hb hbox hg) | ((with_reducible refine gate_ (.store 33 (.tmp 10) (.tmp 37)) rfl ?_); refine store_event 10 (.tmp 37) rfl rfl rfl BK59 rfl [.int .i64 a0_0, .int .i64 a0_1, .slice A52 y9.length c53, .slice A55 y10.length c56] rfl rfl ?hs rfl ?h1 ?_; (case hs => kernel_rfl); (case h1 => (simp only [List.mem_cons, List.not_mem_nil, or_false]; intro q_ h_; rcases h_ with h_ | h_ | h_ | h_ <;> (subst h_; rfl))); intro w62 hbx hb hk; replace BK2 := BK2.move hk (by omega); replace HO12 := HO12.move hk (by omega); replace HO13 := HO13.move hk (by omega); replace HO25 := HO25.move hk (by omega); replace HO36 := HO36.move hk (by omega); replace HO46 := HO46.move hk (by omega); replace HO47 := HO47.move hk (by omega); replace BK59 := hbx; replace NW := Nat.le_trans NW hk.1; replace HB := am_ (HB.out.trans hb); clear hk hb) | ((with_reducible refine gate_callee (f := 11) rfl ?_); refine Sh.gL (some 39) Try.func11 #[.slice A1 l1.length c1] (h := ?_); (with_reducible refine (laws_toUint64S.calls k _ _ l1 l1 _ (Kd.C_below HR1.out HB.out) HC1.out E2.out).mono ?_); rintro e w63 ⟨v0_, rfl, ho0, hb⟩; refine ⟨_, rfl, ?_⟩; obtain ⟨lo65, hi66, HO64, oa67, ob68, NW2⟩ := new1 (F := fun lo_ hi_ => Held (Kd.int .u64) 61 w63 w.heap.size lo_ hi_ v0_ l1) (held_new ho0 hb HB.out) hb NW; replace BK2 := BK2.same hb; replace HO12 := HO12.same hb; replace HO13 := HO13.same hb; replace HO25 := HO25.same hb; replace HO36 := HO36.same hb; replace HO46 := HO46.same hb; replace HO47 := HO47.same hb; replace BK59 := BK59.same hb; replace HB := am_ (below_step HB.out hb); replace NW := Nat.le_trans NW hb.size; replace NW := NW2; skip; obtain ⟨A69, c70, e71⟩ := HO64.slice; subst e71; clear hb ho0; have hczq72_0 : w63.cell? ⟨g58, 0, none⟩ = some (.int .i64 a0_0) := (blk_cell BK59.b 0).trans rfl; have hfzq72_0 := blk_frozen BK59.b 0; have hczq72_1 : w63.cell? ⟨g58, 1, none⟩ = some (.int .i64 a0_1) := (blk_cell BK59.b 1).trans rfl; have hfzq72_1 := blk_frozen BK59.b 1; have hczq72_2 : w63.cell? ⟨g58, 2, none⟩ = some (.slice A52 y9.length c53) := (blk_cell BK59.b 2).trans rfl; have hfzq72_2 := blk_frozen BK59.b 2; have hczq72_3 : w63.cell? ⟨g58, 3, none⟩ = some (.slice A55 y10.length c56) := (blk_cell BK59.b 3).trans rfl; have hfzq72_3 := blk_frozen BK59.b 3) | ((with_reducible refine gate_callee (f := 25) rfl ?_); refine Sh.gL (some 44) Try.func25 #[.agg #[.int .i64 a0_0, .int .i64 a0_1, .slice A52 y9.length c53, .slice A55 y10.length c56], .slice A69 l1.length c70, .int .i64 a2] (h := ?_); (with_reducible refine (impl_StepBy.calls k a0_0 a0_1 _ _ y9 _ _ y10 _ _ l1 a2 y33 y34 _ HO46.C HO46.c HO47.C HO47.c HO64.C HO64.c E4.out).mono ?_); rintro e w73 ⟨v0_, rfl, ho0, hb⟩; refine ⟨_, rfl, ?_⟩; obtain ⟨lo75, hi76, HO74, oa77, ob78, NW2⟩ := new1 (F := fun lo_ hi_ => Held (Kd.int .u64) 61 w73 w.heap.size lo_ hi_ v0_ y33) (held_new ho0 hb HB.out) hb NW; replace BK2 := BK2.same hb; replace HO12 := HO12.same hb; replace HO13 := HO13.same hb; replace HO25 := HO25.same hb; replace HO36 := HO36.same hb; replace HO46 := HO46.same hb; replace HO47 := HO47.same hb; replace BK59 := BK59.same hb; replace HO64 := HO64.same hb; replace HB := am_ (below_step HB.out hb); replace NW := Nat.le_trans NW hb.size; replace NW := NW2; skip; obtain ⟨A79, c80, e81⟩ := HO74.slice; subst e81; clear hb ho0) | ((with_reducible refine gate_callee (f := 14) rfl ?_); refine Sh.gL (some 49) Try.func14 #[.slice A79 y33.length c80, .slice A41 y33.length c42] (h := ?_); (with_reducible refine (laws_eqUint64S.calls k _ _ y33 _ _ y33 true _ HO74.C HO74.c HO36.C HO36.c E5.out).mono ?_); rintro e w82 ⟨rfl, hb⟩; refine ⟨_, rfl, ?_⟩; replace hb := hb.below; replace BK2 := BK2.same hb; replace HO12 := HO12.same hb; replace HO13 := HO13.same hb; replace HO25 := HO25.same hb; replace HO36 := HO36.same hb; replace HO46 := HO46.same hb; replace HO47 := HO47.same hb; replace BK59 := BK59.same hb; replace HO64 := HO64.same hb; replace HO74 := HO74.same hb; replace HB := am_ (below_step HB.out hb); replace NW := Nat.le_trans NW hb.size; clear hb))
 (try simp only [Act.put, List.setIfInBounds_toArray, List.set_cons_zero, List.set_cons_succ])
 try go_wp2
 have hb : Below w82.heap.size w82 w82.drew := below_drew (Below.refl _ _)
 replace BK2 := BK2.same hb
 replace HO12 := HO12.same hb
 replace HO13 := HO13.same hb
 replace HO25 := HO25.same hb
 replace HO36 := HO36.same hb
 replace HO46 := HO46.same hb
 replace HO47 := HO47.same hb
 replace BK59 := BK59.same hb
 replace HO64 := HO64.same hb
 replace HO74 := HO74.same hb
 replace HB := am_ (below_step HB.out hb)
 replace NW := Nat.le_trans NW hb.size
 clear hb
 have hL_ : 0 ≤ 0 := Nat.le_refl 0
 refine start_ (n := 5) (S := fun w' => w'.cell? ⟨g58, 0, none⟩ = some (.int .i64 a0_0) ∧ w'.cell? ⟨g58, 1, none⟩ = some (.int .i64 a0_1) ∧ w'.cell? ⟨g58, 2, none⟩ = some (.slice A52 y9.length c53) ∧ w'.cell? ⟨g58, 3, none⟩ = some (.slice A55 y10.length c56) ∧ w'.cell? ⟨g1, 0, none⟩ = some (.int .i64 a0_0) ∧ w'.cell? ⟨g1, 1, none⟩ = some (.int .i64 a0_1) ∧ w'.cell? ⟨g1, 2, none⟩ = some (.slice A0_2 l0_2.length c0_2) ∧ w'.cell? ⟨g1, 3, none⟩ = some (.slice A0_3 l0_3.length c0_3)) (ds := []) (Sh.nm 5 0) (by kernel_rfl) rfl rfl ⟨(blk_cell BK59.b 0).trans rfl, (blk_cell BK59.b 1).trans rfl, (blk_cell BK59.b 2).trans rfl, (blk_cell BK59.b 3).trans rfl, (blk_cell BK2.b 0).trans rfl, (blk_cell BK2.b 1).trans rfl, (blk_cell BK2.b 2).trans rfl, (blk_cell BK2.b 3).trans rfl⟩ (fun hHeld => ?_)
 generalize w82.drew = w83 at BK2 HO12 HO13 HO25 HO36 HO46 HO47 BK59 HO64 HO74 HB NW hHeld ⊢
 clear hL_
 refine Sh.tA 0 56 (Sh.nm 5 1) (by kernel_rfl) hHeld ?_ (hy := by rintro w' ⟨s0, s1, s2, s3, s4, s5, s6, s7⟩; go_simp; with_reducible rfl)
 refine Sh.tA 1 57 (Sh.nm 5 3) (by kernel_rfl) hHeld ?_ (hy := by rintro w' ⟨s0, s1, s2, s3, s4, s5, s6, s7⟩; go_simp; with_reducible rfl)
 refine one_ (i := 2) (N := some 58) (Sh.nm 5 7) rfl rfl (by kernel_rfl) (by decide) (fun K hK => ?_)
 refine goes_ Try.func10 (by kernel_rfl) rfl #[.agg #[.int .i64 a0_0, .int .i64 a0_1, .slice A0_2 l0_2.length c0_2, .slice A0_3 l0_3.length c0_3]] (by rfl) rfl rfl (by (try simp only [List.map_toArray, List.map_cons, List.map_nil]); first | done | rfl | (simp only [List.length_drop, List.length_take]; rfl)) ?_
 with_reducible refine (laws_toProgram.calls k a0_0 a0_1 _ _ l0_2 _ _ l0_3 a0_0 a0_1 y9 y10 _ (Kd.C_below HR0_2.out HB.out) HC0_2.out (Kd.C_below HR0_3.out HB.out) HC0_3.out E1.out).mono ?_
 rintro e w84 ⟨v2_, v3_, rfl, ho0, ho1, hb⟩
 refine ⟨_, rfl, ?_⟩
 obtain ⟨lo87, hi88, ⟨HO85, HO86⟩, oa89, ob90, NW2⟩ := new1 (F := fun lo_ hi_ => Held k80 80 w84 w.heap.size lo_ hi_ v2_ y9 ∧ Held k71 71 w84 w.heap.size lo_ hi_ v3_ y10) ⟨held_new ho0 hb HB.out, held_new ho1 hb HB.out⟩ hb NW
 replace BK2 := BK2.same hb
 replace HO12 := HO12.same hb
 replace HO13 := HO13.same hb
 replace HO25 := HO25.same hb
 replace HO36 := HO36.same hb
 replace HO46 := HO46.same hb
 replace HO47 := HO47.same hb
 replace BK59 := BK59.same hb
 replace HO64 := HO64.same hb
 replace HO74 := HO74.same hb
 replace HB := am_ (below_step HB.out hb)
 replace NW := Nat.le_trans NW hb.size
 replace NW := NW2
 skip
 obtain ⟨A91, c92, e93⟩ := HO85.slice
 subst e93
 obtain ⟨A94, c95, e96⟩ := HO86.slice
 subst e96
 clear hb ho0 ho1
 refine Sh.kN hK ⟨(blk_cell BK59.b 0).trans rfl, (blk_cell BK59.b 1).trans rfl, (blk_cell BK59.b 2).trans rfl, (blk_cell BK59.b 3).trans rfl, (blk_cell BK2.b 0).trans rfl, (blk_cell BK2.b 1).trans rfl, (blk_cell BK2.b 2).trans rfl, (blk_cell BK2.b 3).trans rfl⟩ fun hHeld => ?_
 clear hK K
 refine one_ (i := 3) (N := some 59) (Sh.nm 5 15) rfl rfl (by kernel_rfl) (by decide) (fun K hK => ?_)
 refine goes_ Try.func13 (by kernel_rfl) rfl #[.agg #[.int .i64 a0_0, .int .i64 a0_1, .slice A52 y9.length c53, .slice A55 y10.length c56], .agg #[.int .i64 a0_0, .int .i64 a0_1, .slice A91 y9.length c92, .slice A94 y10.length c95]] (by rfl) rfl rfl (by (try simp only [List.map_toArray, List.map_cons, List.map_nil]); first | done | rfl | (simp only [List.length_drop, List.length_take]; rfl)) ?_
 with_reducible refine (laws_eqProgram.calls k a0_0 a0_1 _ _ y9 _ _ y10 a0_0 a0_1 _ _ y9 _ _ y10 true _ HO46.C HO46.c HO47.C HO47.c HO85.C HO85.c HO86.C HO86.c E6.out).mono ?_
 rintro e w97 ⟨rfl, hb⟩
 refine ⟨_, rfl, ?_⟩
 replace BK2 := BK2.same hb
 replace HO12 := HO12.same hb
 replace HO13 := HO13.same hb
 replace HO25 := HO25.same hb
 replace HO36 := HO36.same hb
 replace HO46 := HO46.same hb
 replace HO47 := HO47.same hb
 replace BK59 := BK59.same hb
 replace HO64 := HO64.same hb
 replace HO74 := HO74.same hb
 replace HO85 := HO85.same hb
 replace HO86 := HO86.same hb
 replace HB := am_ (below_step HB.out hb)
 replace NW := Nat.le_trans NW hb.size
 clear hb
 refine Sh.kN hK ⟨(blk_cell BK59.b 0).trans rfl, (blk_cell BK59.b 1).trans rfl, (blk_cell BK59.b 2).trans rfl, (blk_cell BK59.b 3).trans rfl, (blk_cell BK2.b 0).trans rfl, (blk_cell BK2.b 1).trans rfl, (blk_cell BK2.b 2).trans rfl, (blk_cell BK2.b 3).trans rfl⟩ fun hHeld => ?_
 clear hK K
 refine Sh.pA 4 60 (Sh.nm 5 31) (by kernel_rfl) ?_
 refine done_ (by kernel_rfl) ?_
 go_wp2_with (first | ((with_reducible refine gate_callee (f := 11) rfl ?_); refine Sh.gL (some 63) Try.func11 #[.slice A1 l1.length c1] (h := ?_); (with_reducible refine (laws_toUint64S.calls k _ _ l1 l1 _ (Kd.C_below HR1.out HB.out) HC1.out E2.out).mono ?_); rintro e w98 ⟨v0_, rfl, ho0, hb⟩; refine ⟨_, rfl, ?_⟩; obtain ⟨lo100, hi101, HO99, oa102, ob103, NW2⟩ := new1 (F := fun lo_ hi_ => Held (Kd.int .u64) 61 w98 w.heap.size lo_ hi_ v0_ l1) (held_new ho0 hb HB.out) hb NW; replace BK2 := BK2.same hb; replace HO12 := HO12.same hb; replace HO13 := HO13.same hb; replace HO25 := HO25.same hb; replace HO36 := HO36.same hb; replace HO46 := HO46.same hb; replace HO47 := HO47.same hb; replace BK59 := BK59.same hb; replace HO64 := HO64.same hb; replace HO74 := HO74.same hb; replace HO85 := HO85.same hb; replace HO86 := HO86.same hb; replace HB := am_ (below_step HB.out hb); replace NW := Nat.le_trans NW hb.size; replace NW := NW2; skip; obtain ⟨A104, c105, e106⟩ := HO99.slice; subst e106; clear hb ho0) | ((with_reducible refine gate_callee (f := 14) rfl ?_); refine Sh.gL (some 64) Try.func14 #[.slice A69 l1.length c70, .slice A104 l1.length c105] (h := ?_); (with_reducible refine (laws_eqUint64S.calls k _ _ l1 _ _ l1 true _ HO64.C HO64.c HO99.C HO99.c E7.out).mono ?_); rintro e w107 ⟨rfl, hb⟩; refine ⟨_, rfl, ?_⟩; replace hb := hb.below; replace BK2 := BK2.same hb; replace HO12 := HO12.same hb; replace HO13 := HO13.same hb; replace HO25 := HO25.same hb; replace HO36 := HO36.same hb; replace HO46 := HO46.same hb; replace HO47 := HO47.same hb; replace BK59 := BK59.same hb; replace HO64 := HO64.same hb; replace HO74 := HO74.same hb; replace HO85 := HO85.same hb; replace HO86 := HO86.same hb; replace HO99 := HO99.same hb; replace HB := am_ (below_step HB.out hb); replace NW := Nat.le_trans NW hb.size; clear hb; have hczq108_0 : w107.cell? ⟨g58, 0, none⟩ = some (.int .i64 a0_0) := (blk_cell BK59.b 0).trans rfl; have hfzq108_0 := blk_frozen BK59.b 0; have hczq108_1 : w107.cell? ⟨g58, 1, none⟩ = some (.int .i64 a0_1) := (blk_cell BK59.b 1).trans rfl; have hfzq108_1 := blk_frozen BK59.b 1; have hczq108_2 : w107.cell? ⟨g58, 2, none⟩ = some (.slice A52 y9.length c53) := (blk_cell BK59.b 2).trans rfl; have hfzq108_2 := blk_frozen BK59.b 2; have hczq108_3 : w107.cell? ⟨g58, 3, none⟩ = some (.slice A55 y10.length c56) := (blk_cell BK59.b 3).trans rfl; have hfzq108_3 := blk_frozen BK59.b 3) | ((with_reducible refine gate_callee (f := 18) rfl ?_); refine Sh.gL (some 68) Try.func18 #[.agg #[.int .i64 a0_0, .int .i64 a0_1, .slice A52 y9.length c53, .slice A55 y10.length c56], .int .i64 1] (h := ?_); (with_reducible refine (laws_markProgram.calls k (fun k_ => lo48 ≤ k_ ∧ k_ < hi49) a0_0 a0_1 _ y9 _ y10 1 m109 w _ HB.out HO46.r HO47.r E8.out).mono ?_); rintro e w110 ⟨rfl, hb, hk⟩; refine ⟨_, rfl, ?_⟩; replace hk : Kept w107 w110 (fun k_ => lo48 ≤ k_ ∧ k_ < hi49) := hk; replace BK2 := BK2.move hk (by omega); replace HO12 := HO12.move hk (by omega); replace HO13 := HO13.move hk (by omega); replace HO25 := HO25.move hk (by omega); replace HO36 := HO36.move hk (by omega); replace BK59 := BK59.move hk (by omega); replace HO64 := HO64.move hk (by omega); replace HO74 := HO74.move hk (by omega); replace HO85 := HO85.move hk (by omega); replace HO86 := HO86.move hk (by omega); replace HO99 := HO99.move hk (by omega); clear HO46 HO47; replace NW := Nat.le_trans NW hk.1; replace HB := am_ hb; clear hk hb) | ((with_reducible refine gate_callee (f := 23) rfl ?_); refine Sh.gL (some 71) Try.func23 #[.slice A69 l1.length c70, .int .i64 m109] (h := ?_); (with_reducible refine (laws_markUint64S.calls k (fun k_ => lo65 ≤ k_ ∧ k_ < hi66) _ l1 m109 m111 y112 w _ HB.out HO64.r E9.out).mono ?_); rintro e w113 ⟨rfl, hm0, hb, hk⟩; refine ⟨_, rfl, ?_⟩; replace hk : Kept w110 w113 (fun k_ => lo65 ≤ k_ ∧ k_ < hi66) := hk; replace BK2 := BK2.move hk (by omega); replace HO12 := HO12.move hk (by omega); replace HO13 := HO13.move hk (by omega); replace HO25 := HO25.move hk (by omega); replace HO36 := HO36.move hk (by omega); replace BK59 := BK59.move hk (by omega); replace HO74 := HO74.move hk (by omega); replace HO85 := HO85.move hk (by omega); replace HO86 := HO86.move hk (by omega); replace HO99 := HO99.move hk (by omega); replace HO64 := HO64.marked rfl hm0 hk; replace NW := Nat.le_trans NW hk.1; replace HB := am_ hb; clear hk hb hm0) | ((with_reducible refine gate_callee (f := 14) rfl ?_); (with_reducible refine gate_dst (N := 77) rfl ?_); (try simp only [ce0, ce1, cr0]); refine gate_guard (by rfl) ?_; dsimp only; refine Sh.gL (some 77) Try.func14 #[.slice A79 y33.length c80, .slice A41 y33.length c42] (h := ?_); (with_reducible refine (laws_eqUint64S.calls k _ _ y33 _ _ y33 true _ HO74.C HO74.c HO36.C HO36.c E5.out).mono ?_); rintro e w114 ⟨rfl, hb⟩; refine ⟨_, rfl, ?_⟩; replace hb := hb.below; replace BK2 := BK2.same hb; replace HO12 := HO12.same hb; replace HO13 := HO13.same hb; replace HO25 := HO25.same hb; replace HO36 := HO36.same hb; replace BK59 := BK59.same hb; replace HO64 := HO64.same hb; replace HO74 := HO74.same hb; replace HO85 := HO85.same hb; replace HO86 := HO86.same hb; replace HO99 := HO99.same hb; replace HB := am_ (below_step HB.out hb); replace NW := Nat.le_trans NW hb.size; clear hb) | ((with_reducible refine gate_callee (f := 23) rfl ?_); refine Sh.gL (some 87) Try.func23 #[.slice A79 y33.length c80, .int .i64 1] (h := ?_); (with_reducible refine (laws_markUint64S.calls k (fun k_ => lo75 ≤ k_ ∧ k_ < hi76) _ y33 1 m115 y116 w _ HB.out HO74.r E10.out).mono ?_); rintro e w117 ⟨rfl, hm0, hb, hk⟩; refine ⟨_, rfl, ?_⟩; replace hk : Kept w114 w117 (fun k_ => lo75 ≤ k_ ∧ k_ < hi76) := hk; replace BK2 := BK2.move hk (by omega); replace HO12 := HO12.move hk (by omega); replace HO13 := HO13.move hk (by omega); replace HO25 := HO25.move hk (by omega); replace HO36 := HO36.move hk (by omega); replace BK59 := BK59.move hk (by omega); replace HO64 := HO64.move hk (by omega); replace HO85 := HO85.move hk (by omega); replace HO86 := HO86.move hk (by omega); replace HO99 := HO99.move hk (by omega); replace HO74 := HO74.marked rfl hm0 hk; replace NW := Nat.le_trans NW hk.1; replace HB := am_ hb; clear hk hb hm0) | ((with_reducible refine gate_callee (f := 26) rfl ?_); refine Sh.gL (some 90) Try.func26 #[.slice A79 y33.length c80, .int .i64 1] (h := ?_); refine calls_of_args (args' := #[.slice A79 y116.length c80, .int .i64 1]) (by rw [← HO74.n]) ?_; (with_reducible refine (laws_heldUint64S.calls k _ _ y116 1 m115 _ HO74.C HO74.c E11.out).mono ?_); rintro e w118 ⟨rfl, hb⟩; refine ⟨_, rfl, ?_⟩; replace hb := hb.below; replace BK2 := BK2.same hb; replace HO12 := HO12.same hb; replace HO13 := HO13.same hb; replace HO25 := HO25.same hb; replace HO36 := HO36.same hb; replace BK59 := BK59.same hb; replace HO64 := HO64.same hb; replace HO74 := HO74.same hb; replace HO85 := HO85.same hb; replace HO86 := HO86.same hb; replace HO99 := HO99.same hb; replace HB := am_ (below_step HB.out hb); replace NW := Nat.le_trans NW hb.size; clear hb; have hczq119_0 : w118.cell? ⟨g1, 0, none⟩ = some (.int .i64 a0_0) := (blk_cell BK2.b 0).trans rfl; have hfzq119_0 := blk_frozen BK2.b 0; have hczq119_1 : w118.cell? ⟨g1, 1, none⟩ = some (.int .i64 a0_1) := (blk_cell BK2.b 1).trans rfl; have hfzq119_1 := blk_frozen BK2.b 1; have hczq119_2 : w118.cell? ⟨g1, 2, none⟩ = some (.slice A0_2 l0_2.length c0_2) := (blk_cell BK2.b 2).trans rfl; have hfzq119_2 := blk_frozen BK2.b 2; have hczq119_3 : w118.cell? ⟨g1, 3, none⟩ = some (.slice A0_3 l0_3.length c0_3) := (blk_cell BK2.b 3).trans rfl; have hfzq119_3 := blk_frozen BK2.b 3) | ((with_reducible refine gate_callee (f := 10) rfl ?_); refine Sh.gL (some 98) Try.func10 #[.agg #[.int .i64 a0_0, .int .i64 a0_1, .slice A0_2 l0_2.length c0_2, .slice A0_3 l0_3.length c0_3]] (h := ?_); (with_reducible refine (laws_toProgram.calls k a0_0 a0_1 _ _ l0_2 _ _ l0_3 a0_0 a0_1 y9 y10 _ (Kd.C_below HR0_2.out HB.out) HC0_2.out (Kd.C_below HR0_3.out HB.out) HC0_3.out E1.out).mono ?_); rintro e w120 ⟨v2_, v3_, rfl, ho0, ho1, hb⟩; refine ⟨_, rfl, ?_⟩; obtain ⟨lo123, hi124, ⟨HO121, HO122⟩, oa125, ob126, NW2⟩ := new1 (F := fun lo_ hi_ => Held k80 80 w120 w.heap.size lo_ hi_ v2_ y9 ∧ Held k71 71 w120 w.heap.size lo_ hi_ v3_ y10) ⟨held_new ho0 hb HB.out, held_new ho1 hb HB.out⟩ hb NW; replace BK2 := BK2.same hb; replace HO12 := HO12.same hb; replace HO13 := HO13.same hb; replace HO25 := HO25.same hb; replace HO36 := HO36.same hb; replace BK59 := BK59.same hb; replace HO64 := HO64.same hb; replace HO74 := HO74.same hb; replace HO85 := HO85.same hb; replace HO86 := HO86.same hb; replace HO99 := HO99.same hb; replace HB := am_ (below_step HB.out hb); replace NW := Nat.le_trans NW hb.size; replace NW := NW2; skip; obtain ⟨A127, c128, e129⟩ := HO121.slice; subst e129; obtain ⟨A130, c131, e132⟩ := HO122.slice; subst e132; clear hb ho0 ho1) | ((with_reducible refine gate_callee (f := 11) rfl ?_); refine Sh.gL (some 100) Try.func11 #[.slice A1 l1.length c1] (h := ?_); (with_reducible refine (laws_toUint64S.calls k _ _ l1 l1 _ (Kd.C_below HR1.out HB.out) HC1.out E2.out).mono ?_); rintro e w133 ⟨v0_, rfl, ho0, hb⟩; refine ⟨_, rfl, ?_⟩; obtain ⟨lo135, hi136, HO134, oa137, ob138, NW2⟩ := new1 (F := fun lo_ hi_ => Held (Kd.int .u64) 61 w133 w.heap.size lo_ hi_ v0_ l1) (held_new ho0 hb HB.out) hb NW; replace BK2 := BK2.same hb; replace HO12 := HO12.same hb; replace HO13 := HO13.same hb; replace HO25 := HO25.same hb; replace HO36 := HO36.same hb; replace BK59 := BK59.same hb; replace HO64 := HO64.same hb; replace HO74 := HO74.same hb; replace HO85 := HO85.same hb; replace HO86 := HO86.same hb; replace HO99 := HO99.same hb; replace HO121 := HO121.same hb; replace HO122 := HO122.same hb; replace HB := am_ (below_step HB.out hb); replace NW := Nat.le_trans NW hb.size; replace NW := NW2; skip; obtain ⟨A139, c140, e141⟩ := HO134.slice; subst e141; clear hb ho0) | ((with_reducible refine gate_callee (f := 25) rfl ?_); refine Sh.gL (some 102) Try.func25 #[.agg #[.int .i64 a0_0, .int .i64 a0_1, .slice A127 y9.length c128, .slice A130 y10.length c131], .slice A139 l1.length c140, .int .i64 a2] (h := ?_); (with_reducible refine (impl_StepBy.calls k a0_0 a0_1 _ _ y9 _ _ y10 _ _ l1 a2 y33 y34 _ HO121.C HO121.c HO122.C HO122.c HO134.C HO134.c E4.out).mono ?_); rintro e w142 ⟨v0_, rfl, ho0, hb⟩; refine ⟨_, rfl, ?_⟩; obtain ⟨lo144, hi145, HO143, oa146, ob147, NW2⟩ := new1 (F := fun lo_ hi_ => Held (Kd.int .u64) 61 w142 w.heap.size lo_ hi_ v0_ y33) (held_new ho0 hb HB.out) hb NW; replace BK2 := BK2.same hb; replace HO12 := HO12.same hb; replace HO13 := HO13.same hb; replace HO25 := HO25.same hb; replace HO36 := HO36.same hb; replace BK59 := BK59.same hb; replace HO64 := HO64.same hb; replace HO74 := HO74.same hb; replace HO85 := HO85.same hb; replace HO86 := HO86.same hb; replace HO99 := HO99.same hb; replace HO121 := HO121.same hb; replace HO122 := HO122.same hb; replace HO134 := HO134.same hb; replace HB := am_ (below_step HB.out hb); replace NW := Nat.le_trans NW hb.size; replace NW := NW2; skip; obtain ⟨A148, c149, e150⟩ := HO143.slice; subst e150; clear hb ho0) | ((with_reducible refine gate_callee (f := 14) rfl ?_); refine Sh.gL (some 107) Try.func14 #[.slice A148 y33.length c149, .slice A41 y33.length c42] (h := ?_); (with_reducible refine (laws_eqUint64S.calls k _ _ y33 _ _ y33 true _ HO143.C HO143.c HO36.C HO36.c E5.out).mono ?_); rintro e w151 ⟨rfl, hb⟩; refine ⟨_, rfl, ?_⟩; replace hb := hb.below; replace BK2 := BK2.same hb; replace HO12 := HO12.same hb; replace HO13 := HO13.same hb; replace HO25 := HO25.same hb; replace HO36 := HO36.same hb; replace BK59 := BK59.same hb; replace HO64 := HO64.same hb; replace HO74 := HO74.same hb; replace HO85 := HO85.same hb; replace HO86 := HO86.same hb; replace HO99 := HO99.same hb; replace HO121 := HO121.same hb; replace HO122 := HO122.same hb; replace HO134 := HO134.same hb; replace HO143 := HO143.same hb; replace HB := am_ (below_step HB.out hb); replace NW := Nat.le_trans NW hb.size; clear hb) | ((with_reducible refine gate_callee (f := 26) rfl ?_); refine Sh.gL (some 116) Try.func26 #[.slice A79 y33.length c80, .int .i64 1] (h := ?_); refine calls_of_args (args' := #[.slice A79 y116.length c80, .int .i64 1]) (by rw [← HO74.n]) ?_; (with_reducible refine (laws_heldUint64S.calls k _ _ y116 1 m115 _ HO74.C HO74.c E11.out).mono ?_); rintro e w152 ⟨rfl, hb⟩; refine ⟨_, rfl, ?_⟩; replace hb := hb.below; replace BK2 := BK2.same hb; replace HO12 := HO12.same hb; replace HO13 := HO13.same hb; replace HO25 := HO25.same hb; replace HO36 := HO36.same hb; replace BK59 := BK59.same hb; replace HO64 := HO64.same hb; replace HO74 := HO74.same hb; replace HO85 := HO85.same hb; replace HO86 := HO86.same hb; replace HO99 := HO99.same hb; replace HO121 := HO121.same hb; replace HO122 := HO122.same hb; replace HO134 := HO134.same hb; replace HO143 := HO143.same hb; replace HB := am_ (below_step HB.out hb); replace NW := Nat.le_trans NW hb.size; clear hb))
 go_ret
 exact ⟨rfl, HB.out⟩
end Go.Proofs.Ytjnolbjaagmooaa.P
