/- Go functions of this seat as Lean functions, and the proofs that the calls come to what these say; printed by a program of this session. No condition. -/
import Derived.Test.YtngefmofelengaaGreatP0
import Derived.Test.YtngefmofelengaaGreatMFnExactBackFrom3
set_option linter.unusedVariables false
set_option linter.unusedSimpArgs false
set_option maxHeartbeats 40000000
set_option maxRecDepth 100000
namespace Go.Proofs.YtngefmofelengaaGreat.P
open Go.RowKit Go.Proofs.YtngefmofelengaaGreatW.PrintWords Go.Proofs.YtngefmofelengaaGreatW.PrintLast Go.Proofs.YtngefmofelengaaGreatW.PrintMore Go.Proofs.YtngefmofelengaaGreat.Hof
attribute [local go_sem] max2_int min2_int max_two min_two max_three min_three max_four min_four
mutual
def impl_apply.j0 : Nat → Int → Int → Int → Int → Int → Int → Bool → Option (Int)
 | 0, _, _, _, _, _, _, _ => none
 | k + 1, x0, x1, x2, x3, x9, x10, x46 => if x46 = true then ((impl_mask.f x0).bind fun t480 => (some (Go.bits .and .u64 (Go.bits .and .u64 x2 x3) t480))) else (if x10 = 9 then (impl_apply.j1 k x0 x1 x2 x3 x9 x10 (x10 == 9)) else (impl_apply.j1 k x0 x1 x2 x3 x9 x10 (x10 == 18)))
def impl_apply.j1 : Nat → Int → Int → Int → Int → Int → Int → Bool → Option (Int)
 | 0, _, _, _, _, _, _, _ => none
 | k + 1, x0, x1, x2, x3, x9, x10, x52 => if x52 = true then ((impl_mask.f x0).bind fun t481 => (some (Go.bits .and .u64 (Go.bits .or .u64 x2 x3) t481))) else (if x10 = 10 then ((impl_mask.f x0).bind fun t482 => (some (Go.bits .and .u64 (Go.bits .xor .u64 x2 x3) t482))) else (if x10 = 11 then (impl_apply.j2 k x0 x1 x2 x3 x9 x10 (x10 == 11)) else (impl_apply.j2 k x0 x1 x2 x3 x9 x10 (x10 == 12))))
def impl_apply.j2 : Nat → Int → Int → Int → Int → Int → Int → Bool → Option (Int)
 | 0, _, _, _, _, _, _, _ => none
 | k + 1, x0, x1, x2, x3, x9, x10, x63 => if x63 = true then ((impl_shift.f x0 x2 x3 (x1 == 11)).bind fun t483 => ((impl_mask.f x0).bind fun t484 => (some (Go.bits .and .u64 t483 t484)))) else (if x10 = 14 then ((impl_truth.f (x2 == x3)).bind fun t485 => ((impl_mask.f x0).bind fun t486 => (some (Go.bits .and .u64 t485 t486)))) else (if x10 = 15 then ((impl_truth.f (decide (x2 < x3))).bind fun t487 => ((impl_mask.f x0).bind fun t488 => (some (Go.bits .and .u64 t487 t488)))) else (if x10 = 16 then ((impl_signed.f x0 x2).bind fun t489 => ((impl_signed.f x0 x3).bind fun t490 => ((impl_truth.f (decide (t489 < t490))).bind fun t491 => ((impl_mask.f x0).bind fun t492 => (some (Go.bits .and .u64 t491 t492)))))) else ((impl_mask.f x0).bind fun t493 => (some (Go.bits .and .u64 x9 t493))))))
end
def impl_apply.f (k : Nat) (a0 : Int) (a1 : Int) (a2 : Int) (a3 : Int) : Option (Int) := if a1 = 3 then ((impl_mask.f a0).bind fun t469 => (some (Go.bits .and .u64 (IntKind.u64.wrap (a2 + a3)) t469))) else (if a1 = 4 then ((impl_mask.f a0).bind fun t470 => (some (Go.bits .and .u64 (IntKind.u64.wrap (a2 - a3)) t470))) else (if a1 = 5 then ((impl_mask.f a0).bind fun t471 => (some (Go.bits .and .u64 (IntKind.u64.wrap (a2 * a3)) t471))) else (if a1 = 6 then ((impl_DivWord.f a0 a2 a3).bind fun bt472 => ((impl_mask.f a0).bind fun t475 => (some (Go.bits .and .u64 bt472.1 t475)))) else (if a1 = 7 then ((impl_DivWord.f a0 a2 a3).bind fun bt476 => ((impl_mask.f a0).bind fun t479 => (some (Go.bits .and .u64 bt476.2.1 t479)))) else (if a1 = 8 then (impl_apply.j0 k a0 a1 a2 a3 0 a1 (a1 == 8)) else (impl_apply.j0 k a0 a1 a2 a3 0 a1 (a1 == 17)))))))
theorem impl_apply.mono_l : ∀ k, (∀ y0 y1 y2 y3 y4 y5 y6, LeO (impl_apply.j0 k y0 y1 y2 y3 y4 y5 y6) (impl_apply.j0 (k + 1) y0 y1 y2 y3 y4 y5 y6)) ∧ (∀ y0 y1 y2 y3 y4 y5 y6, LeO (impl_apply.j1 k y0 y1 y2 y3 y4 y5 y6) (impl_apply.j1 (k + 1) y0 y1 y2 y3 y4 y5 y6)) ∧ (∀ y0 y1 y2 y3 y4 y5 y6, LeO (impl_apply.j2 k y0 y1 y2 y3 y4 y5 y6) (impl_apply.j2 (k + 1) y0 y1 y2 y3 y4 y5 y6))
 | 0 => ⟨fun _ _ _ _ _ _ _ r h => by simp [impl_apply.j0] at h, fun _ _ _ _ _ _ _ r h => by simp [impl_apply.j1] at h, fun _ _ _ _ _ _ _ r h => by simp [impl_apply.j2] at h⟩
 | k + 1 => by
  obtain ⟨ih0, ih1, ih2⟩ := impl_apply.mono_l k
  and_intros <;> intros
  all_goals (first | unfold impl_apply.j0 | unfold impl_apply.j1 | unfold impl_apply.j2)
  all_goals repeat' with_reducible first | apply ih0 | apply ih1 | apply ih2 | exact LeO.refl _ | exact LeO.none _ | apply LeO.ite | refine LeO.bind ?_ fun _ => ?_
theorem impl_apply.mono : ∀ a0 a1 a2 a3 k, LeO (impl_apply.f k a0 a1 a2 a3) (impl_apply.f (k + 1) a0 a1 a2 a3) := by
 intro a0 a1 a2 a3 k
 obtain ⟨ih0, ih1, ih2⟩ := impl_apply.mono_l k
 unfold impl_apply.f
 repeat' with_reducible first | apply ih0 | apply ih1 | apply ih2 | exact LeO.refl _ | exact LeO.none _ | apply LeO.ite | refine LeO.bind ?_ fun _ => ?_
theorem impl_apply.calls (k : Nat) (a0 : Int) (a1 : Int) (a2 : Int) (a3 : Int) (r : Int) (w : World) (h : impl_apply.f k a0 a1 a2 a3 = some r) :
  Calls Tryz.prog 117 #[.int .i64 a0, .int .i64 a1, .int .u64 a2, .int .u64 a3] w fun e w' => e = .returned (.int .u64 r) ∧ Drawn0 w w' := by
 have H := h
 clear h
 unfold impl_apply.f at H
 by_cases c5 : a1 = 3
 ·rw [if_pos c5] at H
  have c5b0 : (a1 == 3) = true := beq_iff_eq.mpr c5
  have c5b1 : (a1 != 3) = false := bne_eq_false_iff_eq.mpr c5
  clear c5
  obtain ⟨t469, A6, H⟩ := Sh.ba H
  obtain rfl := Option.some.inj H
  go_enter Tryz.func117, Tryz.ntmps117
  go_wp2_with (first | ((with_reducible refine Sh.k 99 ?_); refine Sh.gD (some 96) Tryz.func99 #[.int .i64 a0] (impl_mask.calls a0 t469 _ A6.out) fun nd => ?_))
  go_ret
  exact ⟨Sh.es, Sh.dr⟩
 ·rw [if_neg c5] at H
  have c5b0 : (a1 == 3) = false := beq_eq_false_iff_ne.mpr c5
  have c5b1 : (a1 != 3) = true := bne_iff_ne.mpr c5
  by_cases c7 : a1 = 4
  ·rw [if_pos c7] at H
   have c7b0 : (a1 == 4) = true := beq_iff_eq.mpr c7
   have c7b1 : (a1 != 4) = false := bne_eq_false_iff_eq.mpr c7
   clear c7
   obtain ⟨t470, A8, H⟩ := Sh.ba H
   obtain rfl := Option.some.inj H
   go_enter Tryz.func117, Tryz.ntmps117
   go_wp2_with (first | ((with_reducible refine Sh.k 99 ?_); refine Sh.gD (some 96) Tryz.func99 #[.int .i64 a0] (impl_mask.calls a0 t470 _ A8.out) fun nd => ?_))
   go_ret
   exact ⟨Sh.es, Sh.dr⟩
  ·rw [if_neg c7] at H
   have c7b0 : (a1 == 4) = false := beq_eq_false_iff_ne.mpr c7
   have c7b1 : (a1 != 4) = true := bne_iff_ne.mpr c7
   by_cases c9 : a1 = 5
   ·rw [if_pos c9] at H
    have c9b0 : (a1 == 5) = true := beq_iff_eq.mpr c9
    have c9b1 : (a1 != 5) = false := bne_eq_false_iff_eq.mpr c9
    clear c9
    obtain ⟨t471, A10, H⟩ := Sh.ba H
    obtain rfl := Option.some.inj H
    go_enter Tryz.func117, Tryz.ntmps117
    go_wp2_with (first | ((with_reducible refine Sh.k 99 ?_); refine Sh.gD (some 96) Tryz.func99 #[.int .i64 a0] (impl_mask.calls a0 t471 _ A10.out) fun nd => ?_))
    go_ret
    exact ⟨Sh.es, Sh.dr⟩
   ·rw [if_neg c9] at H
    have c9b0 : (a1 == 5) = false := beq_eq_false_iff_ne.mpr c9
    have c9b1 : (a1 != 5) = true := bne_iff_ne.mpr c9
    by_cases c11 : a1 = 6
    ·rw [if_pos c11] at H
     have c11b0 : (a1 == 6) = true := beq_iff_eq.mpr c11
     have c11b1 : (a1 != 6) = false := bne_eq_false_iff_eq.mpr c11
     clear c11
     obtain ⟨⟨t472, t473, t474⟩, A120, H⟩ := Sh.bd H
     have A12 := am_ A120
     clear A120
     obtain ⟨t475, A13, H⟩ := Sh.ba H
     obtain rfl := Option.some.inj H
     go_enter Tryz.func117, Tryz.ntmps117
     go_wp2_with (first | ((with_reducible refine Sh.k 145 ?_); refine Sh.gD (some 32) Tryz.func145 #[.int .i64 a0, .int .u64 a2, .int .u64 a3] (impl_DivWord.calls a0 a2 a3 t472 t473 t474 _ A12.out) fun nd => ?_) | ((with_reducible refine Sh.k 99 ?_); refine Sh.gD (some 96) Tryz.func99 #[.int .i64 a0] (impl_mask.calls a0 t475 _ A13.out) fun nd => ?_))
     go_ret
     exact ⟨Sh.es, Sh.dr⟩
    ·rw [if_neg c11] at H
     have c11b0 : (a1 == 6) = false := beq_eq_false_iff_ne.mpr c11
     have c11b1 : (a1 != 6) = true := bne_iff_ne.mpr c11
     by_cases c14 : a1 = 7
     ·rw [if_pos c14] at H
      have c14b0 : (a1 == 7) = true := beq_iff_eq.mpr c14
      have c14b1 : (a1 != 7) = false := bne_eq_false_iff_eq.mpr c14
      clear c14
      obtain ⟨⟨t476, t477, t478⟩, A150, H⟩ := Sh.bd H
      have A15 := am_ A150
      clear A150
      obtain ⟨t479, A16, H⟩ := Sh.ba H
      obtain rfl := Option.some.inj H
      go_enter Tryz.func117, Tryz.ntmps117
      go_wp2_with (first | ((with_reducible refine Sh.k 145 ?_); refine Sh.gD (some 42) Tryz.func145 #[.int .i64 a0, .int .u64 a2, .int .u64 a3] (impl_DivWord.calls a0 a2 a3 t476 t477 t478 _ A15.out) fun nd => ?_) | ((with_reducible refine Sh.k 99 ?_); refine Sh.gD (some 96) Tryz.func99 #[.int .i64 a0] (impl_mask.calls a0 t479 _ A16.out) fun nd => ?_))
      go_ret
      exact ⟨Sh.es, Sh.dr⟩
     ·rw [if_neg c14] at H
      have c14b0 : (a1 == 7) = false := beq_eq_false_iff_ne.mpr c14
      have c14b1 : (a1 != 7) = true := bne_iff_ne.mpr c14
      have HC17 := am_ H
      clear H
      go_enter Tryz.func117, Tryz.ntmps117
      go_upto_if 46 with (fail)
      go_cut [46] (fun v46 wc => ∃ (kq : Nat) (x46_16 : Bool), v46 = .bool x46_16 ∧ Aside0 (impl_apply.j0 kq a0 a1 a2 a3 0 a1 x46_16 = some r) ∧ Aside0 (kq ≤ k) ∧ Drawn0 w wc)
      case first =>
       have H := HC17.out
       clear HC17
       by_cases c18 : a1 = 8
       ·rw [if_pos c18] at H
        have c18b0 : (a1 == 8) = true := beq_iff_eq.mpr c18
        have c18b1 : (a1 != 8) = false := bne_eq_false_iff_eq.mpr c18
        clear c18
        first | rw [c18b0] | (simp only [i64_w, i32_w]; rw [c18b0]) | skip
        have H' := am_ H
        clear H
        go_wp2
        go_meet
        case rel => exact ⟨_, ((a1 == 8)), (Sh.es), H', ⟨Sh.om⟩, Sh.dr⟩
       ·rw [if_neg c18] at H
        have c18b0 : (a1 == 8) = false := beq_eq_false_iff_ne.mpr c18
        have c18b1 : (a1 != 8) = true := bne_iff_ne.mpr c18
        first | rw [c18b0] | (simp only [i64_w, i32_w]; rw [c18b0]) | skip
        have H' := am_ H
        clear H
        go_wp2
        go_meet
        case rel => exact ⟨_, ((a1 == 17)), (Sh.es), H', ⟨Sh.om⟩, Sh.dr⟩
      case rest =>
       clear HC17
       obtain ⟨kq, x46_16, rfl, HA, HJ16, ⟨mc16, rfl⟩⟩ := hcut
       cases kq with
       | zero => exact absurd HA.out (by simp [impl_apply.j0])
       | succ kj16 =>
        have H := HA.out
        clear HA
        simp only [impl_apply.j0] at H
        by_cases c19 : x46_16 = true
        ·subst c19
         rw [if_pos rfl] at H
         obtain ⟨t480, A20, H⟩ := Sh.ba H
         obtain rfl := Option.some.inj H
         go_wp2_with (first | ((with_reducible refine Sh.k 99 ?_); refine Sh.gD (some 96) Tryz.func99 #[.int .i64 a0] (impl_mask.calls a0 t480 _ A20.out) fun nd => ?_))
         go_ret
         exact ⟨Sh.es, Sh.dr⟩
        ·replace c19 := Bool.eq_false_iff.mpr c19
         subst c19
         rw [Sh.nf] at H
         have HC21 := am_ H
         clear H
         go_upto_if 52 with (fail)
         go_cut [52] (fun v52 wc => ∃ (kq : Nat) (x52_20 : Bool), v52 = .bool x52_20 ∧ Aside0 (impl_apply.j1 kq a0 a1 a2 a3 0 a1 x52_20 = some r) ∧ Aside0 (kq ≤ kj16) ∧ Drawn0 w wc)
         case first =>
          have H := HC21.out
          clear HC21
          by_cases c22 : a1 = 9
          ·rw [if_pos c22] at H
           have c22b0 : (a1 == 9) = true := beq_iff_eq.mpr c22
           have c22b1 : (a1 != 9) = false := bne_eq_false_iff_eq.mpr c22
           clear c22
           first | rw [c22b0] | (simp only [i64_w, i32_w]; rw [c22b0]) | skip
           have H' := am_ H
           clear H
           go_wp2
           go_meet
           case rel => exact ⟨_, ((a1 == 9)), (Sh.es), H', ⟨by have := HJ16.out; first | omega | exact Nat.le_refl _⟩, Sh.dr⟩
          ·rw [if_neg c22] at H
           have c22b0 : (a1 == 9) = false := beq_eq_false_iff_ne.mpr c22
           have c22b1 : (a1 != 9) = true := bne_iff_ne.mpr c22
           first | rw [c22b0] | (simp only [i64_w, i32_w]; rw [c22b0]) | skip
           have H' := am_ H
           clear H
           go_wp2
           go_meet
           case rel => exact ⟨_, ((a1 == 18)), (Sh.es), H', ⟨by have := HJ16.out; first | omega | exact Nat.le_refl _⟩, Sh.dr⟩
         case rest =>
          clear HC21
          obtain ⟨kq, x52_20, rfl, HA, HJ20, ⟨mc20, rfl⟩⟩ := hcut
          cases kq with
          | zero => exact absurd HA.out (by simp [impl_apply.j1])
          | succ kj20 =>
           have H := HA.out
           clear HA
           simp only [impl_apply.j1] at H
           by_cases c23 : x52_20 = true
           ·subst c23
            rw [if_pos rfl] at H
            obtain ⟨t481, A24, H⟩ := Sh.ba H
            obtain rfl := Option.some.inj H
            go_wp2_with (first | ((with_reducible refine Sh.k 99 ?_); refine Sh.gD (some 96) Tryz.func99 #[.int .i64 a0] (impl_mask.calls a0 t481 _ A24.out) fun nd => ?_))
            go_ret
            exact ⟨Sh.es, Sh.dr⟩
           ·replace c23 := Bool.eq_false_iff.mpr c23
            subst c23
            rw [Sh.nf] at H
            by_cases c25 : a1 = 10
            ·rw [if_pos c25] at H
             have c25b0 : (a1 == 10) = true := beq_iff_eq.mpr c25
             have c25b1 : (a1 != 10) = false := bne_eq_false_iff_eq.mpr c25
             clear c25
             obtain ⟨t482, A26, H⟩ := Sh.ba H
             obtain rfl := Option.some.inj H
             go_wp2_with (first | ((with_reducible refine Sh.k 99 ?_); refine Sh.gD (some 96) Tryz.func99 #[.int .i64 a0] (impl_mask.calls a0 t482 _ A26.out) fun nd => ?_))
             go_ret
             exact ⟨Sh.es, Sh.dr⟩
            ·rw [if_neg c25] at H
             have c25b0 : (a1 == 10) = false := beq_eq_false_iff_ne.mpr c25
             have c25b1 : (a1 != 10) = true := bne_iff_ne.mpr c25
             have HC27 := am_ H
             clear H
             go_upto_if 63 with (fail)
             go_cut [63] (fun v63 wc => ∃ (kq : Nat) (x63_26 : Bool), v63 = .bool x63_26 ∧ Aside0 (impl_apply.j2 kq a0 a1 a2 a3 0 a1 x63_26 = some r) ∧ Aside0 (kq ≤ kj20) ∧ Drawn0 w wc)
             case first =>
              have H := HC27.out
              clear HC27
              by_cases c28 : a1 = 11
              ·rw [if_pos c28] at H
               have c28b0 : (a1 == 11) = true := beq_iff_eq.mpr c28
               have c28b1 : (a1 != 11) = false := bne_eq_false_iff_eq.mpr c28
               clear c28
               first | rw [c28b0] | (simp only [i64_w, i32_w]; rw [c28b0]) | skip
               have H' := am_ H
               clear H
               go_wp2
               go_meet
               case rel => exact ⟨_, ((a1 == 11)), (Sh.es), H', ⟨by have := HJ16.out; have := HJ20.out; first | omega | exact Nat.le_refl _⟩, Sh.dr⟩
              ·rw [if_neg c28] at H
               have c28b0 : (a1 == 11) = false := beq_eq_false_iff_ne.mpr c28
               have c28b1 : (a1 != 11) = true := bne_iff_ne.mpr c28
               first | rw [c28b0] | (simp only [i64_w, i32_w]; rw [c28b0]) | skip
               have H' := am_ H
               clear H
               go_wp2
               go_meet
               case rel => exact ⟨_, ((a1 == 12)), (Sh.es), H', ⟨by have := HJ16.out; have := HJ20.out; first | omega | exact Nat.le_refl _⟩, Sh.dr⟩
             case rest =>
              clear HC27
              obtain ⟨kq, x63_26, rfl, HA, HJ26, ⟨mc26, rfl⟩⟩ := hcut
              cases kq with
              | zero => exact absurd HA.out (by simp [impl_apply.j2])
              | succ kj26 =>
               have H := HA.out
               clear HA
               simp only [impl_apply.j2] at H
               by_cases c29 : x63_26 = true
               ·subst c29
                rw [if_pos rfl] at H
                obtain ⟨t483, A30, H⟩ := Sh.ba H
                obtain ⟨t484, A31, H⟩ := Sh.ba H
                obtain rfl := Option.some.inj H
                go_wp2_with (first | ((with_reducible refine Sh.k 146 ?_); refine Sh.gD (some 71) Tryz.func146 #[.int .i64 a0, .int .u64 a2, .int .u64 a3, .bool (a1 == 11)] (impl_shift.calls a0 a2 a3 (a1 == 11) t483 _ A30.out) fun nd => ?_) | ((with_reducible refine Sh.k 99 ?_); refine Sh.gD (some 96) Tryz.func99 #[.int .i64 a0] (impl_mask.calls a0 t484 _ A31.out) fun nd => ?_))
                go_ret
                exact ⟨Sh.es, Sh.dr⟩
               ·replace c29 := Bool.eq_false_iff.mpr c29
                subst c29
                rw [Sh.nf] at H
                by_cases c32 : a1 = 14
                ·rw [if_pos c32] at H
                 have c32b0 : (a1 == 14) = true := beq_iff_eq.mpr c32
                 have c32b1 : (a1 != 14) = false := bne_eq_false_iff_eq.mpr c32
                 clear c32
                 obtain ⟨t485, A33, H⟩ := Sh.ba H
                 obtain ⟨t486, A34, H⟩ := Sh.ba H
                 obtain rfl := Option.some.inj H
                 go_wp2_with (first | ((with_reducible refine Sh.k 147 ?_); refine Sh.gD (some 77) Tryz.func147 #[.bool (a2 == a3)] (impl_truth.calls (a2 == a3) t485 _ A33.out) fun nd => ?_) | ((with_reducible refine Sh.k 99 ?_); refine Sh.gD (some 96) Tryz.func99 #[.int .i64 a0] (impl_mask.calls a0 t486 _ A34.out) fun nd => ?_))
                 go_ret
                 exact ⟨Sh.es, Sh.dr⟩
                ·rw [if_neg c32] at H
                 have c32b0 : (a1 == 14) = false := beq_eq_false_iff_ne.mpr c32
                 have c32b1 : (a1 != 14) = true := bne_iff_ne.mpr c32
                 by_cases c35 : a1 = 15
                 ·rw [if_pos c35] at H
                  have c35b0 : (a1 == 15) = true := beq_iff_eq.mpr c35
                  have c35b1 : (a1 != 15) = false := bne_eq_false_iff_eq.mpr c35
                  clear c35
                  obtain ⟨t487, A36, H⟩ := Sh.ba H
                  obtain ⟨t488, A37, H⟩ := Sh.ba H
                  obtain rfl := Option.some.inj H
                  go_wp2_with (first | ((with_reducible refine Sh.k 147 ?_); refine Sh.gD (some 83) Tryz.func147 #[.bool (decide (a2 < a3))] (impl_truth.calls (decide (a2 < a3)) t487 _ A36.out) fun nd => ?_) | ((with_reducible refine Sh.k 99 ?_); refine Sh.gD (some 96) Tryz.func99 #[.int .i64 a0] (impl_mask.calls a0 t488 _ A37.out) fun nd => ?_))
                  go_ret
                  exact ⟨Sh.es, Sh.dr⟩
                 ·rw [if_neg c35] at H
                  have c35b0 : (a1 == 15) = false := beq_eq_false_iff_ne.mpr c35
                  have c35b1 : (a1 != 15) = true := bne_iff_ne.mpr c35
                  by_cases c38 : a1 = 16
                  ·rw [if_pos c38] at H
                   have c38b0 : (a1 == 16) = true := beq_iff_eq.mpr c38
                   have c38b1 : (a1 != 16) = false := bne_eq_false_iff_eq.mpr c38
                   clear c38
                   obtain ⟨t489, A39, H⟩ := Sh.ba H
                   obtain ⟨t490, A40, H⟩ := Sh.ba H
                   obtain ⟨t491, A41, H⟩ := Sh.ba H
                   obtain ⟨t492, A42, H⟩ := Sh.ba H
                   obtain rfl := Option.some.inj H
                   go_wp2_with (first | ((with_reducible refine Sh.k 148 ?_); refine Sh.gD (some 88) Tryz.func148 #[.int .i64 a0, .int .u64 a2] (impl_signed.calls a0 a2 t489 _ A39.out) fun nd => ?_) | ((with_reducible refine Sh.k 148 ?_); refine Sh.gD (some 91) Tryz.func148 #[.int .i64 a0, .int .u64 a3] (impl_signed.calls a0 a3 t490 _ A40.out) fun nd => ?_) | ((with_reducible refine Sh.k 147 ?_); refine Sh.gD (some 93) Tryz.func147 #[.bool (decide (t489 < t490))] (impl_truth.calls (decide (t489 < t490)) t491 _ A41.out) fun nd => ?_) | ((with_reducible refine Sh.k 99 ?_); refine Sh.gD (some 96) Tryz.func99 #[.int .i64 a0] (impl_mask.calls a0 t492 _ A42.out) fun nd => ?_))
                   go_ret
                   exact ⟨Sh.es, Sh.dr⟩
                  ·rw [if_neg c38] at H
                   have c38b0 : (a1 == 16) = false := beq_eq_false_iff_ne.mpr c38
                   have c38b1 : (a1 != 16) = true := bne_iff_ne.mpr c38
                   obtain ⟨t493, A43, H⟩ := Sh.ba H
                   obtain rfl := Option.some.inj H
                   go_wp2_with (first | ((with_reducible refine Sh.k 99 ?_); refine Sh.gD (some 96) Tryz.func99 #[.int .i64 a0] (impl_mask.calls a0 t493 _ A43.out) fun nd => ?_))
                   go_ret
                   exact ⟨Sh.es, Sh.dr⟩
mutual
def impl_valueOf.l0 : Nat → Int → List Int → List Int → List (S79) → Int → Int → Option (Int)
 | 0, _, _, _, _, _, _ => none
 | k + 1, x0, x2, x7, x12, x13, x14 => if x14 < x13 then (if 0 ≤ x14 then (if x14 < (x12.length : Int) then (if ((rd_T79 x12 x14).f0) = 1 then (impl_valueOf.j1 k x0 x2 x7 (wrap64 ((x7.length : Int) - 1)) x12 x13 x14 ((rd_T79 x12 x14).f0) (((rd_T79 x12 x14).f0) == 1) ((rd_T79 x12 x14).f0) ((rd_T79 x12 x14).f1)) else (impl_valueOf.j1 k x0 x2 x7 (wrap64 ((x7.length : Int) - 1)) x12 x13 x14 ((rd_T79 x12 x14).f0) (((rd_T79 x12 x14).f0) == 20) ((rd_T79 x12 x14).f0) ((rd_T79 x12 x14).f1))) else (none)) else (none)) else (if 0 < (x7.length : Int) then (some (rd x7 0)) else (none))
def impl_valueOf.j1 : Nat → Int → List Int → List Int → Int → List (S79) → Int → Int → Int → Bool → Int → Int → Option (Int)
 | 0, _, _, _, _, _, _, _, _, _, _, _ => none
 | k + 1, x0, x2, x7, x10, x12, x13, x14, x22, x42, x500000, x500001 => if x42 = true then (if x7.length < 17592186044416 then (impl_valueOf.l0 k x0 x2 (x7 ++ [x500001]) x12 x13 (wrap64 (x14 + 1))) else (none)) else (if x22 = 2 then (if 0 ≤ x500001 then (if x500001 < (x2.length : Int) then (if x7.length < 17592186044416 then (impl_valueOf.l0 k x0 x2 (x7 ++ [rd x2 x500001]) x12 x13 (wrap64 (x14 + 1))) else (none)) else (none)) else (none)) else (if x22 = 13 then (if 0 ≤ x10 then (if x10 < (x7.length : Int) then ((impl_mask.f x0).bind fun t508 => (impl_valueOf.l0 k x0 x2 (x7.set (x10 : Int).toNat (Go.bits .and .u64 (Go.bits .xor .u64 18446744073709551615 (rd x7 x10)) t508)) x12 x13 (wrap64 (x14 + 1)))) else (none)) else (none)) else (if x22 = 19 then (if 0 ≤ x10 then (if x10 < (x7.length : Int) then (impl_valueOf.l0 k x0 x2 (x7.set (x10 : Int).toNat (IntKind.u64.wrap (1 - (rd x7 x10)))) x12 x13 (wrap64 (x14 + 1))) else (none)) else (none)) else (if 0 ≤ (wrap64 (x10 - 1)) then (if (wrap64 (x10 - 1)) < (x7.length : Int) then (if 0 ≤ x10 then (if x10 < (x7.length : Int) then (if (wrap64 (x10 - 1)) ≤ (x7.length : Int) then ((some (x7.take ((wrap64 (x10 - 1)) : Int).toNat : List Int)).bind fun y514 => ((impl_apply.f k x0 x500000 (rd x7 (wrap64 (x10 - 1))) (rd x7 x10)).bind fun t517 => (if y514.length < 17592186044416 then (impl_valueOf.l0 k x0 x2 (y514 ++ [t517]) x12 x13 (wrap64 (x14 + 1))) else (none)))) else (none)) else (none)) else (none)) else (none)) else (none)))))
end
def impl_valueOf.f (k : Nat) (a0 : Int) (l1 : List (S79)) (l2 : List Int) : Option (Int) := impl_valueOf.l0 k a0 l2 (([] : List Int)) l1 (l1.length : Int) 0
theorem impl_valueOf.mono_l : ∀ k, (∀ y0 y1 y2 y3 y4 y5, LeO (impl_valueOf.l0 k y0 y1 y2 y3 y4 y5) (impl_valueOf.l0 (k + 1) y0 y1 y2 y3 y4 y5)) ∧ (∀ y0 y1 y2 y3 y4 y5 y6 y7 y8 y9 y10, LeO (impl_valueOf.j1 k y0 y1 y2 y3 y4 y5 y6 y7 y8 y9 y10) (impl_valueOf.j1 (k + 1) y0 y1 y2 y3 y4 y5 y6 y7 y8 y9 y10))
 | 0 => ⟨fun _ _ _ _ _ _ r h => by simp [impl_valueOf.l0] at h, fun _ _ _ _ _ _ _ _ _ _ _ r h => by simp [impl_valueOf.j1] at h⟩
 | k + 1 => by
  obtain ⟨ih0, ih1⟩ := impl_valueOf.mono_l k
  and_intros <;> intros
  all_goals (first | unfold impl_valueOf.l0 | unfold impl_valueOf.j1)
  all_goals repeat' with_reducible first | apply ih0 | apply ih1 | apply impl_apply.mono | exact LeO.refl _ | exact LeO.none _ | apply LeO.ite | refine LeO.bind ?_ fun _ => ?_
theorem impl_valueOf.mono : ∀ a0 a1 a2 k, LeO (impl_valueOf.f k a0 a1 a2) (impl_valueOf.f (k + 1) a0 a1 a2) := by
 intro a0 a1 a2 k
 obtain ⟨ih0, ih1⟩ := impl_valueOf.mono_l k
 unfold impl_valueOf.f
 repeat' with_reducible first | apply ih0 | apply ih1 | apply impl_apply.mono | exact LeO.refl _ | exact LeO.none _ | apply LeO.ite | refine LeO.bind ?_ fun _ => ?_
def impl_valueOf.T7 : Bool × List (List Nat × List Nat) := (true, [([], []), ([], []), ([1], [1]), ([0, 2], [0, 2]), ([], []), ([], []), ([5], [5]), ([], []), ([], []), ([8], [8]), ([7, 9], [7, 9]), ([10], [10]), ([], []), ([], []), ([12, 13], [12, 13]), ([14], [14]), ([4, 6, 11, 15], [4, 6, 11, 15]), ([16], [16]), ([3, 17, 16], [3, 17]), ([18, 18, 0, 1, 2, 3, 4, 5, 6, 7, 8, 9, 10, 11, 12, 13, 14, 15, 16, 17, 18], [0, 7, 12, 18])])
def impl_valueOf.B7 : List Nat := [0, 0, 2, 7, 0, 0, 32, 0, 0, 256, 896, 1920, 0, 0, 12288, 28672, 65520, 131056, 262143, 524287]
theorem impl_valueOf.tab7 : rtab .any (opsOf Tryz.f98 7) = impl_valueOf.T7 := by kernel_rfl
theorem impl_valueOf.bits7 : waitsOk impl_valueOf.T7.2 impl_valueOf.B7 = true := by kernel_rfl
def impl_valueOf.T14 : Bool × List (List Nat × List Nat) := (true, [([], []), ([], []), ([], []), ([], []), ([2, 3], [2, 3]), ([4], [4]), ([5], [5]), ([], []), ([7], [7]), ([6, 8], [6, 8]), ([0, 1, 0, 1, 2, 3, 4, 5, 6, 7, 8, 9], [0, 1]), ([10, 9, 8, 0, 1, 2, 3, 4, 5, 6, 7, 8, 9], [9, 10])])
def impl_valueOf.B14 : List Nat := [0, 0, 0, 0, 12, 28, 60, 0, 128, 508, 1023, 2047]
theorem impl_valueOf.tab14 : rtab .any (opsOf Tryz.f98 14) = impl_valueOf.T14 := by kernel_rfl
theorem impl_valueOf.bits14 : waitsOk impl_valueOf.T14.2 impl_valueOf.B14 = true := by kernel_rfl
theorem impl_valueOf.calls (k : Nat) (a0 : Int) (A1 : Option Addr) (c1 : Nat) (l1 : List (S79)) (A2 : Option Addr) (c2 : Nat) (l2 : List Int) (r : Int) (w : World) (hr1 : Kd.C k79 w A1 l1.length l1) (hc1 : l1.length ≤ c1) (hr2 : Kd.C (Kd.int .u64) w A2 l2.length l2) (hc2 : l2.length ≤ c2) (h : impl_valueOf.f k a0 l1 l2 = some r) :
  Calls Tryz.prog 98 #[.int .i64 a0, .slice A1 l1.length c1, .slice A2 l2.length c2] w fun e w' => e = .returned (.int .u64 r) ∧ Below w.heap.size w w' := by
 have hu79 := Tryz.underlying79
 have HR1 := am_ hr1
 have HC1 := am_ hc1
 clear hr1 hc1
 have HR2 := am_ hr2
 have HC2 := am_ hc2
 clear hr2 hc2
 have HB := am_ (Below.refl w.heap.size w)
 have H := h
 clear h
 unfold impl_valueOf.f at H
 obtain ⟨y494, hy494⟩ : ∃ y_ : List Int, y_ = (([] : List Int)) := ⟨_, rfl⟩
 replace H : (impl_valueOf.l0 k a0 l2 y494 l1 (l1.length : Int) 0) = some r := by first | (rw [hy494]; with_reducible exact H) | (have H2_ := (Option.bind_some _ _).symm.trans H; rw [hy494]; with_reducible exact H2_) | (have H2_ := (Option.bind_some _ _).symm.trans H; with_reducible exact H2_) | with_reducible exact H | (rw [hy494]; exact H) | exact H
 have Ny494 := am_ hy494
 clear hy494
 have H' := am_ H
 clear H
 go_enter Tryz.func98, Tryz.ntmps98
 go_wp2_with (first | ((with_reducible refine Sh.d 11 ?_); refine Kd.R_lit (Kd.int .u64) _ 77 ?hg (N := 11) ?hd (xs := ([] : List Int)) (inner := []) (ok := fun _ => True) (okp := fun _ => True) ?hr ?hp (fun _ hk => hk) trivial (Below.refl _ _) (Nat.le_refl _) (by simp) ?_; (case hd => rfl); (case hg => rfl); (case hr => first | (go_simp; done) | (go_simp; rfl)); (case hp => exact (Reps.none _ _)); intro v495 w4 ho5 hb hg_ hnew_; clear hg_ hnew_; (first | rw [← Ny494.out] at ho5 | (simp only [Int.reduceToNat] at ho5; rw [← Ny494.out] at ho5)); have HO496 := am_ (Kd.R_lower ho5 (below_size Sh.bw)); replace HB := Sh.hb hb; clear hb ho5))
 go_loopg [7, 14] k (fun kq v7 v14 w' => ∃ (x7_1 : List Int) (x14_1 : Int), v14 = .int .i64 x14_1 ∧ Aside0 (impl_valueOf.l0 kq a0 l2 x7_1 l1 (l1.length : Int) x14_1 = some r) ∧ Aside0 (kq ≤ k) ∧ Aside0 (Kd.R (Kd.int .u64) 77 w' w.heap.size (fun _ => True) v7 x7_1) ∧ Aside0 (Below w.heap.size w w'))
 case atStart => exact ⟨(y494), (0), (Sh.es), H', ⟨Nat.le_refl _⟩, ⟨Sh.rl HO496.out⟩, ⟨Sh.bw⟩⟩
 case round =>
  clear H'
  obtain ⟨x7_1, x14_1, rfl, HA, HK1, HO_7, HB⟩ := hrel
  cases gk with
  | zero => exact absurd HA.out (by simp [impl_valueOf.l0])
  | succ k1 =>
   have H := HA.out
   clear HA
   simp only [impl_valueOf.l0] at H
   by_cases c6 : x14_1 < (l1.length : Int)
   ·rw [if_pos c6] at H
    replace c6 := decide_eq_true c6
    by_cases c7 : 0 ≤ x14_1
    ·rw [if_pos c7] at H
     replace c7 := decide_eq_true c7
     by_cases c8 : x14_1 < (l1.length : Int)
     ·rw [if_pos c8] at H
      replace c8 := decide_eq_true c8
      have HC9 := am_ H
      clear H
      have p498 : 0 ≤ (x14_1 : Int) := Sh.od
      have q498 : x14_1 < (l1.length : Int) := Sh.od
      obtain ⟨ad498, e498, hx498_0, hx498_1⟩ := at_T79 HR1.out x14_1 p498 q498
      cases e498
      try replace hx498_0 := Sh.cw hx498_0
      try replace hx498_1 := Sh.cw hx498_1
      replace p498 := eq_true p498
      replace q498 := eq_true q498
      go_upto_if 42 with (first | ((with_reducible refine Sh.d 9 ?_); refine Sh.bx (N := 9) (cs := #[.int .i64 0, .int .u64 0]) (t := 79) (h := ?_); intro gb499 hg w10 hbox hb; replace HO_7 := am_ (Kd.R_below (Sh.rl HO_7.out) hb); have BK499 := am_ hbox; have GE499 := Sh.ag w hg; replace HB := Sh.hb hb; clear hb hbox hg; obtain ⟨hcz11_0, hcz11_1, hfz11_0, hfz11_1⟩ := Sh.b2 BK499.out; obtain ⟨Ao12, co12, eo12⟩ := Kd.R_slice HO_7.out; subst eo12))
      (try simp only [Act.put, List.setIfInBounds_toArray, List.set_cons_zero, List.set_cons_succ])
      go_cut [42] (fun v42 wc => ∃ (kq : Nat) (x42_8 : Bool), v42 = .bool x42_8 ∧ Aside0 (impl_valueOf.j1 kq a0 l2 x7_1 (wrap64 ((x7_1.length : Int) - 1)) l1 (l1.length : Int) x14_1 ((rd_T79 l1 x14_1).f0) x42_8 ((rd_T79 l1 x14_1).f0) ((rd_T79 l1 x14_1).f1) = some r) ∧ Aside0 (kq ≤ k1) ∧ Aside0 (Kd.R (Kd.int .u64) 77 wc w.heap.size (fun _ => True) (.slice Ao12 x7_1.length co12) x7_1) ∧ Aside0 (wc.heap[gb499]? = some (.cells #[.int .i64 ((rd_T79 l1 x14_1).f0), .int .u64 ((rd_T79 l1 x14_1).f1)] 79 (0, 0))) ∧ Aside0 (Below w.heap.size w wc))
      case first =>
       have H := HC9.out
       clear HC9
       by_cases c13 : ((rd_T79 l1 x14_1).f0) = 1
       ·rw [if_pos c13] at H
        have c13b0 : (((rd_T79 l1 x14_1).f0) == 1) = true := beq_iff_eq.mpr c13
        have c13b1 : (((rd_T79 l1 x14_1).f0) != 1) = false := bne_eq_false_iff_eq.mpr c13
        clear c13
        first | rw [c13b0] | (simp only [i64_w, i32_w]; rw [c13b0]) | skip
        have H' := am_ H
        clear H
        go_wp2
        go_meet
        case rel => exact ⟨_, ((((rd_T79 l1 x14_1).f0) == 1)), (Sh.es), H', ⟨by have := HK1.out; first | omega | exact Nat.le_refl _⟩, ⟨Sh.rl (Kd.R_mono (Kd.R_far (p := ⟨gb499, 1, none⟩) (Kd.R_far (p := ⟨gb499, 0, none⟩) (Kd.R_types HO_7.out BK499.out (by decide)) (fun _ hk => hk.2) (.int .i64 ((rd_T79 l1 x14_1).f0))) (fun _ hk => hk.2) (.int .u64 ((rd_T79 l1 x14_1).f1))) (fun _ hk => trivial))⟩, ⟨by refine Sh.pl ?_; refine blk_put (cs := #[.int .i64 ((rd_T79 l1 x14_1).f0), .int .u64 0]) ?_ 1 _ rfl; refine Sh.pl ?_; refine blk_put (cs := #[.int .i64 0, .int .u64 0]) ?_ 0 _ rfl; refine Sh.pl ?_; exact BK499.out⟩, ⟨Sh.bw⟩⟩
       ·rw [if_neg c13] at H
        have c13b0 : (((rd_T79 l1 x14_1).f0) == 1) = false := beq_eq_false_iff_ne.mpr c13
        have c13b1 : (((rd_T79 l1 x14_1).f0) != 1) = true := bne_iff_ne.mpr c13
        first | rw [c13b0] | (simp only [i64_w, i32_w]; rw [c13b0]) | skip
        have H' := am_ H
        clear H
        go_wp2
        go_meet
        case rel => exact ⟨_, ((((rd_T79 l1 x14_1).f0) == 20)), (Sh.es), H', ⟨by have := HK1.out; first | omega | exact Nat.le_refl _⟩, ⟨Sh.rl (Kd.R_mono (Kd.R_far (p := ⟨gb499, 1, none⟩) (Kd.R_far (p := ⟨gb499, 0, none⟩) (Kd.R_types HO_7.out BK499.out (by decide)) (fun _ hk => hk.2) (.int .i64 ((rd_T79 l1 x14_1).f0))) (fun _ hk => hk.2) (.int .u64 ((rd_T79 l1 x14_1).f1))) (fun _ hk => trivial))⟩, ⟨by refine Sh.pl ?_; refine blk_put (cs := #[.int .i64 ((rd_T79 l1 x14_1).f0), .int .u64 0]) ?_ 1 _ rfl; refine Sh.pl ?_; refine blk_put (cs := #[.int .i64 0, .int .u64 0]) ?_ 0 _ rfl; refine Sh.pl ?_; exact BK499.out⟩, ⟨Sh.bw⟩⟩
      case rest =>
       clear HC9
       try clear hx4
       try clear hcz11_0
       try clear hcz11_1
       try clear hfz11_0
       try clear hfz11_1
       try clear hx498_0
       try clear hx498_1
       obtain ⟨kq, x42_8, rfl, HA, HJ8, HO_7, BK499, HB⟩ := hcut
       cases kq with
       | zero => exact absurd HA.out (by simp [impl_valueOf.j1])
       | succ kj8 =>
        have H := HA.out
        clear HA
        simp only [impl_valueOf.j1] at H
        by_cases c14 : x42_8 = true
        ·subst c14
         rw [if_pos rfl] at H
         by_cases c15 : x7_1.length < 17592186044416
         ·rw [if_pos c15] at H
          have LMc15 := am_ c15
          clear c15
          obtain ⟨y500, hy500⟩ : ∃ y_ : List Int, y_ = (x7_1 ++ [((rd_T79 l1 x14_1).f1)]) := ⟨_, rfl⟩
          replace H : (impl_valueOf.l0 kj8 a0 l2 y500 l1 (l1.length : Int) (wrap64 (x14_1 + 1))) = some r := by first | (rw [hy500]; with_reducible exact H) | (have H2_ := (Option.bind_some _ _).symm.trans H; rw [hy500]; with_reducible exact H2_) | (have H2_ := (Option.bind_some _ _).symm.trans H; with_reducible exact H2_) | with_reducible exact H | (rw [hy500]; exact H) | exact H
          have Ny500 := am_ hy500
          clear hy500
          have H' := am_ H
          clear H
          have hcz16_0 := Sh.bc BK499.out 0
          have hcz16_1 := Sh.bc BK499.out 1
          have hfz16_0 := blk_frozen BK499.out 0
          have hfz16_1 := blk_frozen BK499.out 1
          go_wp2_with (first | ((with_reducible refine gate_builtin (b := .append) (xs := #[.tmp 45, .tmp 48]) rfl ?_); at_builtin; refine Kd.R_append (Kd.int .u64) (w0 := w) w.heap.size rfl (.tmp 45) (.tmp 48) 71 77 (.int .u64 0) 8 rfl Tryz.underlying71 info77 rfl (by decide) (by omega) (.slice Ao12 x7_1.length co12) x7_1 ((rd_T79 l1 x14_1).f1) [.int .u64 ((rd_T79 l1 x14_1).f1)] (fun _ => True) (fun _ => False) rfl rfl ?aP (fun _ hk => hk.elim) ?aF ?aO ?aB ?aS ?aL ?_; (case aP => exact rfl); (case aB => exact Sh.bw); (case aF => exact (fun _ _ => trivial)); (case aO => exact (Sh.rl HO_7.out)); (case aS => exact (below_size Sh.bw)); (case aL => have := LMc15.out; omega); intro v501 w17 ho hb hg hat; rw [← Ny500.out] at ho; have n0_ := am_ (blk_grown (g := gb499) (o := .cells #[.int .i64 ((rd_T79 l1 x14_1).f0), .int .u64 ((rd_T79 l1 x14_1).f1)] 79 (0, 0)) (Sh.pl BK499.out) hg (Kd.R_ne HO_7.out BK499.out (by decide))); have n1_ := am_ hb; have n2_ := am_ ho; clear BK499; clear HB; clear HO_7; have BK499 := n0_; have HB := n1_; have HO502 := n2_; clear n0_ n1_ n2_; clear ho hb hg hat))
          go_roundg kj8
          case measure => have := HK1.out; have := HJ8.out; omega
          case rel => exact ⟨(y500), (wrap64 (x14_1 + 1)), (Sh.es), H', ⟨by have := HK1.out; have := HJ8.out; omega⟩, ⟨Sh.rl HO502.out⟩, ⟨Sh.bw⟩⟩
         ·rw [if_neg c15] at H
          cases H
        ·replace c14 := Bool.eq_false_iff.mpr c14
         subst c14
         rw [Sh.nf] at H
         by_cases c18 : ((rd_T79 l1 x14_1).f0) = 2
         ·rw [if_pos c18] at H
          have c18b0 : (((rd_T79 l1 x14_1).f0) == 2) = true := beq_iff_eq.mpr c18
          have c18b1 : (((rd_T79 l1 x14_1).f0) != 2) = false := bne_eq_false_iff_eq.mpr c18
          clear c18
          by_cases c19 : 0 ≤ ((rd_T79 l1 x14_1).f1)
          ·rw [if_pos c19] at H
           replace c19 := decide_eq_true c19
           by_cases c20 : ((rd_T79 l1 x14_1).f1) < (l2.length : Int)
           ·rw [if_pos c20] at H
            replace c20 := decide_eq_true c20
            by_cases c21 : x7_1.length < 17592186044416
            ·rw [if_pos c21] at H
             have LMc21 := am_ c21
             clear c21
             obtain ⟨y504, hy504⟩ : ∃ y_ : List Int, y_ = (x7_1 ++ [rd l2 ((rd_T79 l1 x14_1).f1)]) := ⟨_, rfl⟩
             replace H : (impl_valueOf.l0 kj8 a0 l2 y504 l1 (l1.length : Int) (wrap64 (x14_1 + 1))) = some r := by first | (rw [hy504]; with_reducible exact H) | (have H2_ := (Option.bind_some _ _).symm.trans H; rw [hy504]; with_reducible exact H2_) | (have H2_ := (Option.bind_some _ _).symm.trans H; with_reducible exact H2_) | with_reducible exact H | (rw [hy504]; exact H) | exact H
             have Ny504 := am_ hy504
             clear hy504
             have H' := am_ H
             clear H
             have hcz22_0 := Sh.bc BK499.out 0
             have hcz22_1 := Sh.bc BK499.out 1
             have hfz22_0 := blk_frozen BK499.out 0
             have hfz22_1 := blk_frozen BK499.out 1
             have p503 : 0 ≤ (((rd_T79 l1 x14_1).f1) : Int) := Sh.od
             have q503 : ((rd_T79 l1 x14_1).f1) < (l2.length : Int) := Sh.od
             obtain ⟨ad503, e503, hx503_0⟩ := Kd.at_int HR2.out ((rd_T79 l1 x14_1).f1) p503 q503
             cases e503
             try replace hx503_0 := Sh.cw hx503_0
             replace p503 := eq_true p503
             replace q503 := eq_true q503
             go_wp2_with (first | ((with_reducible refine gate_builtin (b := .append) (xs := #[.tmp 52, .tmp 58]) rfl ?_); at_builtin; refine Kd.R_append (Kd.int .u64) (w0 := w) w.heap.size rfl (.tmp 52) (.tmp 58) 71 77 (.int .u64 0) 8 rfl Tryz.underlying71 info77 rfl (by decide) (by omega) (.slice Ao12 x7_1.length co12) x7_1 (rd l2 ((rd_T79 l1 x14_1).f1)) [.int .u64 (rd l2 ((rd_T79 l1 x14_1).f1))] (fun _ => True) (fun _ => False) rfl rfl ?aP (fun _ hk => hk.elim) ?aF ?aO ?aB ?aS ?aL ?_; (case aP => exact rfl); (case aB => exact Sh.bw); (case aF => exact (fun _ _ => trivial)); (case aO => exact (Sh.rl HO_7.out)); (case aS => exact (below_size Sh.bw)); (case aL => have := LMc21.out; omega); intro v505 w23 ho hb hg hat; rw [← Ny504.out] at ho; have n0_ := am_ (blk_grown (g := gb499) (o := .cells #[.int .i64 ((rd_T79 l1 x14_1).f0), .int .u64 ((rd_T79 l1 x14_1).f1)] 79 (0, 0)) (Sh.pl BK499.out) hg (Kd.R_ne HO_7.out BK499.out (by decide))); have n1_ := am_ hb; have n2_ := am_ ho; clear BK499; clear HB; clear HO_7; have BK499 := n0_; have HB := n1_; have HO506 := n2_; clear n0_ n1_ n2_; clear ho hb hg hat))
             go_roundg kj8
             case measure => have := HK1.out; have := HJ8.out; omega
             case rel => exact ⟨(y504), (wrap64 (x14_1 + 1)), (Sh.es), H', ⟨by have := HK1.out; have := HJ8.out; omega⟩, ⟨Sh.rl HO506.out⟩, ⟨Sh.bw⟩⟩
            ·rw [if_neg c21] at H
             cases H
           ·rw [if_neg c20] at H
            cases H
          ·rw [if_neg c19] at H
           cases H
         ·rw [if_neg c18] at H
          have c18b0 : (((rd_T79 l1 x14_1).f0) == 2) = false := beq_eq_false_iff_ne.mpr c18
          have c18b1 : (((rd_T79 l1 x14_1).f0) != 2) = true := bne_iff_ne.mpr c18
          by_cases c24 : ((rd_T79 l1 x14_1).f0) = 13
          ·rw [if_pos c24] at H
           have c24b0 : (((rd_T79 l1 x14_1).f0) == 13) = true := beq_iff_eq.mpr c24
           have c24b1 : (((rd_T79 l1 x14_1).f0) != 13) = false := bne_eq_false_iff_eq.mpr c24
           clear c24
           obtain ⟨ji25, hj1⟩ : ∃ j_ : Int, (wrap64 ((x7_1.length : Int) - 1)) = j_ := ⟨_, rfl⟩
           replace H : (if 0 ≤ (ji25) then (if (ji25) < (x7_1.length : Int) then ((impl_mask.f a0).bind fun t508 => (impl_valueOf.l0 kj8 a0 l2 (x7_1.set ((ji25) : Int).toNat (Go.bits .and .u64 (Go.bits .xor .u64 18446744073709551615 (rd x7_1 (ji25))) t508)) l1 (l1.length : Int) (wrap64 (x14_1 + 1)))) else (none)) else (none)) = some r := by first | (rw [hj1] at H; exact H) | (simp only [hj1] at H ⊢; exact H)
           have hji25w : (IntKind.i64.wrap ((x7_1.length : Int) - 1)) = ji25 := (i64_w _).trans hj1
           by_cases c26 : 0 ≤ (ji25)
           ·rw [if_pos c26] at H
            replace c26 := decide_eq_true c26
            by_cases c27 : (ji25) < (x7_1.length : Int)
            ·rw [if_pos c27] at H
             replace c27 := decide_eq_true c27
             obtain ⟨t508, A28, H⟩ := Sh.ba H
             obtain ⟨y509, hy509⟩ : ∃ y_ : List Int, y_ = (x7_1.set ((ji25) : Int).toNat (Go.bits .and .u64 (Go.bits .xor .u64 18446744073709551615 (rd x7_1 (ji25))) t508)) := ⟨_, rfl⟩
             replace H : (impl_valueOf.l0 kj8 a0 l2 y509 l1 (l1.length : Int) (wrap64 (x14_1 + 1))) = some r := by first | (rw [hy509]; with_reducible exact H) | (have H2_ := (Option.bind_some _ _).symm.trans H; rw [hy509]; with_reducible exact H2_) | (have H2_ := (Option.bind_some _ _).symm.trans H; with_reducible exact H2_) | with_reducible exact H | (rw [hy509]; exact H) | exact H
             have Ny509 := am_ hy509
             clear hy509
             have H' := am_ H
             clear H
             try go_wp2
             replace HO_7 := am_ (Kd.R_drew HO_7.out)
             replace BK499 := am_ (blk_drew BK499.out)
             replace HB := am_ (below_drew1 HB.out)
             have p507 : 0 ≤ ((ji25) : Int) := Sh.od
             have q507 : (ji25) < (x7_1.length : Int) := Sh.od
             obtain ⟨ad507, e507, hx507_0⟩ := Kd.at_int (Kd.R_reads' HO_7.out).2.2 (ji25) p507 q507
             cases e507
             replace p507 := eq_true p507
             replace q507 := eq_true q507
             refine start_ (n := 12) (S := fun w' => w'.cell? (ad507.add ((ji25)).toNat) = some (.int .u64 (rd x7_1 (ji25)))) (ds := [11]) (Sh.nm 12 0) (by kernel_rfl) rfl rfl (hx507_0) (fun hHeld => ?_); refine with_tabW impl_valueOf.tab14 impl_valueOf.bits14 (fun HT_ HW_ => ?_)
             generalize wc.drew = w30 at HO_7 BK499 HB hx507_0 hHeld ⊢
             refine Sh.qA 0 ?_; refine Sh.qA 1 ?_; refine Sh.qA 2 ?_; refine Sh.qA 3 ?_; refine Sh.qA 4 ?_; refine Sh.qA 7 ?_; refine Sh.qT 5 hHeld ?_; refine Sh.qA 6 ?_
             refine Sh.oC 8 Tryz.func99 #[.int .i64 a0] fun K hK => ?_
             with_reducible refine (impl_mask.calls a0 t508 _ A28.out).mono ?_
             rintro e w' ⟨rfl, ⟨nd, rfl⟩⟩
             refine ⟨_, rfl, ?_⟩
             have p29 : 0 ≤ ((ji25) : Int) := Sh.od
             have q29 : ((ji25) : Int) < ((x7_1.length : Int) : Int) := Sh.od
             obtain ⟨go29, co29, eo29, gb29, gl29, cl29, HG29⟩ := Kd.R_form HO_7.out (by omega)
             (first | cases eo29 | (injection eo29 with ea_ en_ ec_; (first | subst ea_ | (injection ea_ with ea_; subst ea_)); subst ec_; clear en_))
             have GB29 := am_ gb29
             have GG29 := am_ HG29
             clear gb29 gl29 HG29
             (first | simp only [add_plain] at hx507_0 | skip)
             obtain ⟨hx29_0, hf29_0⟩ := Kd.R_celln 0 HO_7.out ((ji25) : Int) p29 q29
             replace p29 := eq_true p29
             replace q29 := eq_true q29
             have HP31 := Kd.R_putn HO_7.out ((ji25) : Int) (Go.bits .and .u64 (Go.bits .xor .u64 18446744073709551615 (rd x7_1 (ji25))) t508)
             rw [← Ny509.out] at HP31
             have HQ31 := am_ HP31
             clear HP31
             refine hK.out _ _ (hHeld) (fun hHeld => ?_)
             clear hK K
             refine norm_ (a' := ?_) ?_ ?_
             rotate_left
             ·show Act.put _ (some 70) _ = _
              simp only [Act.put, List.setIfInBounds_toArray, List.set_cons_zero, List.set_cons_succ, i64_w, i32_w, hj1]
              rfl
             refine Sh.qA 9 ?_; refine Sh.qA 10 ?_
             refine last_ (i := 11) (N := none) (Sh.nm 12 4095) rfl rfl (one_of HT_.out (by kernel_rfl)) (by decide) (fun K hK => ?_)
             refine skip_ (w1 := ?_) (by rfl) rfl ?_ ?_
             rotate_left
             ·go_simp
              rfl
             refine hK.out _ _ ?_
             clear hK K
             refine done_ (done_of HT_.out (by kernel_rfl)) ?_
             try go_wp2
             go_roundg kj8
             case measure => have := HK1.out; have := HJ8.out; omega
             case rel => exact ⟨(y509), (wrap64 (x14_1 + 1)), (Sh.es), H', ⟨by have := HK1.out; have := HJ8.out; omega⟩, ⟨by (with_reducible repeat (first | apply Kd.R_alloc | apply Kd.R_drewN | apply Kd.R_drew)); exact HQ31.out⟩, ⟨Sh.bw⟩⟩
            ·rw [if_neg c27] at H
             cases H
           ·rw [if_neg c26] at H
            cases H
          ·rw [if_neg c24] at H
           have c24b0 : (((rd_T79 l1 x14_1).f0) == 13) = false := beq_eq_false_iff_ne.mpr c24
           have c24b1 : (((rd_T79 l1 x14_1).f0) != 13) = true := bne_iff_ne.mpr c24
           by_cases c32 : ((rd_T79 l1 x14_1).f0) = 19
           ·rw [if_pos c32] at H
            have c32b0 : (((rd_T79 l1 x14_1).f0) == 19) = true := beq_iff_eq.mpr c32
            have c32b1 : (((rd_T79 l1 x14_1).f0) != 19) = false := bne_eq_false_iff_eq.mpr c32
            clear c32
            obtain ⟨ji33, hj2⟩ : ∃ j_ : Int, (wrap64 ((x7_1.length : Int) - 1)) = j_ := ⟨_, rfl⟩
            replace H : (if 0 ≤ (ji33) then (if (ji33) < (x7_1.length : Int) then (impl_valueOf.l0 kj8 a0 l2 (x7_1.set ((ji33) : Int).toNat (IntKind.u64.wrap (1 - (rd x7_1 (ji33))))) l1 (l1.length : Int) (wrap64 (x14_1 + 1))) else (none)) else (none)) = some r := by first | (rw [hj2] at H; exact H) | (simp only [hj2] at H ⊢; exact H)
            have hji33w : (IntKind.i64.wrap ((x7_1.length : Int) - 1)) = ji33 := (i64_w _).trans hj2
            by_cases c34 : 0 ≤ (ji33)
            ·rw [if_pos c34] at H
             replace c34 := decide_eq_true c34
             by_cases c35 : (ji33) < (x7_1.length : Int)
             ·rw [if_pos c35] at H
              replace c35 := decide_eq_true c35
              obtain ⟨y511, hy511⟩ : ∃ y_ : List Int, y_ = (x7_1.set ((ji33) : Int).toNat (IntKind.u64.wrap (1 - (rd x7_1 (ji33))))) := ⟨_, rfl⟩
              replace H : (impl_valueOf.l0 kj8 a0 l2 y511 l1 (l1.length : Int) (wrap64 (x14_1 + 1))) = some r := by first | (rw [hy511]; with_reducible exact H) | (have H2_ := (Option.bind_some _ _).symm.trans H; rw [hy511]; with_reducible exact H2_) | (have H2_ := (Option.bind_some _ _).symm.trans H; with_reducible exact H2_) | with_reducible exact H | (rw [hy511]; exact H) | exact H
              have Ny511 := am_ hy511
              clear hy511
              have H' := am_ H
              clear H
              have p510 : 0 ≤ ((ji33) : Int) := Sh.od
              have q510 : (ji33) < (x7_1.length : Int) := Sh.od
              obtain ⟨ad510, e510, hx510_0⟩ := Kd.at_int (Kd.R_reads' HO_7.out).2.2 (ji33) p510 q510
              cases e510
              replace p510 := eq_true p510
              replace q510 := eq_true q510
              have p36 : 0 ≤ ((ji33) : Int) := Sh.od
              have q36 : ((ji33) : Int) < ((x7_1.length : Int) : Int) := Sh.od
              obtain ⟨go36, co36, eo36, gb36, gl36, cl36, HG36⟩ := Kd.R_form HO_7.out (by omega)
              (first | cases eo36 | (injection eo36 with ea_ en_ ec_; (first | subst ea_ | (injection ea_ with ea_; subst ea_)); subst ec_; clear en_))
              have GB36 := am_ gb36
              have GG36 := am_ HG36
              clear gb36 gl36 HG36
              (first | simp only [add_plain] at hx510_0 | skip)
              obtain ⟨hx36_0, hf36_0⟩ := Kd.R_celln 0 HO_7.out ((ji33) : Int) p36 q36
              replace p36 := eq_true p36
              replace q36 := eq_true q36
              have HP37 := Kd.R_putg HO_7.out ((ji33) : Int) (IntKind.u64.wrap (1 - (rd x7_1 (ji33))))
              go_wp2_with (first | ((with_reducible refine gate_store (t := 77) (p := 82) rfl ?_); refine store_event (t := 77) (p := 82) (v := ?vo_w38) (w1 := (wc.setCell ⟨go36, ((ji33) : Int).toNat, none⟩ (.int .u64 (IntKind.u64.wrap (1 - (rd x7_1 (ji33))))))) ?hg ?ho ?hn ?hr ?_; (case ho => rfl); (case hg => rfl); (case hn => rfl); (case hr => first | (go_simp; done) | (go_simp; rfl)); intro w38 hw; have hg : wc.grownBy w38 (some go36) := (by rw [hw]; exact HP37.2); have hp_ : Kd.R (Kd.int .u64) 77 w38 w.heap.size (fun _ => True) (.slice (some ⟨go36, 0, none⟩) x7_1.length co12) y511 := (by rw [hw, Ny511.out]; exact HP37.1); clear HP37; replace BK499 := am_ (blk_grown (g := gb499) (o := .cells #[.int .i64 ((rd_T79 l1 x14_1).f0), .int .u64 ((rd_T79 l1 x14_1).f1)] 79 (0, 0)) (Sh.pl BK499.out) hg (Kd.R_ne HO_7.out BK499.out (by decide))); replace HO_7 := am_ hp_; replace HB := am_ ((by rw [hw]; exact below_set (HB.out) GB36.out : Below w.heap.size w w38)); clear hg hw hp_))
              go_roundg kj8
              case measure => have := HK1.out; have := HJ8.out; omega
              case rel => exact ⟨(y511), (wrap64 (x14_1 + 1)), (Sh.es), H', ⟨by have := HK1.out; have := HJ8.out; omega⟩, ⟨Sh.rl HO_7.out⟩, ⟨Sh.bw⟩⟩
             ·rw [if_neg c35] at H
              cases H
            ·rw [if_neg c34] at H
             cases H
           ·rw [if_neg c32] at H
            have c32b0 : (((rd_T79 l1 x14_1).f0) == 19) = false := beq_eq_false_iff_ne.mpr c32
            have c32b1 : (((rd_T79 l1 x14_1).f0) != 19) = true := bne_iff_ne.mpr c32
            obtain ⟨ji39, hj3⟩ : ∃ j_ : Int, (wrap64 ((wrap64 ((x7_1.length : Int) - 1)) - 1)) = j_ := ⟨_, rfl⟩
            replace H : (if 0 ≤ (ji39) then (if (ji39) < (x7_1.length : Int) then (if 0 ≤ (wrap64 ((x7_1.length : Int) - 1)) then (if (wrap64 ((x7_1.length : Int) - 1)) < (x7_1.length : Int) then (if (ji39) ≤ (x7_1.length : Int) then ((some (x7_1.take ((ji39) : Int).toNat : List Int)).bind fun y514 => ((impl_apply.f kj8 a0 ((rd_T79 l1 x14_1).f0) (rd x7_1 (ji39)) (rd x7_1 (wrap64 ((x7_1.length : Int) - 1)))).bind fun t517 => (if y514.length < 17592186044416 then (impl_valueOf.l0 kj8 a0 l2 (y514 ++ [t517]) l1 (l1.length : Int) (wrap64 (x14_1 + 1))) else (none)))) else (none)) else (none)) else (none)) else (none)) else (none)) = some r := by first | (rw [hj3] at H; exact H) | (simp only [hj3] at H ⊢; exact H)
            have hji39w : (IntKind.i64.wrap ((wrap64 ((x7_1.length : Int) - 1)) - 1)) = ji39 := (i64_w _).trans hj3
            by_cases c40 : 0 ≤ (ji39)
            ·rw [if_pos c40] at H
             replace c40 := decide_eq_true c40
             by_cases c41 : (ji39) < (x7_1.length : Int)
             ·rw [if_pos c41] at H
              replace c41 := decide_eq_true c41
              obtain ⟨ji42, hj4⟩ : ∃ j_ : Int, (wrap64 ((x7_1.length : Int) - 1)) = j_ := ⟨_, rfl⟩
              have hj5 := hj3; (try rw [hj4] at hj5)
              replace H : (if 0 ≤ (ji42) then (if (ji42) < (x7_1.length : Int) then (if (ji39) ≤ (x7_1.length : Int) then ((some (x7_1.take ((ji39) : Int).toNat : List Int)).bind fun y514 => ((impl_apply.f kj8 a0 ((rd_T79 l1 x14_1).f0) (rd x7_1 (ji39)) (rd x7_1 (ji42))).bind fun t517 => (if y514.length < 17592186044416 then (impl_valueOf.l0 kj8 a0 l2 (y514 ++ [t517]) l1 (l1.length : Int) (wrap64 (x14_1 + 1))) else (none)))) else (none)) else (none)) else (none)) = some r := by first | (rw [hj4] at H; exact H) | (simp only [hj4] at H ⊢; exact H)
              have hji42w : (IntKind.i64.wrap ((x7_1.length : Int) - 1)) = ji42 := (i64_w _).trans hj4
              by_cases c43 : 0 ≤ (ji42)
              ·rw [if_pos c43] at H
               replace c43 := decide_eq_true c43
               by_cases c44 : (ji42) < (x7_1.length : Int)
               ·rw [if_pos c44] at H
                replace c44 := decide_eq_true c44
                by_cases c45 : (ji39) ≤ (x7_1.length : Int)
                ·rw [if_pos c45] at H
                 have c45b0 := eq_true c45
                 have c45b1 := decide_eq_true c45
                 clear c45
                 obtain ⟨y514, hy514⟩ : ∃ y_ : List Int, y_ = (x7_1.take ((ji39) : Int).toNat) := ⟨_, rfl⟩
                 replace H : ((impl_apply.f kj8 a0 ((rd_T79 l1 x14_1).f0) (rd x7_1 (ji39)) (rd x7_1 (ji42))).bind fun t517 => (if y514.length < 17592186044416 then (impl_valueOf.l0 kj8 a0 l2 (y514 ++ [t517]) l1 (l1.length : Int) (wrap64 (x14_1 + 1))) else (none))) = some r := by first | (rw [hy514]; with_reducible exact H) | (have H2_ := (Option.bind_some _ _).symm.trans H; rw [hy514]; with_reducible exact H2_) | (have H2_ := (Option.bind_some _ _).symm.trans H; with_reducible exact H2_) | with_reducible exact H | (rw [hy514]; exact H) | exact H
                 have Ny514 := am_ hy514
                 clear hy514
                 obtain ⟨t517, A46, H⟩ := Sh.ba H
                 by_cases c47 : y514.length < 17592186044416
                 ·rw [if_pos c47] at H
                  have LMc47 := am_ c47
                  clear c47
                  obtain ⟨y518, hy518⟩ : ∃ y_ : List Int, y_ = (y514 ++ [t517]) := ⟨_, rfl⟩
                  replace H : (impl_valueOf.l0 kj8 a0 l2 y518 l1 (l1.length : Int) (wrap64 (x14_1 + 1))) = some r := by first | (rw [hy518]; with_reducible exact H) | (have H2_ := (Option.bind_some _ _).symm.trans H; rw [hy518]; with_reducible exact H2_) | (have H2_ := (Option.bind_some _ _).symm.trans H; with_reducible exact H2_) | with_reducible exact H | (rw [hy518]; exact H) | exact H
                  have Ny518 := am_ hy518
                  clear hy518
                  have H' := am_ H
                  clear H
                  try go_wp2
                  replace HO_7 := am_ (Kd.R_drew HO_7.out)
                  replace BK499 := am_ (blk_drew BK499.out)
                  replace HB := am_ (below_drew1 HB.out)
                  have p512 : 0 ≤ ((ji39) : Int) := Sh.od
                  have q512 : (ji39) < (x7_1.length : Int) := Sh.od
                  obtain ⟨ad512, e512, hx512_0⟩ := Kd.at_int (Kd.R_reads' HO_7.out).2.2 (ji39) p512 q512
                  cases e512
                  replace p512 := eq_true p512
                  replace q512 := eq_true q512
                  have p513 : 0 ≤ ((ji42) : Int) := Sh.od
                  have q513 : (ji42) < (x7_1.length : Int) := Sh.od
                  obtain ⟨ad513, e513, hx513_0⟩ := Kd.at_int (Kd.R_reads' HO_7.out).2.2 (ji42) p513 q513
                  obtain rfl : ad512 = ad513 := (by injection e513)
                  replace p513 := eq_true p513
                  replace q513 := eq_true q513
                  have q49 : ((ji39) : Int) ≤ ((x7_1.length : Int) : Int) := Sh.od
                  obtain ⟨i049, hi049, _, hsz49, _⟩ := info_parts info77
                  have hcut49 := cut_to (P := Tryz.prog) 71 77 .i64 Tryz.underlying71 hi049 (some ad512) x7_1.length co12 (ji39) (of_decide_eq_true (by first | (with_reducible assumption) | assumption)) q49 (Kd.R_reads' HO_7.out).2.1
                  have hr49 := Kd.R_take (m := ((ji39) : Int).toNat) HO_7.out (by omega)
                  have hy49 : y514.length = ((ji39) : Int).toNat := (by rw [Ny514.out, List.length_take]; omega)
                  rw [← Ny514.out] at hr49
                  rw [← hy49] at hr49 hcut49
                  clear hy49 hi049 hsz49 HO_7
                  have HO516 := am_ hr49
                  clear hr49
                  replace q49 := eq_true q49
                  refine start_ (n := 20) (S := fun w' => w'.cell? ⟨gb499, 0, none⟩ = some (.int .i64 ((rd_T79 l1 x14_1).f0)) ∧ w'.cell? ⟨gb499, 1, none⟩ = some (.int .u64 ((rd_T79 l1 x14_1).f1)) ∧ w'.cell? (ad512.add ((ji39)).toNat) = some (.int .u64 (rd x7_1 (ji39))) ∧ w'.cell? (ad512.add ((ji42)).toNat) = some (.int .u64 (rd x7_1 (ji42)))) (ds := [17, 18]) (Sh.nm 20 0) (by kernel_rfl) rfl rfl ⟨(blk_cell BK499.out 0).trans rfl, (blk_cell BK499.out 1).trans rfl, hx512_0, hx513_0⟩ (fun hHeld => ?_); refine with_tabW impl_valueOf.tab7 impl_valueOf.bits7 (fun HT_ HW_ => ?_)
                  generalize wc.drew = w48 at HO_7 BK499 HB HO516 hx512_0 hx513_0 hHeld ⊢
                  refine Sh.qA 0 ?_; refine Sh.qA 1 ?_; refine Sh.qA 2 ?_; refine Sh.qA 3 ?_; refine Sh.qA 4 ?_; refine Sh.qA 5 ?_; refine Sh.qA 7 ?_; refine Sh.qA 8 ?_; refine Sh.qA 9 ?_; refine Sh.qA 10 ?_; refine Sh.qA 12 ?_; refine Sh.qA 13 ?_; refine Sh.qA 14 ?_; refine Sh.qT 6 hHeld ?_; refine Sh.qT 11 hHeld ?_; refine Sh.qT 15 hHeld ?_
                  refine one_ (i := 16) (N := some 39) (Sh.nm 20 131071) rfl rfl (one_of HT_.out (by kernel_rfl)) (by decide) (fun K hK => ?_)
                  refine goes_ Tryz.func117 (by kernel_rfl) rfl #[.int .i64 a0, .int .i64 ((rd_T79 l1 x14_1).f0), .int .u64 (rd x7_1 (ji39)), .int .u64 (rd x7_1 (ji42))] (by rfl) rfl rfl (by (try simp only [List.map_toArray, List.map_cons, List.map_nil]); first | done | (simp only [hj3, hj4]; rfl) | rfl | (simp only [List.length_drop, List.length_take]; rfl)) ?_
                  with_reducible refine (impl_apply.calls kj8 a0 ((rd_T79 l1 x14_1).f0) (rd x7_1 (ji39)) (rd x7_1 (ji42)) t517 _ A46.out).mono ?_
                  rintro e w' ⟨rfl, ⟨nd, rfl⟩⟩
                  refine ⟨_, rfl, ?_⟩
                  refine Sh.kN hK ⟨(blk_cell BK499.out 0).trans rfl, (blk_cell BK499.out 1).trans rfl, hHeld.2.2.1, hHeld.2.2.2⟩ fun hHeld => ?_
                  clear hK K
                  refine last_ (i := 17) (N := some 40) (Sh.nm 20 262143) rfl rfl (one_of HT_.out (by kernel_rfl)) (by decide) (fun K hK => ?_)
                  refine value_ (w1 := ?_) (v := ?_) (by rfl) rfl ?_ ?_
                  rotate_left 2
                  ·go_simp
                   constructor
                   ·rfl
                   ·rfl
                  refine Sh.kM hK ?_
                  clear hK K
                  refine last_ (i := 18) (N := some 41) (Sh.nm 20 524287) rfl rfl (one_of HT_.out (by kernel_rfl)) (by decide) (fun K hK => ?_)
                  refine Kd.R_append_step (Kd.int .u64) (w0 := w) w.heap.size (by rfl) (.tmp 26) (.tmp 40) 71 77 (.int .u64 0) 8 rfl Tryz.underlying71 info77 rfl (by decide) (by omega) (.slice (some ad512) y514.length co12) y514 t517 [.int .u64 t517] (fun _ => True) (fun _ => False) rfl rfl ?aP (fun _ hk => hk.elim) ?aF ?aO ?aB ?aS ?aL ?_
                  (case aP => exact rfl)
                  (case aB => exact Sh.bw)
                  (case aF => exact (fun _ _ => trivial))
                  (case aO => exact (Sh.rl HO516.out))
                  (case aS => exact (below_size Sh.bw))
                  (case aL => have := LMc47.out; omega)
                  intro v519 w50 ho hb hg hat
                  rw [← Ny518.out] at ho
                  have n0_ := am_ (blk_grown (g := gb499) (o := .cells #[.int .i64 ((rd_T79 l1 x14_1).f0), .int .u64 ((rd_T79 l1 x14_1).f1)] 79 (0, 0)) (Sh.pl BK499.out) hg (Kd.R_ne HO516.out BK499.out (by decide)))
                  have n1_ := am_ hb
                  have n2_ := am_ ho
                  clear BK499
                  clear HB
                  clear HO516
                  have BK499 := n0_
                  have HB := n1_
                  have HO520 := n2_
                  clear n0_ n1_ n2_
                  clear ho hb hg hat
                  refine Sh.kM hK ?_
                  clear hK K
                  refine Sh.qA 19 ?_
                  refine done_ (done_of HT_.out (by kernel_rfl)) ?_
                  try go_wp2
                  go_roundg kj8
                  case measure => have := HK1.out; have := HJ8.out; omega
                  case rel => exact ⟨(y518), (wrap64 (x14_1 + 1)), (Sh.es), H', ⟨by have := HK1.out; have := HJ8.out; omega⟩, ⟨Sh.rl HO520.out⟩, ⟨Sh.bw⟩⟩
                 ·rw [if_neg c47] at H
                  cases H
                ·rw [if_neg c45] at H
                 cases H
               ·rw [if_neg c44] at H
                cases H
              ·rw [if_neg c43] at H
               cases H
             ·rw [if_neg c41] at H
              cases H
            ·rw [if_neg c40] at H
             cases H
     ·rw [if_neg c8] at H
      cases H
    ·rw [if_neg c7] at H
     cases H
   ·rw [if_neg c6] at H
    replace c6 := decide_eq_false c6
    by_cases c51 : 0 < (x7_1.length : Int)
    ·rw [if_pos c51] at H
     have c51b0 := decide_eq_true c51
     have c51b1 : decide (0 < x7_1.length) = true := decide_eq_true (by omega)
     clear c51
     obtain rfl := Option.some.inj H
     obtain ⟨Ao52, co52, eo52⟩ := Kd.R_slice HO_7.out
     subst eo52
     have p497 : 0 ≤ (0 : Int) := (by omega)
     have q497 : 0 < (x7_1.length : Int) := Sh.od
     obtain ⟨ad497, e497, hx497_0⟩ := Kd.at_int (Kd.R_reads' HO_7.out).2.2 0 p497 q497
     cases e497
     have qi497 : (0 < x7_1.length) = True := eq_true (by omega)
     (try rw [show ((0 : Int)).toNat = 0 from rfl] at hx497_0)
     (try rw [Addr.add_zero'] at hx497_0)
     replace p497 := eq_true p497
     replace q497 := eq_true q497
     go_wp2
     go_ret
     exact ⟨Sh.eR, Sh.bw⟩
    ·rw [if_neg c51] at H
     cases H
def impl_Program_holds.f (k : Nat) (a0_0 : Int) (a0_1 : Int) (l0_2 : List (S79)) (l0_3 : List (S95)) (l1 : List (S79)) (l2 : List Int) : Option (Bool) := (impl_valueOf.f k a0_0 l1 l2).bind fun t522 => (some (t522 == 1))
theorem impl_Program_holds.mono : ∀ a0 a1 a2 a3 a4 a5 k, LeO (impl_Program_holds.f k a0 a1 a2 a3 a4 a5) (impl_Program_holds.f (k + 1) a0 a1 a2 a3 a4 a5) := by
 intro a0 a1 a2 a3 a4 a5 k
 unfold impl_Program_holds.f
 repeat' with_reducible first | apply impl_valueOf.mono | exact LeO.refl _ | exact LeO.none _ | apply LeO.ite | refine LeO.bind ?_ fun _ => ?_
theorem impl_Program_holds.calls (k : Nat) (a0_0 : Int) (a0_1 : Int) (A0_2 : Option Addr) (c0_2 : Nat) (l0_2 : List (S79)) (A0_3 : Option Addr) (c0_3 : Nat) (l0_3 : List (S95)) (A1 : Option Addr) (c1 : Nat) (l1 : List (S79)) (A2 : Option Addr) (c2 : Nat) (l2 : List Int) (r : Bool) (w : World) (hr0_2 : Kd.C k79 w A0_2 l0_2.length l0_2) (hc0_2 : l0_2.length ≤ c0_2) (hr0_3 : Kd.C k95 w A0_3 l0_3.length l0_3) (hc0_3 : l0_3.length ≤ c0_3) (hr1 : Kd.C k79 w A1 l1.length l1) (hc1 : l1.length ≤ c1) (hr2 : Kd.C (Kd.int .u64) w A2 l2.length l2) (hc2 : l2.length ≤ c2) (h : impl_Program_holds.f k a0_0 a0_1 l0_2 l0_3 l1 l2 = some r) :
  Calls Tryz.prog 56 #[.agg #[.int .i64 a0_0, .int .i64 a0_1, .slice A0_2 l0_2.length c0_2, .slice A0_3 l0_3.length c0_3], .slice A1 l1.length c1, .slice A2 l2.length c2] w fun e w' => e = .returned (.bool r) ∧ Below w.heap.size w w' := by
 have hu33 := Tryz.underlying33
 have HR0_2 := am_ hr0_2
 have HC0_2 := am_ hc0_2
 clear hr0_2 hc0_2
 have HR0_3 := am_ hr0_3
 have HC0_3 := am_ hc0_3
 clear hr0_3 hc0_3
 have HR1 := am_ hr1
 have HC1 := am_ hc1
 clear hr1 hc1
 have HR2 := am_ hr2
 have HC2 := am_ hc2
 clear hr2 hc2
 have HB := am_ (Below.refl w.heap.size w)
 have H := h
 clear h
 unfold impl_Program_holds.f at H
 obtain ⟨t522, A4, H⟩ := Sh.ba H
 obtain rfl := Option.some.inj H
 go_enter Tryz.func56, Tryz.ntmps56
 go_wp2_with (first | ((with_reducible refine Sh.d 3 ?_); refine Sh.bz w (N := 3) (cs := #[.int .i64 a0_0, .int .i64 a0_1, .slice A0_2 l0_2.length c0_2, .slice A0_3 l0_3.length c0_3]) (t := 33) (h := ?_); clear HB; intro gb521 w5 BK521 GE521 HB; obtain ⟨hcz6_0, hcz6_1, hcz6_2, hcz6_3, hfz6_0, hfz6_1, hfz6_2, hfz6_3⟩ := Sh.b4 BK521.out) | ((with_reducible refine Sh.k 98 ?_); refine Sh.gB (some 11) Tryz.func98 #[.int .i64 a0_0, .slice A1 l1.length c1, .slice A2 l2.length c2] (impl_valueOf.calls k a0_0 _ _ l1 _ _ l2 t522 _ (Sh.cB HR1.out) HC1.out (Sh.cB HR2.out) HC2.out A4.out) fun w7 hb => ?_; replace BK521 := Sh.ab BK521 hb; replace HB := Sh.hb hb; (try clear hb); (try clear hk)))
 go_ret
 exact ⟨Sh.eR, Sh.bw⟩
def impl_Program_stateOf.l0 : Nat → Int → List Int → Int → Int → Int → Int → List (S79) → List (S95) → Option (List Int)
 | 0, _, _, _, _, _, _, _, _ => none
 | k + 1, x1, x5, x9, x10, x524000, x524001, x524002, x524003 => if x10 < x9 then (if 0 ≤ (wrap64 (x524000 * x10)) then ((impl_mask.f x524000).bind fun t527 => (if x5.length < 17592186044416 then (impl_Program_stateOf.l0 k x1 (x5 ++ [Go.bits .and .u64 (shr .u64 (IntKind.u64.wrap (x1)) (wrap64 (x524000 * x10))) t527]) x9 (wrap64 (x10 + 1)) x524000 x524001 x524002 x524003) else (none))) else (none)) else (some x5)
def impl_Program_stateOf.f (k : Nat) (a0_0 : Int) (a0_1 : Int) (l0_2 : List (S79)) (l0_3 : List (S95)) (a1 : Int) : Option (List Int) := impl_Program_stateOf.l0 k a1 (([] : List Int)) a0_1 0 a0_0 a0_1 l0_2 l0_3
theorem impl_Program_stateOf.mono_l : ∀ k, (∀ y0 y1 y2 y3 y4 y5 y6 y7, LeO (impl_Program_stateOf.l0 k y0 y1 y2 y3 y4 y5 y6 y7) (impl_Program_stateOf.l0 (k + 1) y0 y1 y2 y3 y4 y5 y6 y7))
 | 0 => fun _ _ _ _ _ _ _ _ r h => by simp [impl_Program_stateOf.l0] at h
 | k + 1 => by
  have ih0 := impl_Program_stateOf.mono_l k
  ·intro y0 y1 y2 y3 y4 y5 y6 y7
   unfold impl_Program_stateOf.l0
   repeat' with_reducible first | apply ih0 | exact LeO.refl _ | exact LeO.none _ | apply LeO.ite | refine LeO.bind ?_ fun _ => ?_
theorem impl_Program_stateOf.mono : ∀ a0 a1 a2 a3 a4 k, LeO (impl_Program_stateOf.f k a0 a1 a2 a3 a4) (impl_Program_stateOf.f (k + 1) a0 a1 a2 a3 a4) := by
 intro a0 a1 a2 a3 a4 k
 have ih0 := impl_Program_stateOf.mono_l k
 unfold impl_Program_stateOf.f
 repeat' with_reducible first | apply ih0 | exact LeO.refl _ | exact LeO.none _ | apply LeO.ite | refine LeO.bind ?_ fun _ => ?_
def impl_Program_stateOf.T5 : Bool × List (List Nat × List Nat) := (true, [([], []), ([], []), ([1], [1]), ([], []), ([3], [3]), ([], []), ([4, 5], [4, 5]), ([2, 6], [2, 6]), ([], []), ([8], [8]), ([9], [9]), ([7, 10], [7, 10]), ([11], [11]), ([0, 12, 10], [0, 12]), ([13, 13, 0, 1, 2, 3, 4, 5, 6, 7, 8, 9, 10, 11, 12, 13], [0, 13])])
def impl_Program_stateOf.B5 : List Nat := [0, 0, 2, 0, 8, 0, 56, 126, 0, 256, 768, 2046, 4094, 8191, 16383]
theorem impl_Program_stateOf.tab5 : rtab .any (opsOf Tryz.f57 5) = impl_Program_stateOf.T5 := by kernel_rfl
theorem impl_Program_stateOf.bits5 : waitsOk impl_Program_stateOf.T5.2 impl_Program_stateOf.B5 = true := by kernel_rfl
theorem impl_Program_stateOf.calls (k : Nat) (a0_0 : Int) (a0_1 : Int) (A0_2 : Option Addr) (c0_2 : Nat) (l0_2 : List (S79)) (A0_3 : Option Addr) (c0_3 : Nat) (l0_3 : List (S95)) (a1 : Int) (r : List Int) (w : World) (hr0_2 : Kd.C k79 w A0_2 l0_2.length l0_2) (hc0_2 : l0_2.length ≤ c0_2) (hr0_3 : Kd.C k95 w A0_3 l0_3.length l0_3) (hc0_3 : l0_3.length ≤ c0_3) (h : impl_Program_stateOf.f k a0_0 a0_1 l0_2 l0_3 a1 = some r) :
  Calls Tryz.prog 57 #[.agg #[.int .i64 a0_0, .int .i64 a0_1, .slice A0_2 l0_2.length c0_2, .slice A0_3 l0_3.length c0_3], .int .i64 a1] w fun e w' => ∃ v0_ : Value, e = .returned (v0_) ∧ Kd.R (Kd.int .u64) 77 w' w.heap.size (fun _ => True) v0_ r ∧ Below w.heap.size w w' := by
 have hu33 := Tryz.underlying33
 have HR0_2 := am_ hr0_2
 have HC0_2 := am_ hc0_2
 clear hr0_2 hc0_2
 have HR0_3 := am_ hr0_3
 have HC0_3 := am_ hc0_3
 clear hr0_3 hc0_3
 have HB := am_ (Below.refl w.heap.size w)
 have H := h
 clear h
 unfold impl_Program_stateOf.f at H
 obtain ⟨y524, hy524⟩ : ∃ y_ : List Int, y_ = (([] : List Int)) := ⟨_, rfl⟩
 replace H : (impl_Program_stateOf.l0 k a1 y524 a0_1 0 a0_0 a0_1 l0_2 l0_3) = some r := by first | (rw [hy524]; with_reducible exact H) | (have H2_ := (Option.bind_some _ _).symm.trans H; rw [hy524]; with_reducible exact H2_) | (have H2_ := (Option.bind_some _ _).symm.trans H; with_reducible exact H2_) | with_reducible exact H | (rw [hy524]; exact H) | exact H
 have Ny524 := am_ hy524
 clear hy524
 have H' := am_ H
 clear H
 go_enter Tryz.func57, Tryz.ntmps57
 go_wp2_with (first | ((with_reducible refine Sh.d 2 ?_); refine Sh.bz w (N := 2) (cs := #[.int .i64 a0_0, .int .i64 a0_1, .slice A0_2 l0_2.length c0_2, .slice A0_3 l0_3.length c0_3]) (t := 33) (h := ?_); clear HB; intro gb523 w3 BK523 GE523 HB) | ((with_reducible refine Sh.d 7 ?_); refine Kd.R_lit (Kd.int .u64) _ 77 ?hg (N := 7) ?hd (xs := ([] : List Int)) (inner := []) (ok := fun _ => True) (okp := fun _ => True) ?hr ?hp (fun _ hk => hk) trivial (Below.refl _ _) (Nat.le_refl _) (by simp) ?_; (case hd => rfl); (case hg => rfl); (case hr => first | (go_simp; done) | (go_simp; rfl)); (case hp => exact (Reps.none _ _)); intro v525 w4 ho5 hb hg_ hnew_; clear hg_ hnew_; (first | rw [← Ny524.out] at ho5 | (simp only [Int.reduceToNat] at ho5; rw [← Ny524.out] at ho5)); have HO526 := am_ (Kd.R_lower ho5 (below_size Sh.bw)); replace BK523 := Sh.ab BK523 hb; replace HB := Sh.hb hb; clear hb ho5; obtain ⟨hcz6_0, hcz6_1, hcz6_2, hcz6_3, hfz6_0, hfz6_1, hfz6_2, hfz6_3⟩ := Sh.b4 BK523.out))
 go_loopg [5, 10] k (fun kq v5 v10 w' => ∃ (x5_1 : List Int) (x10_1 : Int), v10 = .int .i64 x10_1 ∧ Aside0 (impl_Program_stateOf.l0 kq a1 x5_1 a0_1 x10_1 a0_0 a0_1 l0_2 l0_3 = some r) ∧ Aside0 (kq ≤ k) ∧ Aside0 (Kd.R (Kd.int .u64) 77 w' w.heap.size (fun _ => True) v5 x5_1) ∧ Aside0 (w'.heap[gb523]? = some (.cells #[.int .i64 a0_0, .int .i64 a0_1, (.slice A0_2 l0_2.length c0_2), (.slice A0_3 l0_3.length c0_3)] 33 (0, 0))) ∧ Aside0 (Below w.heap.size w w'))
 case atStart => exact ⟨(y524), (0), (Sh.es), H', ⟨Nat.le_refl _⟩, ⟨Sh.rl HO526.out⟩, ⟨by refine Sh.pl ?_; exact BK523.out⟩, ⟨Sh.bw⟩⟩
 case round =>
  clear H'
  try clear hcz6_0
  try clear hcz6_1
  try clear hcz6_2
  try clear hcz6_3
  try clear hfz6_0
  try clear hfz6_1
  try clear hfz6_2
  try clear hfz6_3
  obtain ⟨x5_1, x10_1, rfl, HA, HK1, HO_5, BK523, HB⟩ := hrel
  cases gk with
  | zero => exact absurd HA.out (by simp [impl_Program_stateOf.l0])
  | succ k1 =>
   have H := HA.out
   clear HA
   simp only [impl_Program_stateOf.l0] at H
   by_cases c7 : x10_1 < a0_1
   ·rw [if_pos c7] at H
    replace c7 := decide_eq_true c7
    obtain ⟨ji8, hj1⟩ : ∃ j_ : Int, (wrap64 (a0_0 * x10_1)) = j_ := ⟨_, rfl⟩
    replace H : (if 0 ≤ (ji8) then ((impl_mask.f a0_0).bind fun t527 => (if x5_1.length < 17592186044416 then (impl_Program_stateOf.l0 k1 a1 (x5_1 ++ [Go.bits .and .u64 (shr .u64 (IntKind.u64.wrap (a1)) (ji8)) t527]) a0_1 (wrap64 (x10_1 + 1)) a0_0 a0_1 l0_2 l0_3) else (none))) else (none)) = some r := by first | (rw [hj1] at H; exact H) | (simp only [hj1] at H ⊢; exact H)
    have hji8w : (IntKind.i64.wrap (a0_0 * x10_1)) = ji8 := (i64_w _).trans hj1
    by_cases c9 : 0 ≤ (ji8)
    ·rw [if_pos c9] at H
     have c9b0 := eq_true c9
     have c9b1 := decide_eq_true c9
     clear c9
     obtain ⟨ji10, hj2⟩ : ∃ j_ : Int, (shr .u64 (IntKind.u64.wrap (a1)) (ji8)) = j_ := ⟨_, rfl⟩
     have hj3 := hj1; (try rw [hj2] at hj3)
     replace H : ((impl_mask.f a0_0).bind fun t527 => (if x5_1.length < 17592186044416 then (impl_Program_stateOf.l0 k1 a1 (x5_1 ++ [Go.bits .and .u64 (ji10) t527]) a0_1 (wrap64 (x10_1 + 1)) a0_0 a0_1 l0_2 l0_3) else (none))) = some r := by first | (rw [hj2] at H; exact H) | (simp only [hj2] at H ⊢; exact H)
     have hji10_ : ((IntKind.u64.wrap (a1)) / 2 ^ min (ji8).toNat 64) = ji10 := hj2
     have hji10z : (ji8) ≤ 64 → ((IntKind.u64.wrap (a1)) / 2 ^ (ji8).toNat) = ji10 := shr_small hj2
     obtain ⟨t527, A11, H⟩ := Sh.ba H
     by_cases c12 : x5_1.length < 17592186044416
     ·rw [if_pos c12] at H
      have LMc12 := am_ c12
      clear c12
      obtain ⟨y528, hy528⟩ : ∃ y_ : List Int, y_ = (x5_1 ++ [Go.bits .and .u64 (ji10) t527]) := ⟨_, rfl⟩
      replace H : (impl_Program_stateOf.l0 k1 a1 y528 a0_1 (wrap64 (x10_1 + 1)) a0_0 a0_1 l0_2 l0_3) = some r := by first | (rw [hy528]; with_reducible exact H) | (have H2_ := (Option.bind_some _ _).symm.trans H; rw [hy528]; with_reducible exact H2_) | (have H2_ := (Option.bind_some _ _).symm.trans H; with_reducible exact H2_) | with_reducible exact H | (rw [hy528]; exact H) | exact H
      have Ny528 := am_ hy528
      clear hy528
      have H' := am_ H
      clear H
      try go_wp2
      replace HO_5 := am_ (Kd.R_drew HO_5.out)
      replace BK523 := am_ (blk_drew BK523.out)
      replace HB := am_ (below_drew1 HB.out)
      refine start_ (n := 15) (S := fun w' => w'.cell? ⟨gb523, 0, none⟩ = some (.int .i64 a0_0) ∧ w'.cell? ⟨gb523, 1, none⟩ = some (.int .i64 a0_1) ∧ w'.cell? ⟨gb523, 2, none⟩ = some (.slice A0_2 l0_2.length c0_2) ∧ w'.cell? ⟨gb523, 3, none⟩ = some (.slice A0_3 l0_3.length c0_3)) (ds := []) (Sh.nm 15 0) (by kernel_rfl) rfl rfl Sh.cs (fun hHeld => ?_); refine with_tabW impl_Program_stateOf.tab5 impl_Program_stateOf.bits5 (fun HT_ HW_ => ?_)
      generalize wr.drew = w13 at HO_5 BK523 HB hHeld ⊢
      refine Sh.qA 0 ?_; refine Sh.qA 1 ?_; refine Sh.qA 2 ?_; refine Sh.qA 3 ?_; refine Sh.qA 5 ?_; refine Sh.qA 8 ?_; refine Sh.qT 4 hHeld ?_; refine Sh.qA 6 ?_; refine Sh.qA 7 ?_; refine Sh.qT 9 hHeld ?_
      refine Sh.oC 10 Tryz.func99 #[.int .i64 a0_0] fun K hK => ?_
      with_reducible refine (impl_mask.calls a0_0 t527 _ A11.out).mono ?_
      rintro e w' ⟨rfl, ⟨nd, rfl⟩⟩
      refine ⟨_, rfl, ?_⟩
      refine Sh.kN hK Sh.cs fun hHeld => ?_
      clear hK K
      refine Sh.qA 11 ?_
      refine one_ (i := 12) (N := some 25) (Sh.nm 15 8191) rfl rfl (one_of HT_.out (by kernel_rfl)) (by decide) (fun K hK => ?_)
      refine value_ (w1 := ?_) (v := ?_) (by rfl) rfl ?_ ?_
      rotate_left 2
      ·go_simp
       constructor
       ·rfl
       ·rfl
      refine Sh.kN hK ⟨(blk_cell (blk_alloc BK523.out _) 0).trans rfl, (blk_cell (blk_alloc BK523.out _) 1).trans rfl, (blk_cell (blk_alloc BK523.out _) 2).trans rfl, (blk_cell (blk_alloc BK523.out _) 3).trans rfl⟩ fun hHeld => ?_
      clear hK K
      refine one_ (i := 13) (N := some 26) (Sh.nm 15 16383) rfl rfl (one_of HT_.out (by kernel_rfl)) (by decide) (fun K hK => ?_)
      refine Kd.R_append_step (Kd.int .u64) (w0 := w) w.heap.size (by rfl) (.tmp 13) (.tmp 25) 71 77 (.int .u64 0) 8 rfl Tryz.underlying71 info77 rfl (by decide) (by omega) u5 x5_1 (Go.bits .and .u64 (ji10) t527) [.int .u64 (Go.bits .and .u64 (ji10) t527)] (fun _ => True) (fun _ => False) rfl rfl ?aP (fun _ hk => hk.elim) ?aF ?aO ?aB ?aS ?aL ?_
      (case aP => exact rfl)
      (case aB => exact Sh.bw)
      (case aF => exact (fun _ _ => trivial))
      (case aO => exact (Sh.rl HO_5.out))
      (case aS => exact (below_size Sh.bw))
      (case aL => have := LMc12.out; omega)
      intro v529 w14 ho hb hg hat
      rw [← Ny528.out] at ho
      have n0_ := am_ (blk_grown (g := gb523) (o := .cells #[.int .i64 a0_0, .int .i64 a0_1, .slice A0_2 l0_2.length c0_2, .slice A0_3 l0_3.length c0_3] 33 (0, 0)) (Sh.pl BK523.out) hg (Kd.R_ne HO_5.out BK523.out (by decide)))
      have n1_ := am_ hb
      have n2_ := am_ ho
      clear BK523
      clear HB
      clear HO_5
      have BK523 := n0_
      have HB := n1_
      have HO530 := n2_
      clear n0_ n1_ n2_
      clear ho hb hg hat
      refine Sh.kN hK Sh.cs fun hHeld => ?_
      clear hK K
      refine Sh.qA 14 ?_
      refine done_ (done_of HT_.out (by kernel_rfl)) ?_
      try go_wp2
      go_roundg k1
      case measure => have := HK1.out; omega
      case rel => exact ⟨(y528), (wrap64 (x10_1 + 1)), (Sh.es), H', ⟨by have := HK1.out; omega⟩, ⟨Sh.rl HO530.out⟩, ⟨by refine Sh.pl ?_; exact BK523.out⟩, ⟨Sh.bw⟩⟩
     ·rw [if_neg c12] at H
      cases H
    ·rw [if_neg c9] at H
     cases H
   ·rw [if_neg c7] at H
    replace c7 := decide_eq_false c7
    obtain rfl := Option.some.inj H
    go_wp2
    go_ret
    exact ⟨_, Sh.eR, Sh.rl HO_5.out, Sh.bw⟩
def impl_Program_stateNo.l0 : Nat → Int → List Int → Int → Int → Int → Int → List (S79) → List (S95) → Option (Int)
 | 0, _, _, _, _, _, _, _, _ => none
 | k + 1, x5, x8, x9, x10, x532000, x532001, x532002, x532003 => if x10 < x9 then (if 0 ≤ x10 then (if x10 < (x8.length : Int) then (if 0 ≤ (wrap64 (x532000 * x10)) then (impl_Program_stateNo.l0 k (Go.bits .or .i64 x5 (shl .i64 (wrap64 (rd x8 x10)) (wrap64 (x532000 * x10)))) x8 x9 (wrap64 (x10 + 1)) x532000 x532001 x532002 x532003) else (none)) else (none)) else (none)) else (some x5)
def impl_Program_stateNo.f (k : Nat) (a0_0 : Int) (a0_1 : Int) (l0_2 : List (S79)) (l0_3 : List (S95)) (l1 : List Int) : Option (Int) := impl_Program_stateNo.l0 k 0 l1 (l1.length : Int) 0 a0_0 a0_1 l0_2 l0_3
theorem impl_Program_stateNo.mono_l : ∀ k, (∀ y0 y1 y2 y3 y4 y5 y6 y7, LeO (impl_Program_stateNo.l0 k y0 y1 y2 y3 y4 y5 y6 y7) (impl_Program_stateNo.l0 (k + 1) y0 y1 y2 y3 y4 y5 y6 y7))
 | 0 => fun _ _ _ _ _ _ _ _ r h => by simp [impl_Program_stateNo.l0] at h
 | k + 1 => by
  have ih0 := impl_Program_stateNo.mono_l k
  ·intro y0 y1 y2 y3 y4 y5 y6 y7
   unfold impl_Program_stateNo.l0
   repeat' with_reducible first | apply ih0 | exact LeO.refl _ | exact LeO.none _ | apply LeO.ite | refine LeO.bind ?_ fun _ => ?_
theorem impl_Program_stateNo.mono : ∀ a0 a1 a2 a3 a4 k, LeO (impl_Program_stateNo.f k a0 a1 a2 a3 a4) (impl_Program_stateNo.f (k + 1) a0 a1 a2 a3 a4) := by
 intro a0 a1 a2 a3 a4 k
 have ih0 := impl_Program_stateNo.mono_l k
 unfold impl_Program_stateNo.f
 repeat' with_reducible first | apply ih0 | exact LeO.refl _ | exact LeO.none _ | apply LeO.ite | refine LeO.bind ?_ fun _ => ?_
theorem impl_Program_stateNo.calls (k : Nat) (a0_0 : Int) (a0_1 : Int) (A0_2 : Option Addr) (c0_2 : Nat) (l0_2 : List (S79)) (A0_3 : Option Addr) (c0_3 : Nat) (l0_3 : List (S95)) (A1 : Option Addr) (c1 : Nat) (l1 : List Int) (r : Int) (w : World) (hr0_2 : Kd.C k79 w A0_2 l0_2.length l0_2) (hc0_2 : l0_2.length ≤ c0_2) (hr0_3 : Kd.C k95 w A0_3 l0_3.length l0_3) (hc0_3 : l0_3.length ≤ c0_3) (hr1 : Kd.C (Kd.int .u64) w A1 l1.length l1) (hc1 : l1.length ≤ c1) (h : impl_Program_stateNo.f k a0_0 a0_1 l0_2 l0_3 l1 = some r) :
  Calls Tryz.prog 89 #[.agg #[.int .i64 a0_0, .int .i64 a0_1, .slice A0_2 l0_2.length c0_2, .slice A0_3 l0_3.length c0_3], .slice A1 l1.length c1] w fun e w' => e = .returned (.int .i64 r) ∧ Below w.heap.size w w' := by
 have hu33 := Tryz.underlying33
 have HR0_2 := am_ hr0_2
 have HC0_2 := am_ hc0_2
 clear hr0_2 hc0_2
 have HR0_3 := am_ hr0_3
 have HC0_3 := am_ hc0_3
 clear hr0_3 hc0_3
 have HR1 := am_ hr1
 have HC1 := am_ hc1
 clear hr1 hc1
 have HB := am_ (Below.refl w.heap.size w)
 have H := h
 clear h
 unfold impl_Program_stateNo.f at H
 have H' := am_ H
 clear H
 go_enter Tryz.func89, Tryz.ntmps89
 go_wp2_with (first | ((with_reducible refine Sh.d 2 ?_); refine Sh.bz w (N := 2) (cs := #[.int .i64 a0_0, .int .i64 a0_1, .slice A0_2 l0_2.length c0_2, .slice A0_3 l0_3.length c0_3]) (t := 33) (h := ?_); clear HB; intro gb531 w3 BK531 GE531 HB))
 go_loopg [5, 10] k (fun kq v5 v10 w' => ∃ (x5_1 : Int) (x10_1 : Int), v5 = .int .i64 x5_1 ∧ v10 = .int .i64 x10_1 ∧ Aside0 (impl_Program_stateNo.l0 kq x5_1 l1 (l1.length : Int) x10_1 a0_0 a0_1 l0_2 l0_3 = some r) ∧ Aside0 (kq ≤ k) ∧ Aside0 (w'.heap[gb531]? = some (.cells #[.int .i64 a0_0, .int .i64 a0_1, (.slice A0_2 l0_2.length c0_2), (.slice A0_3 l0_3.length c0_3)] 33 (0, 0))) ∧ Aside0 (Below w.heap.size w w'))
 case atStart => exact ⟨(0), (0), (Sh.es), (Sh.es), H', ⟨Nat.le_refl _⟩, ⟨by refine Sh.pl ?_; exact BK531.out⟩, ⟨Sh.bw⟩⟩
 case round =>
  clear H'
  obtain ⟨x5_1, x10_1, rfl, rfl, HA, HK1, BK531, HB⟩ := hrel
  cases gk with
  | zero => exact absurd HA.out (by simp [impl_Program_stateNo.l0])
  | succ k1 =>
   have H := HA.out
   clear HA
   simp only [impl_Program_stateNo.l0] at H
   by_cases c4 : x10_1 < (l1.length : Int)
   ·rw [if_pos c4] at H
    replace c4 := decide_eq_true c4
    by_cases c5 : 0 ≤ x10_1
    ·rw [if_pos c5] at H
     replace c5 := decide_eq_true c5
     by_cases c6 : x10_1 < (l1.length : Int)
     ·rw [if_pos c6] at H
      replace c6 := decide_eq_true c6
      obtain ⟨ji7, hj1⟩ : ∃ j_ : Int, (wrap64 (a0_0 * x10_1)) = j_ := ⟨_, rfl⟩
      replace H : (if 0 ≤ (ji7) then (impl_Program_stateNo.l0 k1 (Go.bits .or .i64 x5_1 (shl .i64 (wrap64 (rd l1 x10_1)) (ji7))) l1 (l1.length : Int) (wrap64 (x10_1 + 1)) a0_0 a0_1 l0_2 l0_3) else (none)) = some r := by first | (rw [hj1] at H; exact H) | (simp only [hj1] at H ⊢; exact H)
      have hji7w : (IntKind.i64.wrap (a0_0 * x10_1)) = ji7 := (i64_w _).trans hj1
      by_cases c8 : 0 ≤ (ji7)
      ·rw [if_pos c8] at H
       have c8b0 := eq_true c8
       have c8b1 := decide_eq_true c8
       clear c8
       obtain ⟨ji9, hj2⟩ : ∃ j_ : Int, (shl .i64 (wrap64 (rd l1 x10_1)) (ji7)) = j_ := ⟨_, rfl⟩
       replace H : (impl_Program_stateNo.l0 k1 (Go.bits .or .i64 x5_1 (ji9)) l1 (l1.length : Int) (wrap64 (x10_1 + 1)) a0_0 a0_1 l0_2 l0_3) = some r := by first | (rw [hj2] at H; exact H) | (simp only [hj2] at H ⊢; exact H)
       have hji9_ : (IntKind.i64.wrap ((wrap64 (rd l1 x10_1)) * 2 ^ min (ji7).toNat 64)) = ji9 := hj2
       have hji9z : (ji7) ≤ 64 → (IntKind.i64.wrap ((wrap64 (rd l1 x10_1)) * 2 ^ (ji7).toNat)) = ji9 := shl_small hj2
       have hji9y : (wrap64 ((wrap64 (rd l1 x10_1)) * 2 ^ min (ji7).toNat 64)) = ji9 := (i64_w _).symm.trans hji9_
       have hji9x : (ji7) ≤ 64 → (wrap64 ((wrap64 (rd l1 x10_1)) * 2 ^ (ji7).toNat)) = ji9 := fun h_ => (i64_w _).symm.trans (hji9z h_)
       have H' := am_ H
       clear H
       have p532 : 0 ≤ (x10_1 : Int) := Sh.od
       have q532 : x10_1 < (l1.length : Int) := Sh.od
       obtain ⟨ad532, e532, hx532_0⟩ := Kd.at_int HR1.out x10_1 p532 q532
       cases e532
       try replace hx532_0 := Sh.cw hx532_0
       replace p532 := eq_true p532
       replace q532 := eq_true q532
       have hcz10_0 := Sh.bc BK531.out 0
       have hcz10_1 := Sh.bc BK531.out 1
       have hcz10_2 := Sh.bc BK531.out 2
       have hcz10_3 := Sh.bc BK531.out 3
       have hfz10_0 := blk_frozen BK531.out 0
       have hfz10_1 := blk_frozen BK531.out 1
       have hfz10_2 := blk_frozen BK531.out 2
       have hfz10_3 := blk_frozen BK531.out 3
       go_wp2
       go_roundg k1
       case measure => have := HK1.out; omega
       case rel => exact ⟨(Go.bits .or .i64 x5_1 (ji9)), (wrap64 (x10_1 + 1)), (by first | rfl | (simp; done) | (simp only [← hj2] <;> (first | rfl | simp)) | (simp [*]; done)), (Sh.es), H', ⟨by have := HK1.out; omega⟩, ⟨by refine Sh.pl ?_; exact BK531.out⟩, ⟨Sh.bw⟩⟩
      ·rw [if_neg c8] at H
       cases H
     ·rw [if_neg c6] at H
      cases H
    ·rw [if_neg c5] at H
     cases H
   ·rw [if_neg c4] at H
    replace c4 := decide_eq_false c4
    obtain rfl := Option.some.inj H
    go_wp2
    go_ret
    exact ⟨Sh.eR, Sh.bw⟩
def slices_Clone_uint64_uint64.f (l0 : List (Int)) : Option (List (Int)) := if l0.length < 17592186044416 then some l0 else none
theorem slices_Clone_uint64_uint64.calls (A0 : Option Addr) (c0 : Nat) (l0 : List (Int)) (r : List (Int)) (w : World) (hr0 : Kd.C (Kd.int .u64) w A0 l0.length l0) (hc0 : l0.length ≤ c0) (h : slices_Clone_uint64_uint64.f l0 = some r) :
  Calls Tryz.prog 112 #[.slice A0 l0.length c0] w fun e w' => ∃ v0_ : Value, e = .returned (v0_) ∧ Kd.R (Kd.int .u64) 77 w' w.heap.size (fun _ => True) v0_ r ∧ Below w.heap.size w w' := by
 have hlim : l0.length < 17592186044416 := by
  rcases Nat.lt_or_ge l0.length 17592186044416 with h1 | h1
  ·exact h1
  ·rw [slices_Clone_uint64_uint64.f, if_neg (by omega)] at h; cases h
 rw [slices_Clone_uint64_uint64.f, if_pos hlim] at h
 obtain rfl := Option.some.inj h
 clear h
 cases A0 with
 | none =>
  have hl : l0 = [] := by
   rcases l0 with _ | ⟨x, t⟩
   ·rfl
   ·obtain ⟨ad, e, _⟩ := hr0.2.2 (by simp)
    cases e
  subst hl
  have he : ∀ (w : World) (n c : Nat), (binOp .eql 71 (.slice none n c) (.slice none 0 0)).run Tryz.prog w = .ok (.bool true) w := fun _ _ _ => rfl
  go_enter Tryz.func112, Tryz.ntmps112
  go_wp2
  all_goals (go_ret; exact ⟨_, rfl, Kd.R_nil _ _ _ _ _, Below.refl _ _⟩)
 | some a0 =>
  have HR0 := am_ hr0
  have HC0 := am_ hc0
  clear hr0 hc0
  have HB := am_ (Below.refl w.heap.size w)
  have LM := am_ hlim
  clear hlim
  have he : ∀ (w : World) (n c : Nat), (binOp .eql 71 (.slice (some a0) n c) (.slice none 0 0)).run Tryz.prog w = .ok (.bool false) w := fun _ _ _ => rfl
  go_enter Tryz.func112, Tryz.ntmps112
  go_wp2_with (first | ((with_reducible refine Sh.d 5 ?_); refine Kd.R_lit (Kd.int .u64) _ 77 ?hg (N := 5) ?hd (xs := ([] : List (Int))) (inner := []) (ok := fun _ => True) (okp := fun _ => True) ?hr ?hp (fun _ hk => hk) trivial (Below.refl _ _) (Nat.le_refl _) (by simp) ?_; (case hd => rfl); (case hg => rfl); (case hr => first | (go_simp; done) | (go_simp; rfl)); (case hp => exact (Reps.none _ _)); intro v359 w3 ho4 hb hg_ hnew_; clear hg_ hnew_; have HO360 := am_ (Kd.R_lower ho4 (below_size Sh.bw)); replace HB := Sh.hb hb; clear hb ho4) | ((with_reducible refine gate_builtin (b := .append) (xs := #[.tmp 5, .tmp 6]) rfl ?_); at_builtin; refine Kd.R_append_rows (Kd.int .u64) (w0 := w) w.heap.size rfl (.tmp 5) (.tmp 6) 71 77 (.int .u64 0) 8 rfl Tryz.underlying71 info77 rfl (by decide) (by omega) v359 [] l0 _ _ _ (fun _ => True) (fun _ => False) rfl rfl ?aO ?aR (fun _ _ h => h) (fun _ h => h.elim) ?aF ?aB ?aS ?aL ?_; (case aR => repeat (first | exact (Kd.C_below HR0.out HB.out) | (with_reducible first | refine Kd.C_alloc ?_ _ | refine Kd.C_drewN ?_ _ | refine Kd.C_drew ?_))); (case aB => exact Sh.bw); (case aF => exact (fun _ _ => trivial)); (case aO => exact (Sh.rl HO360.out)); (case aS => exact (below_size Sh.bw)); (case aL => have := LM.out; simp only [List.length_nil]; omega); intro v362 w5 ho hb hg hat; rw [List.nil_append] at ho; have n0_ := am_ hb; have n1_ := am_ ho; clear HB; clear HO360; have HB := n0_; have HO363 := n1_; clear n0_ n1_; clear ho hb hg hat))
  go_ret
  exact ⟨_, rfl, HO363.out, HB.out⟩
def impl_Program_after.l0 : Nat → List Int → List Int → List (S124) → Int → Int → Int → Int → List (S79) → List (S95) → Option (List Int)
 | 0, _, _, _, _, _, _, _, _, _ => none
 | k + 1, x2, x7, x13, x14, x15, x534000, x534001, x534002, x534003 => if x15 < x14 then (if 0 ≤ x15 then (if x15 < (x13.length : Int) then ((impl_valueOf.f k x534000 ((rd_T124 x13 x15).f1) x2).bind fun t540 => (if 0 ≤ ((rd_T124 x13 x15).f0) then (if ((rd_T124 x13 x15).f0) < (x7.length : Int) then (impl_Program_after.l0 k x2 (x7.set (((rd_T124 x13 x15).f0) : Int).toNat t540) x13 x14 (wrap64 (x15 + 1)) x534000 x534001 x534002 x534003) else (none)) else (none))) else (none)) else (none)) else (some x7)
def impl_Program_after.f (k : Nat) (a0_0 : Int) (a0_1 : Int) (l0_2 : List (S79)) (l0_3 : List (S95)) (l1_0 : List (S79)) (l1_1 : List (S124)) (l2 : List Int) : Option (List Int) := (slices_Clone_uint64_uint64.f l2).bind fun t535 => (impl_Program_after.l0 k l2 t535 l1_1 (l1_1.length : Int) 0 a0_0 a0_1 l0_2 l0_3)
theorem impl_Program_after.mono_l : ∀ k, (∀ y0 y1 y2 y3 y4 y5 y6 y7 y8, LeO (impl_Program_after.l0 k y0 y1 y2 y3 y4 y5 y6 y7 y8) (impl_Program_after.l0 (k + 1) y0 y1 y2 y3 y4 y5 y6 y7 y8))
 | 0 => fun _ _ _ _ _ _ _ _ _ r h => by simp [impl_Program_after.l0] at h
 | k + 1 => by
  have ih0 := impl_Program_after.mono_l k
  ·intro y0 y1 y2 y3 y4 y5 y6 y7 y8
   unfold impl_Program_after.l0
   repeat' with_reducible first | apply ih0 | apply impl_valueOf.mono | exact LeO.refl _ | exact LeO.none _ | apply LeO.ite | refine LeO.bind ?_ fun _ => ?_
theorem impl_Program_after.mono : ∀ a0 a1 a2 a3 a4 a5 a6 k, LeO (impl_Program_after.f k a0 a1 a2 a3 a4 a5 a6) (impl_Program_after.f (k + 1) a0 a1 a2 a3 a4 a5 a6) := by
 intro a0 a1 a2 a3 a4 a5 a6 k
 have ih0 := impl_Program_after.mono_l k
 unfold impl_Program_after.f
 repeat' with_reducible first | apply ih0 | apply impl_valueOf.mono | exact LeO.refl _ | exact LeO.none _ | apply LeO.ite | refine LeO.bind ?_ fun _ => ?_
def impl_Program_after.T5 : Bool × List (List Nat × List Nat) := (true, [([], []), ([], []), ([1], [1]), ([], []), ([3], [3]), ([], []), ([5], [5]), ([], []), ([4, 6, 7], [4, 6, 7]), ([0, 2, 0, 1, 2, 3, 4, 5, 6, 7, 8], [0, 2]), ([9, 8, 8, 0, 1, 2, 3, 4, 5, 6, 7, 8], [8, 9])])
def impl_Program_after.B5 : List Nat := [0, 0, 2, 0, 8, 0, 32, 0, 248, 511, 1023]
theorem impl_Program_after.tab5 : rtab .any (opsOf Tryz.f90 5) = impl_Program_after.T5 := by kernel_rfl
theorem impl_Program_after.bits5 : waitsOk impl_Program_after.T5.2 impl_Program_after.B5 = true := by kernel_rfl
theorem impl_Program_after.calls (k : Nat) (a0_0 : Int) (a0_1 : Int) (A0_2 : Option Addr) (c0_2 : Nat) (l0_2 : List (S79)) (A0_3 : Option Addr) (c0_3 : Nat) (l0_3 : List (S95)) (A1_0 : Option Addr) (c1_0 : Nat) (l1_0 : List (S79)) (A1_1 : Option Addr) (c1_1 : Nat) (l1_1 : List (S124)) (A2 : Option Addr) (c2 : Nat) (l2 : List Int) (r : List Int) (w : World) (hr0_2 : Kd.C k79 w A0_2 l0_2.length l0_2) (hc0_2 : l0_2.length ≤ c0_2) (hr0_3 : Kd.C k95 w A0_3 l0_3.length l0_3) (hc0_3 : l0_3.length ≤ c0_3) (hr1_0 : Kd.C k79 w A1_0 l1_0.length l1_0) (hc1_0 : l1_0.length ≤ c1_0) (hr1_1 : Kd.C k124 w A1_1 l1_1.length l1_1) (hc1_1 : l1_1.length ≤ c1_1) (hr2 : Kd.C (Kd.int .u64) w A2 l2.length l2) (hc2 : l2.length ≤ c2) (h : impl_Program_after.f k a0_0 a0_1 l0_2 l0_3 l1_0 l1_1 l2 = some r) :
  Calls Tryz.prog 90 #[.agg #[.int .i64 a0_0, .int .i64 a0_1, .slice A0_2 l0_2.length c0_2, .slice A0_3 l0_3.length c0_3], .agg #[.slice A1_0 l1_0.length c1_0, .slice A1_1 l1_1.length c1_1], .slice A2 l2.length c2] w fun e w' => ∃ v0_ : Value, e = .returned (v0_) ∧ Kd.R (Kd.int .u64) 77 w' w.heap.size (fun _ => True) v0_ r ∧ Below w.heap.size w w' := by
 have hu33 := Tryz.underlying33
 have hu95 := Tryz.underlying95
 have hu124 := Tryz.underlying124
 have HR0_2 := am_ hr0_2
 have HC0_2 := am_ hc0_2
 clear hr0_2 hc0_2
 have HR0_3 := am_ hr0_3
 have HC0_3 := am_ hc0_3
 clear hr0_3 hc0_3
 have HR1_0 := am_ hr1_0
 have HC1_0 := am_ hc1_0
 clear hr1_0 hc1_0
 have HR1_1 := am_ hr1_1
 have HC1_1 := am_ hc1_1
 clear hr1_1 hc1_1
 have HR2 := am_ hr2
 have HC2 := am_ hc2
 clear hr2 hc2
 have HB := am_ (Below.refl w.heap.size w)
 have H := h
 clear h
 unfold impl_Program_after.f at H
 obtain ⟨t535, A4, H⟩ := Sh.ba H
 have H' := am_ H
 clear H
 go_enter Tryz.func90, Tryz.ntmps90
 go_wp2_with (first | ((with_reducible refine Sh.d 3 ?_); refine Sh.bz w (N := 3) (cs := #[.int .i64 a0_0, .int .i64 a0_1, .slice A0_2 l0_2.length c0_2, .slice A0_3 l0_3.length c0_3]) (t := 33) (h := ?_); clear HB; intro gb533 w5 BK533 GE533 HB) | ((with_reducible refine Sh.d 4 ?_); refine Sh.bx (N := 4) (cs := #[.slice A1_0 l1_0.length c1_0, .slice A1_1 l1_1.length c1_1]) (t := 95) (h := ?_); intro gb534 hg w6 hbox hb; have BK534 := am_ hbox; have GE534 := Sh.ag w hg; replace HB := Sh.hb hb; have NB533_534 := am_ (Sh.nl hg BK533.out); have NB534_533 := am_ (Sh.ng hg BK533.out); replace BK533 := Sh.ab BK533 hb; clear hb hbox hg) | ((with_reducible refine Sh.k 112 ?_); refine Sh.gL (some 11) Tryz.func112 #[.slice A2 l2.length c2] (h := ?_); (with_reducible refine (slices_Clone_uint64_uint64.calls _ _ l2 t535 _ (Sh.cB HR2.out) HC2.out A4.out).mono ?_); rintro e w7 ⟨v536, rfl, ho0, hb⟩; refine ⟨_, rfl, ?_⟩; have HO537 := am_ (Kd.R_lower ho0 (below_size Sh.bw)); replace BK533 := Sh.ab BK533 hb; replace BK534 := Sh.ab BK534 hb; replace HB := Sh.hb hb; (try clear hb); (try clear hk); (try clear ho0); have hnb8 := NB534_533.out; have hnc8 := NB533_534.out; obtain ⟨hcz9_0, hcz9_1, hfz9_0, hfz9_1⟩ := Sh.b2 BK534.out))
 go_loopg [15] k (fun kq v15 w' => ∃ (x7_1 : List Int) (x15_1 : Int), v15 = .int .i64 x15_1 ∧ Aside0 (impl_Program_after.l0 kq l2 x7_1 l1_1 (l1_1.length : Int) x15_1 a0_0 a0_1 l0_2 l0_3 = some r) ∧ Aside0 (kq ≤ k) ∧ Aside0 (Kd.R (Kd.int .u64) 77 w' w.heap.size (fun _ => True) v536 x7_1) ∧ Aside0 (w'.heap[gb533]? = some (.cells #[.int .i64 a0_0, .int .i64 a0_1, (.slice A0_2 l0_2.length c0_2), (.slice A0_3 l0_3.length c0_3)] 33 (0, 0))) ∧ Aside0 (w'.heap[gb534]? = some (.cells #[(.slice A1_0 l1_0.length c1_0), (.slice A1_1 l1_1.length c1_1)] 95 (0, 0))) ∧ Aside0 (Below w.heap.size w w'))
 case atStart => exact ⟨(t535), (0), (Sh.es), H', ⟨Nat.le_refl _⟩, ⟨Sh.rl HO537.out⟩, ⟨by refine Sh.pl ?_; exact BK533.out⟩, ⟨by refine Sh.pl ?_; exact BK534.out⟩, ⟨Sh.bw⟩⟩
 case round =>
  clear H'
  try clear hcz9_0
  try clear hcz9_1
  try clear hfz9_0
  try clear hfz9_1
  obtain ⟨x7_1, x15_1, rfl, HA, HK1, HO_7, BK533, BK534, HB⟩ := hrel
  cases gk with
  | zero => exact absurd HA.out (by simp [impl_Program_after.l0])
  | succ k1 =>
   have H := HA.out
   clear HA
   simp only [impl_Program_after.l0] at H
   by_cases c10 : x15_1 < (l1_1.length : Int)
   ·rw [if_pos c10] at H
    replace c10 := decide_eq_true c10
    by_cases c11 : 0 ≤ x15_1
    ·rw [if_pos c11] at H
     replace c11 := decide_eq_true c11
     by_cases c12 : x15_1 < (l1_1.length : Int)
     ·rw [if_pos c12] at H
      replace c12 := decide_eq_true c12
      obtain ⟨t540, A13, H⟩ := Sh.ba H
      by_cases c14 : 0 ≤ ((rd_T124 l1_1 x15_1).f0)
      ·rw [if_pos c14] at H
       replace c14 := decide_eq_true c14
       by_cases c15 : ((rd_T124 l1_1 x15_1).f0) < (x7_1.length : Int)
       ·rw [if_pos c15] at H
        replace c15 := decide_eq_true c15
        obtain ⟨y541, hy541⟩ : ∃ y_ : List Int, y_ = (x7_1.set (((rd_T124 l1_1 x15_1).f0) : Int).toNat t540) := ⟨_, rfl⟩
        replace H : (impl_Program_after.l0 k1 l2 y541 l1_1 (l1_1.length : Int) (wrap64 (x15_1 + 1)) a0_0 a0_1 l0_2 l0_3) = some r := by first | (rw [hy541]; with_reducible exact H) | (have H2_ := (Option.bind_some _ _).symm.trans H; rw [hy541]; with_reducible exact H2_) | (have H2_ := (Option.bind_some _ _).symm.trans H; with_reducible exact H2_) | with_reducible exact H | (rw [hy541]; exact H) | exact H
        have Ny541 := am_ hy541
        clear hy541
        have H' := am_ H
        clear H
        have p538 : 0 ≤ (x15_1 : Int) := Sh.od
        have q538 : x15_1 < (l1_1.length : Int) := Sh.od
        obtain ⟨ad538, A538_1, c538_1, e538, hx538_0, hx538_1, hl538_1, hi538_1⟩ := at_T124 HR1_1.out x15_1 p538 q538
        cases e538
        try replace hx538_0 := Sh.cw hx538_0
        try replace hx538_1 := Sh.cw hx538_1
        have HR538_1 := am_ hi538_1
        have HC538_1 := am_ hl538_1
        clear hi538_1 hl538_1
        replace p538 := eq_true p538
        replace q538 := eq_true q538
        try go_wp2_with (first | ((with_reducible refine Sh.d 9 ?_); refine Sh.bx (N := 9) (cs := #[.int .i64 0, .slice none 0 0]) (t := 124) (h := ?_); intro gb539 hg w17 hbox hb; replace HO_7 := am_ (Kd.R_below (Sh.rl HO_7.out) hb); have BK539 := am_ hbox; have GE539 := Sh.ag w hg; replace HB := Sh.hb hb; have NB533_539 := am_ (Sh.nl hg BK533.out); have NB539_533 := am_ (Sh.ng hg BK533.out); replace BK533 := Sh.ab BK533 hb; have NB534_539 := am_ (Sh.nl hg BK534.out); have NB539_534 := am_ (Sh.ng hg BK534.out); replace BK534 := Sh.ab BK534 hb; clear hb hbox hg; have hnb18 := NB539_533.out; have hnc18 := NB533_539.out; have hnb19 := NB539_534.out; have hnc19 := NB534_539.out; obtain ⟨hcz20_0, hcz20_1, hfz20_0, hfz20_1⟩ := Sh.b2 BK539.out))
        have n0_ : Aside0 (Kd.R (Kd.int .u64) 77 ((w17.setCell ⟨gb539, 0, none⟩ (.int .i64 ((rd_T124 l1_1 x15_1).f0))).setCell ⟨gb539, 1, none⟩ (.slice A538_1 ((rd_T124 l1_1 x15_1).f1).length c538_1)) w.heap.size (fun _ => True) v536 x7_1) := ⟨Sh.rl (Kd.R_mono (Kd.R_far (p := ⟨gb539, 1, none⟩) (Kd.R_far (p := ⟨gb539, 0, none⟩) (Kd.R_types HO_7.out BK539.out (by decide)) (fun _ hk => hk.2) (.int .i64 ((rd_T124 l1_1 x15_1).f0))) (fun _ hk => hk.2) (.slice A538_1 ((rd_T124 l1_1 x15_1).f1).length c538_1)) (fun _ hk => trivial))⟩
        have n1_ : Aside0 (((w17.setCell ⟨gb539, 0, none⟩ (.int .i64 ((rd_T124 l1_1 x15_1).f0))).setCell ⟨gb539, 1, none⟩ (.slice A538_1 ((rd_T124 l1_1 x15_1).f1).length c538_1)).heap[gb533]? = some (.cells #[.int .i64 a0_0, .int .i64 a0_1, .slice A0_2 l0_2.length c0_2, .slice A0_3 l0_3.length c0_3] 33 (0, 0))) := ⟨by refine Sh.pl ?_; refine blk_far ?_ NB533_539.out _; refine Sh.pl ?_; refine blk_far ?_ NB533_539.out _; refine Sh.pl ?_; exact BK533.out⟩
        have n2_ : Aside0 (((w17.setCell ⟨gb539, 0, none⟩ (.int .i64 ((rd_T124 l1_1 x15_1).f0))).setCell ⟨gb539, 1, none⟩ (.slice A538_1 ((rd_T124 l1_1 x15_1).f1).length c538_1)).heap[gb534]? = some (.cells #[.slice A1_0 l1_0.length c1_0, .slice (some ad538) l1_1.length c1_1] 95 (0, 0))) := ⟨by refine Sh.pl ?_; refine blk_far ?_ NB534_539.out _; refine Sh.pl ?_; refine blk_far ?_ NB534_539.out _; refine Sh.pl ?_; exact BK534.out⟩
        have n3_ : Aside0 (((w17.setCell ⟨gb539, 0, none⟩ (.int .i64 ((rd_T124 l1_1 x15_1).f0))).setCell ⟨gb539, 1, none⟩ (.slice A538_1 ((rd_T124 l1_1 x15_1).f1).length c538_1)).heap[gb539]? = some (.cells #[.int .i64 ((rd_T124 l1_1 x15_1).f0), .slice A538_1 ((rd_T124 l1_1 x15_1).f1).length c538_1] 124 (0, 0))) := ⟨by refine Sh.pl ?_; refine blk_put (cs := #[.int .i64 ((rd_T124 l1_1 x15_1).f0), .slice none 0 0]) ?_ 1 _ rfl; refine Sh.pl ?_; refine blk_put (cs := #[.int .i64 0, .slice none 0 0]) ?_ 0 _ rfl; refine Sh.pl ?_; exact BK539.out⟩
        have n4_ : Aside0 (Below w.heap.size w ((w17.setCell ⟨gb539, 0, none⟩ (.int .i64 ((rd_T124 l1_1 x15_1).f0))).setCell ⟨gb539, 1, none⟩ (.slice A538_1 ((rd_T124 l1_1 x15_1).f1).length c538_1))) := ⟨Sh.bw⟩
        (try clear HO_7)
        (try clear BK533)
        (try clear BK534)
        (try clear BK539)
        (try clear HB)
        generalize ((w17.setCell ⟨gb539, 0, none⟩ (.int .i64 ((rd_T124 l1_1 x15_1).f0))).setCell ⟨gb539, 1, none⟩ (.slice A538_1 ((rd_T124 l1_1 x15_1).f1).length c538_1)) = w21 at n0_ n1_ n2_ n3_ n4_ ⊢
        have HO_7 := n0_
        have BK533 := n1_
        have BK534 := n2_
        have BK539 := n3_
        have HB := n4_
        clear n0_ n1_ n2_ n3_ n4_
        replace HO_7 := am_ (Kd.R_drew HO_7.out)
        replace BK533 := am_ (blk_drew BK533.out)
        replace BK534 := am_ (blk_drew BK534.out)
        replace BK539 := am_ (blk_drew BK539.out)
        replace HB := am_ (below_drew1 HB.out)
        refine start_ (n := 11) (S := fun w' => w'.cell? ⟨gb539, 0, none⟩ = some (.int .i64 ((rd_T124 l1_1 x15_1).f0)) ∧ w'.cell? ⟨gb539, 1, none⟩ = some (.slice A538_1 ((rd_T124 l1_1 x15_1).f1).length c538_1) ∧ w'.cell? ⟨gb533, 0, none⟩ = some (.int .i64 a0_0) ∧ w'.cell? ⟨gb533, 1, none⟩ = some (.int .i64 a0_1) ∧ w'.cell? ⟨gb533, 2, none⟩ = some (.slice A0_2 l0_2.length c0_2) ∧ w'.cell? ⟨gb533, 3, none⟩ = some (.slice A0_3 l0_3.length c0_3)) (ds := [10]) (Sh.nm 11 0) (by kernel_rfl) rfl rfl Sh.cs (fun hHeld => ?_); refine with_tabW impl_Program_after.tab5 impl_Program_after.bits5 (fun HT_ HW_ => ?_)
        generalize w21.drew = w22 at HO_7 BK533 BK534 BK539 HB hHeld ⊢
        refine Sh.qA 0 ?_; refine Sh.qA 1 ?_; refine Sh.qA 3 ?_; refine Sh.qA 5 ?_; refine Sh.qA 7 ?_; refine Sh.qT 2 hHeld ?_; refine Sh.qT 4 hHeld ?_; refine Sh.qT 6 hHeld ?_
        refine Sh.oC 8 Tryz.func98 #[.int .i64 a0_0, .slice A538_1 ((rd_T124 l1_1 x15_1).f1).length c538_1, .slice A2 l2.length c2] fun K hK => ?_
        with_reducible refine (impl_valueOf.calls k1 a0_0 _ _ ((rd_T124 l1_1 x15_1).f1) _ _ l2 t540 _ (Sh.cB HR538_1.out) HC538_1.out (Sh.cB HR2.out) HC2.out A13.out).mono ?_
        rintro e w23 ⟨rfl, hb⟩
        refine ⟨_, rfl, ?_⟩
        replace HO_7 := am_ (Kd.R_below (Sh.rl HO_7.out) hb)
        replace BK533 := Sh.ab BK533 hb
        replace BK534 := Sh.ab BK534 hb
        replace BK539 := Sh.ab BK539 hb
        replace HB := Sh.hb hb
        (try clear hb)
        have p16 : 0 ≤ (((rd_T124 l1_1 x15_1).f0) : Int) := Sh.od
        have q16 : (((rd_T124 l1_1 x15_1).f0) : Int) < ((x7_1.length : Int) : Int) := Sh.od
        obtain ⟨go16, co16, eo16, gb16, gl16, cl16, HG16⟩ := Kd.R_form HO_7.out (by omega)
        (first | cases eo16 | (injection eo16 with ea_ en_ ec_; (first | subst ea_ | (injection ea_ with ea_; subst ea_)); subst ec_; clear en_))
        have GB16 := am_ gb16
        have GG16 := am_ HG16
        clear gb16 gl16 HG16
        obtain ⟨hx16_0, hf16_0⟩ := Kd.R_celln 0 HO_7.out (((rd_T124 l1_1 x15_1).f0) : Int) p16 q16
        replace p16 := eq_true p16
        replace q16 := eq_true q16
        have HP24 := Kd.R_putn HO_7.out (((rd_T124 l1_1 x15_1).f0) : Int) t540
        rw [← Ny541.out] at HP24
        have HQ24 := am_ HP24
        clear HP24
        refine Sh.kN hK Sh.cs fun hHeld => ?_
        clear hK K
        refine Sh.qA 9 ?_
        refine last_ (i := 10) (N := none) (Sh.nm 11 2047) rfl rfl (one_of HT_.out (by kernel_rfl)) (by decide) (fun K hK => ?_)
        refine skip_ (w1 := ?_) (by rfl) rfl ?_ ?_
        rotate_left
        ·go_simp
         rfl
        refine hK.out _ _ ?_
        clear hK K
        refine done_ (done_of HT_.out (by kernel_rfl)) ?_
        try go_wp2
        go_roundg k1
        case measure => have := HK1.out; omega
        case rel => exact ⟨(y541), (wrap64 (x15_1 + 1)), (Sh.es), H', ⟨by have := HK1.out; omega⟩, ⟨by (with_reducible repeat (first | apply Kd.R_alloc | apply Kd.R_drewN | apply Kd.R_drew)); exact HQ24.out⟩, ⟨by refine Sh.pl ?_; refine blk_far ?_ (by have h_ := Kd.R_ne HO_7.out BK533.out (by decide); intro e_; exact h_ (by rw [e_]; rfl)) _; refine Sh.pl ?_; exact BK533.out⟩, ⟨by refine Sh.pl ?_; refine blk_far ?_ (by have h_ := Kd.R_ne HO_7.out BK534.out (by decide); intro e_; exact h_ (by rw [e_]; rfl)) _; refine Sh.pl ?_; exact BK534.out⟩, ⟨Sh.bw⟩⟩
       ·rw [if_neg c15] at H
        cases H
      ·rw [if_neg c14] at H
       cases H
     ·rw [if_neg c12] at H
      cases H
    ·rw [if_neg c11] at H
     cases H
   ·rw [if_neg c10] at H
    replace c10 := decide_eq_false c10
    obtain rfl := Option.some.inj H
    go_wp2
    go_ret
    exact ⟨_, Sh.eR, Sh.rl HO_7.out, Sh.bw⟩
def slices_Sort_int_int.f (l0 : List Int) : Option (List Int) := if l0.length < 4611686018427387904 then some (l0.mergeSort fun x y => decide (x ≤ y)) else none
theorem slices_Sort_int_int.calls (P0_ : Nat → Prop) (u9000_ : Value) (l0 : List Int) (r1 : List Int) (w0 w : World) (hB : Below w0.heap.size w0 w) (ho0 : Kd.R (Kd.int .i64) 3 w w0.heap.size P0_ u9000_ l0) (h : slices_Sort_int_int.f l0 = some r1) :
  Calls Tryz.prog 91 #[u9000_] w fun e w' => e = .returned (.tuple #[]) ∧ Kd.R (Kd.int .i64) 3 w' w0.heap.size (fun k_ => (P0_ k_ ∨ w.heap.size ≤ k_)) u9000_ r1 ∧ Below w0.heap.size w0 w' ∧ Kept w w' (fun k_ => P0_ k_) := by
 have hl : l0.length < 4611686018427387904 := by
  rcases Nat.lt_or_ge l0.length 4611686018427387904 with h1 | h1
  ·exact h1
  ·rw [slices_Sort_int_int.f, if_neg (by omega)] at h; cases h
 rw [slices_Sort_int_int.f, if_pos hl] at h
 obtain rfl := Option.some.inj h
 have hok := ho0.1
 obtain ⟨hlen, ⟨rfl, hz⟩ | ⟨g, cap, cur, rfl, hbase, hb, h1, h2, h3, h4⟩⟩ := Kd.own_of_R ho0
 ·have hn : l0 = [] := List.length_eq_zero_iff.1 hz
  subst hn
  refine (Tryz.slices_Sort_int_none none 0 w).mono ?_
  rintro e w' ⟨rfl, rfl⟩
  exact ⟨rfl, by rw [List.mergeSort_nil]; exact Kd.R_nil _ _ _ _ _, hB, Kept.refl _ _⟩
 ·have ht : cur.toList.take l0.length = l0.map (Value.int .i64) := by rw [Nat.mul_one] at h4; exact h4
  have hl2 : (l0.mergeSort fun x y => decide (x ≤ y)).length = l0.length := List.length_mergeSort l0
  refine (Tryz.slices_Sort_int g 0 cap l0 w (holds_of_blockI hb ht) (blk_lt hb) hl).mono ?_
  rintro e w' ⟨rfl, n, os, rfl⟩
  have hs := ownsRow_sortedI (n := n) (os := os) (ts := l0.mergeSort fun x y => decide (x ≤ y)) hl2 hbase hb h1 h2 h3
  have hg := grownBy_sortedI (w := w) (g := g) (n := n) (os := os) (l0.mergeSort fun x y => decide (x ≤ y)).toArray
  refine ⟨rfl, Kd.R_of_own (h1 := fun _ => rfl) ?_ (fun k hk => .inl (hok k hk)), hB.grown hg hB.size (fun j hj => by cases hj; exact hbase), Kept.of_grown (S := fun k_ => P0_ k_) hg (Kept.refl _ _) (fun k e_ => .inl (hok k e_))⟩
  rw [hl2]
  exact hs
def slices_Compact_int_int.f (l0 : List Int) : Option (List Int) := if l0.length < 4611686018427387904 then some (Go.Lib.compact l0) else none
theorem slices_Compact_int_int.calls (P0_ : Nat → Prop) (u9000_ : Value) (l0 : List Int) (r1 : List Int) (w0 w : World) (hB : Below w0.heap.size w0 w) (ho0 : Kd.R (Kd.int .i64) 3 w w0.heap.size P0_ u9000_ l0) (h : slices_Compact_int_int.f l0 = some r1) :
  Calls Tryz.prog 92 #[u9000_] w fun e w' => ∃ v0_ : Value, e = .returned (v0_) ∧ Kd.R (Kd.int .i64) 3 w' w0.heap.size (fun k_ => (P0_ k_ ∨ w.heap.size ≤ k_)) v0_ r1 ∧ Below w0.heap.size w0 w' ∧ Kept w w' (fun k_ => P0_ k_) := by
 have hl : l0.length < 4611686018427387904 := by
  rcases Nat.lt_or_ge l0.length 4611686018427387904 with h1 | h1
  ·exact h1
  ·rw [slices_Compact_int_int.f, if_neg (by omega)] at h; cases h
 rw [slices_Compact_int_int.f, if_pos hl] at h
 obtain rfl := Option.some.inj h
 have hok := ho0.1
 have hown := Kd.own_of_R ho0
 obtain ⟨hlen, ⟨rfl, hz⟩ | ⟨g, cap, cur, rfl, hbase, hb, h1, h2, h3, h4⟩⟩ := hown
 ·have hn : l0 = [] := List.length_eq_zero_iff.1 hz
  subst hn
  refine (Tryz.slices_Compact_int_empty none 0 w).mono ?_
  rintro e w' ⟨rfl, rfl⟩
  exact ⟨_, rfl, Kd.R_nil _ _ _ _ _, hB, Kept.refl _ _⟩
 ·have ht : cur.toList.take l0.length = l0.map (Value.int .i64) := by rw [Nat.mul_one] at h4; exact h4
  have hle := Go.Lib.compact_length_le l0
  have hown := Kd.own_of_R ho0
  refine (Tryz.slices_Compact_int g 0 cap l0 w (holds_of_blockI hb ht) (by omega) h1).mono ?_
  rintro e w' ⟨rfl, q, rfl⟩
  have hc := Go.Lib.ownsRow_putRow (enc := Value.int .i64) (q := q) (k := (Go.Lib.compact l0).length) (ys := Go.Lib.compact l0 ++ List.replicate (l0.length - (Go.Lib.compact l0).length) 0) hown (by simp; omega) (by omega)
  rw [List.take_left] at hc
  have hg : w.grownBy (Go.Sort.putRow (Value.int .i64) (Go.Sort.ahead w q) g 0 (Go.Lib.compact l0 ++ List.replicate (l0.length - (Go.Lib.compact l0).length) 0).toArray) (some g) := by
   have := grownBy_sortedI (w := w) (g := g) (n := q) (os := #[]) (Go.Lib.compact l0 ++ List.replicate (l0.length - (Go.Lib.compact l0).length) 0).toArray
   rwa [Go.Sort.grow_empty] at this
  exact ⟨_, rfl, Kd.R_of_own (h1 := fun _ => rfl) hc (fun k hk => .inl (hok k hk)), Go.Lib.below_putRow hB hbase, Kept.of_grown (S := fun k_ => P0_ k_) hg (Kept.refl _ _) (fun k e_ => .inl (hok k e_))⟩
def impl_Program_nextOf.l0 : Nat → Int → List Int → List Int → List (S95) → Int → Int → Int → Int → List (S79) → List (S95) → Option (List Int)
 | 0, _, _, _, _, _, _, _, _, _, _ => none
 | k + 1, x1, x5, x6, x14, x15, x16, x665000, x665001, x665002, x665003 => if x16 < x15 then (if 0 ≤ x16 then (if x16 < (x14.length : Int) then ((impl_Program_holds.f k x665000 x665001 x665002 x665003 ((rd_T95 x14 x16).f0) x5).bind fun t673 => (if t673 = true then ((impl_Program_after.f k x665000 x665001 x665002 x665003 ((rd_T95 x14 x16).f0) ((rd_T95 x14 x16).f1) x5).bind fun t674 => ((impl_Program_stateNo.f k x665000 x665001 x665002 x665003 t674).bind fun t677 => (if x6.length < 17592186044416 then (impl_Program_nextOf.l0 k x1 x5 (x6 ++ [t677]) x14 x15 (wrap64 (x16 + 1)) x665000 x665001 x665002 x665003) else (none)))) else (impl_Program_nextOf.l0 k x1 x5 x6 x14 x15 (wrap64 (x16 + 1)) x665000 x665001 x665002 x665003))) else (none)) else (none)) else (if (x6.length : Int) = 0 then (some (([x1] : List Int))) else ((slices_Sort_int_int.f x6).bind fun t684 => ((slices_Compact_int_int.f t684).bind fun t685 => (some t685))))
def impl_Program_nextOf.f (k : Nat) (a0_0 : Int) (a0_1 : Int) (l0_2 : List (S79)) (l0_3 : List (S95)) (a1 : Int) : Option (List Int) := (impl_Program_stateOf.f k a0_0 a0_1 l0_2 l0_3 a1).bind fun t665 => (impl_Program_nextOf.l0 k a1 t665 (([] : List Int)) l0_3 (l0_3.length : Int) 0 a0_0 a0_1 l0_2 l0_3)
theorem impl_Program_nextOf.mono_l : ∀ k, (∀ y0 y1 y2 y3 y4 y5 y6 y7 y8 y9, LeO (impl_Program_nextOf.l0 k y0 y1 y2 y3 y4 y5 y6 y7 y8 y9) (impl_Program_nextOf.l0 (k + 1) y0 y1 y2 y3 y4 y5 y6 y7 y8 y9))
 | 0 => fun _ _ _ _ _ _ _ _ _ _ r h => by simp [impl_Program_nextOf.l0] at h
 | k + 1 => by
  have ih0 := impl_Program_nextOf.mono_l k
  ·intro y0 y1 y2 y3 y4 y5 y6 y7 y8 y9
   unfold impl_Program_nextOf.l0
   repeat' with_reducible first | apply ih0 | apply impl_Program_after.mono | apply impl_Program_holds.mono | apply impl_Program_stateNo.mono | apply impl_Program_stateOf.mono | exact LeO.refl _ | exact LeO.none _ | apply LeO.ite | refine LeO.bind ?_ fun _ => ?_
theorem impl_Program_nextOf.mono : ∀ a0 a1 a2 a3 a4 k, LeO (impl_Program_nextOf.f k a0 a1 a2 a3 a4) (impl_Program_nextOf.f (k + 1) a0 a1 a2 a3 a4) := by
 intro a0 a1 a2 a3 a4 k
 have ih0 := impl_Program_nextOf.mono_l k
 unfold impl_Program_nextOf.f
 repeat' with_reducible first | apply ih0 | apply impl_Program_after.mono | apply impl_Program_holds.mono | apply impl_Program_stateNo.mono | apply impl_Program_stateOf.mono | exact LeO.refl _ | exact LeO.none _ | apply LeO.ite | refine LeO.bind ?_ fun _ => ?_
def impl_Program_nextOf.T6 : Bool × List (List Nat × List Nat) := (true, [([], []), ([], []), ([], []), ([], []), ([], []), ([2, 3, 4], [2, 3, 4]), ([1, 5, 5], [1, 5]), ([6], [6]), ([0, 7, 6], [0, 7]), ([8, 8, 0, 1, 2, 3, 4, 5, 6, 7, 8], [0, 8])])
def impl_Program_nextOf.B6 : List Nat := [0, 0, 0, 0, 0, 28, 62, 126, 255, 511]
theorem impl_Program_nextOf.tab6 : rtab .any (opsOf Tryz.f43 6) = impl_Program_nextOf.T6 := by kernel_rfl
theorem impl_Program_nextOf.bits6 : waitsOk impl_Program_nextOf.T6.2 impl_Program_nextOf.B6 = true := by kernel_rfl
theorem impl_Program_nextOf.calls (k : Nat) (a0_0 : Int) (a0_1 : Int) (A0_2 : Option Addr) (c0_2 : Nat) (l0_2 : List (S79)) (A0_3 : Option Addr) (c0_3 : Nat) (l0_3 : List (S95)) (a1 : Int) (r : List Int) (w : World) (hr0_2 : Kd.C k79 w A0_2 l0_2.length l0_2) (hc0_2 : l0_2.length ≤ c0_2) (hr0_3 : Kd.C k95 w A0_3 l0_3.length l0_3) (hc0_3 : l0_3.length ≤ c0_3) (h : impl_Program_nextOf.f k a0_0 a0_1 l0_2 l0_3 a1 = some r) :
  Calls Tryz.prog 43 #[.agg #[.int .i64 a0_0, .int .i64 a0_1, .slice A0_2 l0_2.length c0_2, .slice A0_3 l0_3.length c0_3], .int .i64 a1] w fun e w' => ∃ v0_ : Value, e = .returned (v0_) ∧ Kd.R (Kd.int .i64) 3 w' w.heap.size (fun _ => True) v0_ r ∧ Below w.heap.size w w' := by
 have hu33 := Tryz.underlying33
 have hu95 := Tryz.underlying95
 have HR0_2 := am_ hr0_2
 have HC0_2 := am_ hc0_2
 clear hr0_2 hc0_2
 have HR0_3 := am_ hr0_3
 have HC0_3 := am_ hc0_3
 clear hr0_3 hc0_3
 have HB := am_ (Below.refl w.heap.size w)
 have H := h
 clear h
 unfold impl_Program_nextOf.f at H
 obtain ⟨t665, A3, H⟩ := Sh.ba H
 obtain ⟨y668, hy668⟩ : ∃ y_ : List Int, y_ = (([] : List Int)) := ⟨_, rfl⟩
 replace H : (impl_Program_nextOf.l0 k a1 t665 y668 l0_3 (l0_3.length : Int) 0 a0_0 a0_1 l0_2 l0_3) = some r := by first | (rw [hy668]; with_reducible exact H) | (have H2_ := (Option.bind_some _ _).symm.trans H; rw [hy668]; with_reducible exact H2_) | (have H2_ := (Option.bind_some _ _).symm.trans H; with_reducible exact H2_) | with_reducible exact H | (rw [hy668]; exact H) | exact H
 have Ny668 := am_ hy668
 clear hy668
 have H' := am_ H
 clear H
 go_enter Tryz.func43, Tryz.ntmps43
 go_wp2_with (first | ((with_reducible refine Sh.d 2 ?_); refine Sh.bz w (N := 2) (cs := #[.int .i64 a0_0, .int .i64 a0_1, .slice A0_2 l0_2.length c0_2, .slice A0_3 l0_3.length c0_3]) (t := 33) (h := ?_); clear HB; intro gb664 w4 BK664 GE664 HB; obtain ⟨hcz5_0, hcz5_1, hcz5_2, hcz5_3, hfz5_0, hfz5_1, hfz5_2, hfz5_3⟩ := Sh.b4 BK664.out) | ((with_reducible refine Sh.k 57 ?_); refine Sh.gL (some 11) Tryz.func57 #[.agg #[.int .i64 a0_0, .int .i64 a0_1, .slice A0_2 l0_2.length c0_2, .slice A0_3 l0_3.length c0_3], .int .i64 a1] (h := ?_); (with_reducible refine (impl_Program_stateOf.calls k a0_0 a0_1 _ _ l0_2 _ _ l0_3 a1 t665 _ (Sh.cB HR0_2.out) HC0_2.out (Sh.cB HR0_3.out) HC0_3.out A3.out).mono ?_); rintro e w6 ⟨v666, rfl, ho0, hb⟩; refine ⟨_, rfl, ?_⟩; have HO667 := am_ (Kd.R_lower ho0 (below_size Sh.bw)); replace BK664 := Sh.ab BK664 hb; replace HB := Sh.hb hb; (try clear hb); (try clear hk); (try clear ho0)) | ((with_reducible refine Sh.d 12 ?_); refine Kd.R_lit (Kd.int .i64) _ 3 ?hg (N := 12) ?hd (xs := ([] : List Int)) (inner := []) (ok := fun _ => True) (okp := fun _ => True) ?hr ?hp (fun _ hk => hk) trivial (Below.refl _ _) (Nat.le_refl _) (by simp) ?_; (case hd => rfl); (case hg => rfl); (case hr => first | (go_simp; done) | (go_simp; rfl)); (case hp => exact (Reps.none _ _)); intro v669 w7 ho8 hb hg_ hnew_; clear hg_ hnew_; (first | rw [← Ny668.out] at ho8 | (simp only [Int.reduceToNat] at ho8; rw [← Ny668.out] at ho8)); replace HO667 := am_ (Kd.R_below (Sh.rl HO667.out) hb); have HO670 := am_ (Kd.R_lower ho8 (below_size Sh.bw)); replace BK664 := Sh.ab BK664 hb; replace HB := Sh.hb hb; clear hb ho8; obtain ⟨hcz9_0, hcz9_1, hcz9_2, hcz9_3, hfz9_0, hfz9_1, hfz9_2, hfz9_3⟩ := Sh.b4 BK664.out))
 go_loopg [6, 16] k (fun kq v6 v16 w' => ∃ (x6_1 : List Int) (x16_1 : Int), v16 = .int .i64 x16_1 ∧ Aside0 (impl_Program_nextOf.l0 kq a1 t665 x6_1 l0_3 (l0_3.length : Int) x16_1 a0_0 a0_1 l0_2 l0_3 = some r) ∧ Aside0 (kq ≤ k) ∧ Aside0 (Kd.R (Kd.int .u64) 77 w' w.heap.size (fun _ => True) v666 t665) ∧ Aside0 (Kd.R (Kd.int .i64) 3 w' w.heap.size (fun _ => True) v6 x6_1) ∧ Aside0 (w'.heap[gb664]? = some (.cells #[.int .i64 a0_0, .int .i64 a0_1, (.slice A0_2 l0_2.length c0_2), (.slice A0_3 l0_3.length c0_3)] 33 (0, 0))) ∧ Aside0 (Below w.heap.size w w'))
 case atStart => exact ⟨(y668), (0), (Sh.es), H', ⟨Nat.le_refl _⟩, ⟨Sh.rl HO667.out⟩, ⟨Sh.rl HO670.out⟩, ⟨by refine Sh.pl ?_; exact BK664.out⟩, ⟨Sh.bw⟩⟩
 case round =>
  clear H'
  try clear hcz5_0
  try clear hcz5_1
  try clear hcz5_2
  try clear hcz5_3
  try clear hcz9_0
  try clear hcz9_1
  try clear hcz9_2
  try clear hcz9_3
  try clear hfz5_0
  try clear hfz5_1
  try clear hfz5_2
  try clear hfz5_3
  try clear hfz9_0
  try clear hfz9_1
  try clear hfz9_2
  try clear hfz9_3
  obtain ⟨x6_1, x16_1, rfl, HA, HK1, HO_5, HO_6, BK664, HB⟩ := hrel
  cases gk with
  | zero => exact absurd HA.out (by simp [impl_Program_nextOf.l0])
  | succ k1 =>
   have H := HA.out
   clear HA
   simp only [impl_Program_nextOf.l0] at H
   by_cases c10 : x16_1 < (l0_3.length : Int)
   ·rw [if_pos c10] at H
    replace c10 := decide_eq_true c10
    by_cases c11 : 0 ≤ x16_1
    ·rw [if_pos c11] at H
     replace c11 := decide_eq_true c11
     by_cases c12 : x16_1 < (l0_3.length : Int)
     ·rw [if_pos c12] at H
      replace c12 := decide_eq_true c12
      obtain ⟨t673, A13, H⟩ := Sh.ba H
      by_cases c14 : t673 = true
      ·subst c14
       rw [if_pos rfl] at H
       obtain ⟨t674, A15, H⟩ := Sh.ba H
       obtain ⟨t677, A16, H⟩ := Sh.ba H
       by_cases c17 : x6_1.length < 17592186044416
       ·rw [if_pos c17] at H
        have LMc17 := am_ c17
        clear c17
        obtain ⟨y678, hy678⟩ : ∃ y_ : List Int, y_ = (x6_1 ++ [t677]) := ⟨_, rfl⟩
        replace H : (impl_Program_nextOf.l0 k1 a1 t665 y678 l0_3 (l0_3.length : Int) (wrap64 (x16_1 + 1)) a0_0 a0_1 l0_2 l0_3) = some r := by first | (rw [hy678]; with_reducible exact H) | (have H2_ := (Option.bind_some _ _).symm.trans H; rw [hy678]; with_reducible exact H2_) | (have H2_ := (Option.bind_some _ _).symm.trans H; with_reducible exact H2_) | with_reducible exact H | (rw [hy678]; exact H) | exact H
        have Ny678 := am_ hy678
        clear hy678
        have H' := am_ H
        clear H
        have p671 : 0 ≤ (x16_1 : Int) := Sh.od
        have q671 : x16_1 < (l0_3.length : Int) := Sh.od
        obtain ⟨ad671, A671_0, c671_0, A671_1, c671_1, e671, hx671_0, hx671_1, hl671_0, hi671_0, hl671_1, hi671_1⟩ := at_T95 HR0_3.out x16_1 p671 q671
        cases e671
        try replace hx671_0 := Sh.cw hx671_0
        try replace hx671_1 := Sh.cw hx671_1
        have HR671_0 := am_ hi671_0
        have HC671_0 := am_ hl671_0
        clear hi671_0 hl671_0
        have HR671_1 := am_ hi671_1
        have HC671_1 := am_ hl671_1
        clear hi671_1 hl671_1
        replace p671 := eq_true p671
        replace q671 := eq_true q671
        try go_wp2_with (first | ((with_reducible refine Sh.d 8 ?_); refine Sh.bx (N := 8) (cs := #[.slice none 0 0, .slice none 0 0]) (t := 95) (h := ?_); intro gb672 hg w18 hbox hb; replace HO_5 := am_ (Kd.R_below (Sh.rl HO_5.out) hb); replace HO_6 := am_ (Kd.R_below (Sh.rl HO_6.out) hb); have BK672 := am_ hbox; have GE672 := Sh.ag w hg; replace HB := Sh.hb hb; have NB664_672 := am_ (Sh.nl hg BK664.out); have NB672_664 := am_ (Sh.ng hg BK664.out); replace BK664 := Sh.ab BK664 hb; clear hb hbox hg; have hnb19 := NB672_664.out; have hnc19 := NB664_672.out; obtain ⟨hcz20_0, hcz20_1, hfz20_0, hfz20_1⟩ := Sh.b2 BK672.out; obtain ⟨hcz21_0, hcz21_1, hcz21_2, hcz21_3, hfz21_0, hfz21_1, hfz21_2, hfz21_3⟩ := Sh.b4 BK664.out; obtain ⟨Ao22, co22, eo22⟩ := Kd.R_slice HO_5.out; subst eo22) | ((with_reducible refine Sh.k 56 ?_); refine Sh.gL (some 24) Tryz.func56 #[.agg #[.int .i64 a0_0, .int .i64 a0_1, .slice A0_2 l0_2.length c0_2, .slice (some ad671) l0_3.length c0_3], .slice A671_0 ((rd_T95 l0_3 x16_1).f0).length c671_0, .slice Ao22 t665.length co22] (h := ?_); (with_reducible refine (impl_Program_holds.calls k1 a0_0 a0_1 _ _ l0_2 _ _ l0_3 _ _ ((rd_T95 l0_3 x16_1).f0) _ _ t665 true _ (Sh.cB HR0_2.out) HC0_2.out (Sh.cB HR0_3.out) HC0_3.out (Sh.cB HR671_0.out) HC671_0.out ?side7 ?side8 A13.out).mono ?_); (case side7 => refine (Kd.R_reads' (e := 77) (base := w.heap.size) (ok := fun k_ => True) (n := t665.length) (c := co22) ?_).2.2; exact (Sh.rl (Kd.R_mono (Kd.R_far (p := ⟨gb672, 1, none⟩) (Kd.R_far (p := ⟨gb672, 0, none⟩) (Kd.R_types HO_5.out BK672.out (by decide)) (fun _ hk => hk.2) (.slice A671_0 ((rd_T95 l0_3 x16_1).f0).length c671_0)) (fun _ hk => hk.2) (.slice A671_1 ((rd_T95 l0_3 x16_1).f1).length c671_1)) (fun _ h_ => h_.1)))); (case side8 => exact (Kd.R_reads' HO_5.out).2.1); rintro e w23 ⟨rfl, hb⟩; refine ⟨_, rfl, ?_⟩; have n0_ := am_ (Kd.R_below (Sh.rl (Kd.R_mono (Kd.R_far (p := ⟨gb672, 1, none⟩) (Kd.R_far (p := ⟨gb672, 0, none⟩) (Kd.R_types HO_5.out BK672.out (by decide)) (fun _ hk => hk.2) (.slice A671_0 ((rd_T95 l0_3 x16_1).f0).length c671_0)) (fun _ hk => hk.2) (.slice A671_1 ((rd_T95 l0_3 x16_1).f1).length c671_1)) (fun _ h_ => h_.1))) hb); have n1_ := am_ (Kd.R_below (Sh.rl (Kd.R_mono (Kd.R_far (p := ⟨gb672, 1, none⟩) (Kd.R_far (p := ⟨gb672, 0, none⟩) (Kd.R_types HO_6.out BK672.out (by decide)) (fun _ hk => hk.2) (.slice A671_0 ((rd_T95 l0_3 x16_1).f0).length c671_0)) (fun _ hk => hk.2) (.slice A671_1 ((rd_T95 l0_3 x16_1).f1).length c671_1)) (fun _ h_ => h_.1))) hb); have n2_ := am_ (blk_below (g := gb664) (o := .cells #[.int .i64 a0_0, .int .i64 a0_1, .slice A0_2 l0_2.length c0_2, .slice (some ad671) l0_3.length c0_3] 33 (0, 0)) (by refine Sh.pl ?_; refine blk_far ?_ NB664_672.out _; refine Sh.pl ?_; refine blk_far ?_ NB664_672.out _; refine Sh.pl ?_; exact BK664.out) hb); have n3_ := am_ (blk_below (g := gb672) (o := .cells #[.slice A671_0 ((rd_T95 l0_3 x16_1).f0).length c671_0, .slice A671_1 ((rd_T95 l0_3 x16_1).f1).length c671_1] 95 (0, 0)) (by refine Sh.pl ?_; refine blk_put (cs := #[.slice A671_0 ((rd_T95 l0_3 x16_1).f0).length c671_0, .slice none 0 0]) ?_ 1 _ rfl; refine Sh.pl ?_; refine blk_put (cs := #[.slice none 0 0, .slice none 0 0]) ?_ 0 _ rfl; refine Sh.pl ?_; exact BK672.out) hb); have n4_ := am_ (below_step Sh.bw hb); clear HO_5; clear HO_6; clear BK664; clear BK672; clear HB; have HO_5 := n0_; have HO_6 := n1_; have BK664 := n2_; have BK672 := n3_; have HB := n4_; clear n0_ n1_ n2_ n3_ n4_; (try clear hb); (try clear hk)))
        replace HO_5 := am_ (Kd.R_drew HO_5.out)
        replace HO_6 := am_ (Kd.R_drew HO_6.out)
        replace BK664 := am_ (blk_drew BK664.out)
        replace BK672 := am_ (blk_drew BK672.out)
        replace HB := am_ (below_drew1 HB.out)
        refine start_ (n := 10) (S := fun w' => w'.cell? ⟨gb664, 0, none⟩ = some (.int .i64 a0_0) ∧ w'.cell? ⟨gb664, 1, none⟩ = some (.int .i64 a0_1) ∧ w'.cell? ⟨gb664, 2, none⟩ = some (.slice A0_2 l0_2.length c0_2) ∧ w'.cell? ⟨gb664, 3, none⟩ = some (.slice (some ad671) l0_3.length c0_3) ∧ w'.cell? ⟨gb672, 0, none⟩ = some (.slice A671_0 ((rd_T95 l0_3 x16_1).f0).length c671_0) ∧ w'.cell? ⟨gb672, 1, none⟩ = some (.slice A671_1 ((rd_T95 l0_3 x16_1).f1).length c671_1)) (ds := []) (Sh.nm 10 0) (by kernel_rfl) rfl rfl Sh.cs (fun hHeld => ?_); refine with_tabW impl_Program_nextOf.tab6 impl_Program_nextOf.bits6 (fun HT_ HW_ => ?_)
        generalize w23.drew = w24 at HO_5 HO_6 BK664 BK672 HB hHeld ⊢
        refine Sh.qA 0 ?_; refine Sh.qA 4 ?_; refine Sh.qT 1 hHeld ?_; refine Sh.qT 2 hHeld ?_; refine Sh.qT 3 hHeld ?_
        refine Sh.oC 5 Tryz.func90 #[.agg #[.int .i64 a0_0, .int .i64 a0_1, .slice A0_2 l0_2.length c0_2, .slice (some ad671) l0_3.length c0_3], .agg #[.slice A671_0 ((rd_T95 l0_3 x16_1).f0).length c671_0, .slice A671_1 ((rd_T95 l0_3 x16_1).f1).length c671_1], .slice Ao22 t665.length co22] fun K hK => ?_
        with_reducible refine (impl_Program_after.calls k1 a0_0 a0_1 _ _ l0_2 _ _ l0_3 _ _ ((rd_T95 l0_3 x16_1).f0) _ _ ((rd_T95 l0_3 x16_1).f1) _ _ t665 t674 _ (Sh.cB HR0_2.out) HC0_2.out (Sh.cB HR0_3.out) HC0_3.out (Sh.cB HR671_0.out) HC671_0.out (Sh.cB HR671_1.out) HC671_1.out (Sh.cR (Kd.R_reads' HO_5.out).2.2) (Kd.R_reads' HO_5.out).2.1 A15.out).mono ?_
        rintro e w25 ⟨v675, rfl, ho0, hb⟩
        refine ⟨_, rfl, ?_⟩
        replace HO_6 := am_ (Kd.R_below (Sh.rl HO_6.out) hb)
        have HO676 := am_ (Kd.R_lower (Kd.R_new' ho0 (Kd.R_lt (Sh.rl HO_5.out))) (below_size Sh.bw))
        replace HO_5 := am_ (Kd.R_elder' (Sh.rl HO_5.out) (Kd.R_base ho0) hb)
        replace BK664 := Sh.ab BK664 hb
        replace BK672 := Sh.ab BK672 hb
        replace HB := Sh.hb hb
        (try clear hb)
        (try clear ho0)
        obtain ⟨Ao26, co26, eo26⟩ := Kd.R_slice HO676.out
        (first | subst eo26 | (injection eo26 with f1_ f2_ f3_; have f4_ := f1_.symm; have f5_ := f3_.symm; clear f1_ f2_ f3_; subst f4_; subst f5_))
        refine Sh.kN hK Sh.cs fun hHeld => ?_
        clear hK K
        refine Sh.oC 6 Tryz.func89 #[.agg #[.int .i64 a0_0, .int .i64 a0_1, .slice A0_2 l0_2.length c0_2, .slice (some ad671) l0_3.length c0_3], .slice Ao26 t674.length co26] fun K hK => ?_
        with_reducible refine (impl_Program_stateNo.calls k1 a0_0 a0_1 _ _ l0_2 _ _ l0_3 _ _ t674 t677 _ (Sh.cB HR0_2.out) HC0_2.out (Sh.cB HR0_3.out) HC0_3.out (Sh.cR (Kd.R_reads' HO676.out).2.2) (Kd.R_reads' HO676.out).2.1 A16.out).mono ?_
        rintro e w27 ⟨rfl, hb⟩
        refine ⟨_, rfl, ?_⟩
        replace HO_5 := am_ (Kd.R_below (Sh.rl HO_5.out) hb)
        replace HO_6 := am_ (Kd.R_below (Sh.rl HO_6.out) hb)
        replace HO676 := am_ (Kd.R_below (Sh.rl HO676.out) hb)
        replace BK664 := Sh.ab BK664 hb
        replace BK672 := Sh.ab BK672 hb
        replace HB := Sh.hb hb
        (try clear hb)
        refine Sh.kN hK Sh.cs fun hHeld => ?_
        clear hK K
        refine one_ (i := 7) (N := some 32) (Sh.nm 10 255) rfl rfl (one_of HT_.out (by kernel_rfl)) (by decide) (fun K hK => ?_)
        refine value_ (w1 := ?_) (v := ?_) (by rfl) rfl ?_ ?_
        rotate_left 2
        ·go_simp
         constructor
         ·rfl
         ·rfl
        refine Sh.kN hK ⟨(blk_cell (blk_alloc BK664.out _) 0).trans rfl, (blk_cell (blk_alloc BK664.out _) 1).trans rfl, (blk_cell (blk_alloc BK664.out _) 2).trans rfl, (blk_cell (blk_alloc BK664.out _) 3).trans rfl, (blk_cell (blk_alloc BK672.out _) 0).trans rfl, (blk_cell (blk_alloc BK672.out _) 1).trans rfl⟩ fun hHeld => ?_
        clear hK K
        refine one_ (i := 8) (N := some 33) (Sh.nm 10 511) rfl rfl (one_of HT_.out (by kernel_rfl)) (by decide) (fun K hK => ?_)
        refine Kd.R_append_step (Kd.int .i64) (w0 := w) w.heap.size (by rfl) (.tmp 25) (.tmp 32) 27 3 (.int .i64 0) 8 rfl Tryz.underlying27 info3 rfl (by decide) (by omega) u6 x6_1 t677 [.int .i64 t677] (fun _ => True) (fun _ => False) rfl rfl ?aP (fun _ hk => hk.elim) ?aF ?aO ?aB ?aS ?aL ?_
        (case aP => exact rfl)
        (case aB => exact Sh.bw)
        (case aF => exact (fun _ _ => trivial))
        (case aO => exact (Sh.rl HO_6.out))
        (case aS => exact (below_size Sh.bw))
        (case aL => have := LMc17.out; omega)
        intro v679 w28 ho hb hg hat
        rw [← Ny678.out] at ho
        have n0_ := am_ (Kd.R_over' (Sh.rl HO_5.out) (Kd.R_typed (Sh.rl HO_6.out)) (by decide) hg)
        have n1_ := am_ (blk_grown (g := gb664) (o := .cells #[.int .i64 a0_0, .int .i64 a0_1, .slice A0_2 l0_2.length c0_2, .slice (some ad671) l0_3.length c0_3] 33 (0, 0)) (Sh.pl BK664.out) hg (Kd.R_ne HO_6.out BK664.out (by decide)))
        have n2_ := am_ (blk_grown (g := gb672) (o := .cells #[.slice A671_0 ((rd_T95 l0_3 x16_1).f0).length c671_0, .slice A671_1 ((rd_T95 l0_3 x16_1).f1).length c671_1] 95 (0, 0)) (Sh.pl BK672.out) hg (Kd.R_ne HO_6.out BK672.out (by decide)))
        have n3_ := am_ (Kd.R_over' (Sh.rl HO676.out) (Kd.R_typed (Sh.rl HO_6.out)) (by decide) hg)
        have n4_ := am_ hb
        have n5_ := am_ ho
        clear HO_5
        clear BK664
        clear BK672
        clear HO676
        clear HB
        clear HO_6
        have HO_5 := n0_
        have BK664 := n1_
        have BK672 := n2_
        have HO676 := n3_
        have HB := n4_
        have HO680 := n5_
        clear n0_ n1_ n2_ n3_ n4_ n5_
        clear ho hb hg hat
        refine Sh.kN hK Sh.cs fun hHeld => ?_
        clear hK K
        refine Sh.qA 9 ?_
        refine done_ (done_of HT_.out (by kernel_rfl)) ?_
        try go_wp2
        go_roundg k1
        case measure => have := HK1.out; omega
        case rel => exact ⟨(y678), (wrap64 (x16_1 + 1)), (Sh.es), H', ⟨by have := HK1.out; omega⟩, ⟨Sh.rl (Kd.R_mono HO_5.out (fun _ hk => trivial))⟩, ⟨Sh.rl HO680.out⟩, ⟨by refine Sh.pl ?_; exact BK664.out⟩, ⟨Sh.bw⟩⟩
       ·rw [if_neg c17] at H
        cases H
      ·replace c14 := Bool.eq_false_iff.mpr c14
       subst c14
       rw [Sh.nf] at H
       have H' := am_ H
       clear H
       have p671 : 0 ≤ (x16_1 : Int) := Sh.od
       have q671 : x16_1 < (l0_3.length : Int) := Sh.od
       obtain ⟨ad671, A671_0, c671_0, A671_1, c671_1, e671, hx671_0, hx671_1, hl671_0, hi671_0, hl671_1, hi671_1⟩ := at_T95 HR0_3.out x16_1 p671 q671
       cases e671
       try replace hx671_0 := Sh.cw hx671_0
       try replace hx671_1 := Sh.cw hx671_1
       have HR671_0 := am_ hi671_0
       have HC671_0 := am_ hl671_0
       clear hi671_0 hl671_0
       have HR671_1 := am_ hi671_1
       have HC671_1 := am_ hl671_1
       clear hi671_1 hl671_1
       replace p671 := eq_true p671
       replace q671 := eq_true q671
       go_wp2_with (first | ((with_reducible refine Sh.d 8 ?_); refine Sh.bx (N := 8) (cs := #[.slice none 0 0, .slice none 0 0]) (t := 95) (h := ?_); intro gb672 hg w29 hbox hb; replace HO_5 := am_ (Kd.R_below (Sh.rl HO_5.out) hb); replace HO_6 := am_ (Kd.R_below (Sh.rl HO_6.out) hb); have BK672 := am_ hbox; have GE672 := Sh.ag w hg; replace HB := Sh.hb hb; have NB664_672 := am_ (Sh.nl hg BK664.out); have NB672_664 := am_ (Sh.ng hg BK664.out); replace BK664 := Sh.ab BK664 hb; clear hb hbox hg; have hnb30 := NB672_664.out; have hnc30 := NB664_672.out; obtain ⟨hcz31_0, hcz31_1, hfz31_0, hfz31_1⟩ := Sh.b2 BK672.out; obtain ⟨hcz32_0, hcz32_1, hcz32_2, hcz32_3, hfz32_0, hfz32_1, hfz32_2, hfz32_3⟩ := Sh.b4 BK664.out; obtain ⟨Ao33, co33, eo33⟩ := Kd.R_slice HO_5.out; subst eo33) | ((with_reducible refine Sh.k 56 ?_); refine Sh.gL (some 24) Tryz.func56 #[.agg #[.int .i64 a0_0, .int .i64 a0_1, .slice A0_2 l0_2.length c0_2, .slice (some ad671) l0_3.length c0_3], .slice A671_0 ((rd_T95 l0_3 x16_1).f0).length c671_0, .slice Ao33 t665.length co33] (h := ?_); (with_reducible refine (impl_Program_holds.calls k1 a0_0 a0_1 _ _ l0_2 _ _ l0_3 _ _ ((rd_T95 l0_3 x16_1).f0) _ _ t665 false _ (Sh.cB HR0_2.out) HC0_2.out (Sh.cB HR0_3.out) HC0_3.out (Sh.cB HR671_0.out) HC671_0.out ?side7 ?side8 A13.out).mono ?_); (case side7 => refine (Kd.R_reads' (e := 77) (base := w.heap.size) (ok := fun k_ => True) (n := t665.length) (c := co33) ?_).2.2; exact (Sh.rl (Kd.R_mono (Kd.R_far (p := ⟨gb672, 1, none⟩) (Kd.R_far (p := ⟨gb672, 0, none⟩) (Kd.R_types HO_5.out BK672.out (by decide)) (fun _ hk => hk.2) (.slice A671_0 ((rd_T95 l0_3 x16_1).f0).length c671_0)) (fun _ hk => hk.2) (.slice A671_1 ((rd_T95 l0_3 x16_1).f1).length c671_1)) (fun _ h_ => h_.1)))); (case side8 => exact (Kd.R_reads' HO_5.out).2.1); rintro e w34 ⟨rfl, hb⟩; refine ⟨_, rfl, ?_⟩; have n0_ := am_ (Kd.R_below (Sh.rl (Kd.R_mono (Kd.R_far (p := ⟨gb672, 1, none⟩) (Kd.R_far (p := ⟨gb672, 0, none⟩) (Kd.R_types HO_5.out BK672.out (by decide)) (fun _ hk => hk.2) (.slice A671_0 ((rd_T95 l0_3 x16_1).f0).length c671_0)) (fun _ hk => hk.2) (.slice A671_1 ((rd_T95 l0_3 x16_1).f1).length c671_1)) (fun _ h_ => h_.1))) hb); have n1_ := am_ (Kd.R_below (Sh.rl (Kd.R_mono (Kd.R_far (p := ⟨gb672, 1, none⟩) (Kd.R_far (p := ⟨gb672, 0, none⟩) (Kd.R_types HO_6.out BK672.out (by decide)) (fun _ hk => hk.2) (.slice A671_0 ((rd_T95 l0_3 x16_1).f0).length c671_0)) (fun _ hk => hk.2) (.slice A671_1 ((rd_T95 l0_3 x16_1).f1).length c671_1)) (fun _ h_ => h_.1))) hb); have n2_ := am_ (blk_below (g := gb664) (o := .cells #[.int .i64 a0_0, .int .i64 a0_1, .slice A0_2 l0_2.length c0_2, .slice (some ad671) l0_3.length c0_3] 33 (0, 0)) (by refine Sh.pl ?_; refine blk_far ?_ NB664_672.out _; refine Sh.pl ?_; refine blk_far ?_ NB664_672.out _; refine Sh.pl ?_; exact BK664.out) hb); have n3_ := am_ (blk_below (g := gb672) (o := .cells #[.slice A671_0 ((rd_T95 l0_3 x16_1).f0).length c671_0, .slice A671_1 ((rd_T95 l0_3 x16_1).f1).length c671_1] 95 (0, 0)) (by refine Sh.pl ?_; refine blk_put (cs := #[.slice A671_0 ((rd_T95 l0_3 x16_1).f0).length c671_0, .slice none 0 0]) ?_ 1 _ rfl; refine Sh.pl ?_; refine blk_put (cs := #[.slice none 0 0, .slice none 0 0]) ?_ 0 _ rfl; refine Sh.pl ?_; exact BK672.out) hb); have n4_ := am_ (below_step Sh.bw hb); clear HO_5; clear HO_6; clear BK664; clear BK672; clear HB; have HO_5 := n0_; have HO_6 := n1_; have BK664 := n2_; have BK672 := n3_; have HB := n4_; clear n0_ n1_ n2_ n3_ n4_; (try clear hb); (try clear hk)))
       go_roundg k1
       case measure => have := HK1.out; omega
       case rel => exact ⟨(x6_1), (wrap64 (x16_1 + 1)), (Sh.es), H', ⟨by have := HK1.out; omega⟩, ⟨Sh.rl HO_5.out⟩, ⟨Sh.rl HO_6.out⟩, ⟨by refine Sh.pl ?_; exact BK664.out⟩, ⟨Sh.bw⟩⟩
     ·rw [if_neg c12] at H
      cases H
    ·rw [if_neg c11] at H
     cases H
   ·rw [if_neg c10] at H
    replace c10 := decide_eq_false c10
    by_cases c35 : (x6_1.length : Int) = 0
    ·rw [if_pos c35] at H
     have c35b0 : ((x6_1.length : Int) == 0) = true := beq_iff_eq.mpr c35
     have c35b1 : ((x6_1.length : Int) != 0) = false := bne_eq_false_iff_eq.mpr c35
     clear c35
     obtain ⟨y681, hy681⟩ : ∃ y_ : List Int, y_ = (([a1] : List Int)) := ⟨_, rfl⟩
     replace H : (some y681) = some r := by first | (rw [hy681]; with_reducible exact H) | (have H2_ := (Option.bind_some _ _).symm.trans H; rw [hy681]; with_reducible exact H2_) | (have H2_ := (Option.bind_some _ _).symm.trans H; with_reducible exact H2_) | with_reducible exact H | (rw [hy681]; exact H) | exact H
     have Ny681 := am_ hy681
     clear hy681
     obtain rfl := Option.some.inj H
     obtain ⟨Ao36, co36, eo36⟩ := Kd.R_slice HO_6.out
     subst eo36
     go_wp2_with (first | ((with_reducible refine Sh.d 39 ?_); refine Kd.R_lit (Kd.int .i64) _ 3 ?hg (N := 39) ?hd (xs := ([a1] : List Int)) (inner := [.int .i64 a1]) (ok := fun _ => True) (okp := fun _ => True) ?hr ?hp (fun _ hk => hk) trivial (Below.refl _ _) (Nat.le_refl _) (by simp) ?_; (case hd => rfl); (case hg => rfl); (case hr => first | (go_simp; done) | (go_simp; rfl)); (case hp => exact (Reps.one (show Kd.M (Kd.int .i64) _ _ _ a1 [.int .i64 a1] from rfl) (Reps.none _ _))); intro v682 w37 ho38 hb hg_ hnew_; clear hg_ hnew_; (first | rw [← Ny681.out] at ho38 | (simp only [Int.reduceToNat] at ho38; rw [← Ny681.out] at ho38)); replace HO_5 := am_ (Kd.R_below (Sh.rl HO_5.out) hb); have HO683 := am_ (Kd.R_lower (Kd.R_new' ho38 (Kd.R_lt (Sh.rl HO_6.out))) (below_size Sh.bw)); replace HO_6 := am_ (Kd.R_elder' (Sh.rl HO_6.out) (Kd.R_base ho38) hb); replace BK664 := Sh.ab BK664 hb; replace HB := Sh.hb hb; clear hb ho38))
     go_ret
     exact ⟨_, Sh.eR, Sh.rl (Kd.R_mono HO683.out (fun _ hk => trivial)), Sh.bw⟩
    ·rw [if_neg c35] at H
     have c35b0 : ((x6_1.length : Int) == 0) = false := beq_eq_false_iff_ne.mpr c35
     have c35b1 : ((x6_1.length : Int) != 0) = true := bne_iff_ne.mpr c35
     have c35b2 : ¬ (x6_1 = []) := fun h_ => c35 (by rw [h_]; rfl)
     obtain ⟨t684, A39, H⟩ := Sh.ba H
     obtain ⟨t685, A40, H⟩ := Sh.ba H
     obtain rfl := Option.some.inj H
     obtain ⟨Ao41, co41, eo41⟩ := Kd.R_slice HO_6.out
     subst eo41
     go_wp2_with (first | ((with_reducible refine Sh.k 91 ?_); refine Sh.gL (some 41) Tryz.func91 #[.slice Ao41 x6_1.length co41] (h := ?_); (with_reducible refine (slices_Sort_int_int.calls (fun k_ => some k_ = (.slice Ao41 x6_1.length co41 : Value).ownBlock) (.slice Ao41 x6_1.length co41) x6_1 t684 w _ ?side1 ?side2 A39.out).mono ?_); (case side1 => repeat (first | (with_reducible first | exact HB.out | apply below_alloc | apply pw_below_drewN | apply below_drew1 | refine below_set ?_ GE664.out) | exact HB.out)); (case side2 => exact Kd.R_tight rfl HO_6.out); rintro e w42 ⟨rfl, hy0, hb, hkp⟩; refine ⟨_, rfl, ?_⟩; replace HO_5 := am_ (Kd.R_mono (ok' := fun k_ => True) (Kd.R_keptB ((Kd.R_apart' HO_5.out (Kd.R_typed HO_6.out) (by decide))) hkp (fun k_ hk_ hs_ => (hk_.2) hs_)) (fun k_ hk_ => trivial)); replace BK664 := am_ (blk_kept (Sh.pl BK664.out) hkp (fun hs_ => (fun e_ => (Kd.R_ne HO_6.out BK664.out (by decide)) e_) hs_)); replace HO_6 := am_ (Kd.R_reok rfl hy0 (fun k_ e_ => HO_6.out.1 k_ e_)); replace HB := am_ hb; (try clear hb); (try clear hkp); (try clear hy0)) | ((with_reducible refine Sh.k 92 ?_); refine Sh.gL (some 43) Tryz.func92 #[.slice Ao41 x6_1.length co41] (h := ?_); (with_reducible refine (slices_Compact_int_int.calls (fun k_ => some k_ = (.slice Ao41 x6_1.length co41 : Value).ownBlock) (.slice Ao41 x6_1.length co41) t684 t685 w _ ?side1 ?side2 A40.out).mono ?_); (case side1 => repeat (first | (with_reducible first | exact HB.out | apply below_alloc | apply pw_below_drewN | apply below_drew1 | refine below_set ?_ GE664.out) | exact HB.out)); (case side2 => exact Kd.R_tight rfl HO_6.out); rintro e w43 ⟨v686, rfl, ho0, hb, hkp⟩; refine ⟨_, rfl, ?_⟩; have n0_ := am_ (Kd.R_mono (ok' := fun k_ => True) (Kd.R_keptB ((Kd.R_apart' HO_5.out (Kd.R_typed HO_6.out) (by decide))) hkp (fun k_ hk_ hs_ => (hk_.2) hs_)) (fun k_ hk_ => trivial)); have n1_ := am_ (blk_kept (Sh.pl BK664.out) hkp (fun hs_ => (fun e_ => (Kd.R_ne HO_6.out BK664.out (by decide)) e_) hs_)); have n2_ := am_ (Kd.R_mono (ok' := fun k_ => True) ho0 (fun k_ hk_ => trivial)); have n3_ := am_ hb; clear HO_5; clear BK664; clear HB; clear HO_6; have HO_5 := n0_; have BK664 := n1_; have HO687 := n2_; have HB := n3_; clear n0_ n1_ n2_ n3_; (try clear hb); (try clear hkp); (try clear ho0)))
     go_ret
     exact ⟨_, Sh.eR, Sh.rl HO687.out, Sh.bw⟩
def impl_Program_states.f (a0_0 : Int) (a0_1 : Int) (l0_2 : List (S79)) (l0_3 : List (S95)) : Option (Int) := if 0 ≤ (wrap64 (a0_0 * a0_1)) then (some (shl .i64 1 (wrap64 (a0_0 * a0_1)))) else (none)
theorem impl_Program_states.calls (a0_0 : Int) (a0_1 : Int) (A0_2 : Option Addr) (c0_2 : Nat) (l0_2 : List (S79)) (A0_3 : Option Addr) (c0_3 : Nat) (l0_3 : List (S95)) (r : Int) (w : World) (hr0_2 : Kd.C k79 w A0_2 l0_2.length l0_2) (hc0_2 : l0_2.length ≤ c0_2) (hr0_3 : Kd.C k95 w A0_3 l0_3.length l0_3) (hc0_3 : l0_3.length ≤ c0_3) (h : impl_Program_states.f a0_0 a0_1 l0_2 l0_3 = some r) :
  Calls Tryz.prog 79 #[.agg #[.int .i64 a0_0, .int .i64 a0_1, .slice A0_2 l0_2.length c0_2, .slice A0_3 l0_3.length c0_3]] w fun e w' => e = .returned (.int .i64 r) ∧ Below w.heap.size w w' := by
 have hu33 := Tryz.underlying33
 have HR0_2 := am_ hr0_2
 have HC0_2 := am_ hc0_2
 clear hr0_2 hc0_2
 have HR0_3 := am_ hr0_3
 have HC0_3 := am_ hc0_3
 clear hr0_3 hc0_3
 have HB := am_ (Below.refl w.heap.size w)
 have H := h
 clear h
 unfold impl_Program_states.f at H
 obtain ⟨ji2, hj1⟩ : ∃ j_ : Int, (wrap64 (a0_0 * a0_1)) = j_ := ⟨_, rfl⟩
 replace H : (if 0 ≤ (ji2) then (some (shl .i64 1 (ji2))) else (none)) = some r := by first | (rw [hj1] at H; exact H) | (simp only [hj1] at H ⊢; exact H)
 have hji2w : (IntKind.i64.wrap (a0_0 * a0_1)) = ji2 := (i64_w _).trans hj1
 by_cases c3 : 0 ≤ (ji2)
 ·rw [if_pos c3] at H
  have c3b0 := eq_true c3
  have c3b1 := decide_eq_true c3
  clear c3
  obtain ⟨ji4, hj2⟩ : ∃ j_ : Int, (shl .i64 1 (ji2)) = j_ := ⟨_, rfl⟩
  replace H : (some ji4) = some r := by first | (rw [hj2] at H; exact H) | (simp only [hj2] at H ⊢; exact H)
  have hji4_ : (IntKind.i64.wrap (1 * 2 ^ min (ji2).toNat 64)) = ji4 := hj2
  have hji4z : (ji2) ≤ 64 → (IntKind.i64.wrap (1 * 2 ^ (ji2).toNat)) = ji4 := shl_small hj2
  have hji4u : (IntKind.i64.wrap (2 ^ min (ji2).toNat 64)) = ji4 := by have h_ := hji4_; rw [Int.one_mul] at h_; exact h_
  have hji4v : (ji2) ≤ 64 → (IntKind.i64.wrap (2 ^ (ji2).toNat)) = ji4 := fun hle_ => by have h_ := hji4z hle_; rw [Int.one_mul] at h_; exact h_
  have hji4y : (wrap64 (1 * 2 ^ min (ji2).toNat 64)) = ji4 := (i64_w _).symm.trans hji4_
  have hji4x : (ji2) ≤ 64 → (wrap64 (1 * 2 ^ (ji2).toNat)) = ji4 := fun h_ => (i64_w _).symm.trans (hji4z h_)
  obtain rfl := Option.some.inj H
  go_enter Tryz.func79, Tryz.ntmps79
  go_wp2_with (first | ((with_reducible refine Sh.d 1 ?_); refine Sh.bz w (N := 1) (cs := #[.int .i64 a0_0, .int .i64 a0_1, .slice A0_2 l0_2.length c0_2, .slice A0_3 l0_3.length c0_3]) (t := 33) (h := ?_); clear HB; intro gb688 w5 BK688 GE688 HB; obtain ⟨hcz6_0, hcz6_1, hcz6_2, hcz6_3, hfz6_0, hfz6_1, hfz6_2, hfz6_3⟩ := Sh.b4 BK688.out))
  go_ret
  exact ⟨by first | rfl | (simp [errW_none, errW_some] <;> rfl) | (simp only [← hj1, ← hj2]; first | rfl | (simp [errW_none, errW_some] <;> rfl)) | (simp [*, errW_none, errW_some] <;> rfl), Sh.bw⟩
 ·rw [if_neg c3] at H
  cases H
def impl_Program_graph.l0 : Nat → List (List Int) → Int → Int → Int → Int → List (S79) → List (S95) → Option ((List (List Int)))
 | 0, _, _, _, _, _, _, _ => none
 | k + 1, x3, x7, x8, x690000, x690001, x690002, x690003 => if x8 < x7 then ((impl_Program_nextOf.f k x690000 x690001 x690002 x690003 x8).bind fun t694 => (if x3.length < 5864062014805 then (impl_Program_graph.l0 k (x3 ++ [t694]) x7 (wrap64 (x8 + 1)) x690000 x690001 x690002 x690003) else (none))) else (some x3)
def impl_Program_graph.f (k : Nat) (a0_0 : Int) (a0_1 : Int) (l0_2 : List (S79)) (l0_3 : List (S95)) : Option ((List (List Int))) := (impl_Program_states.f a0_0 a0_1 l0_2 l0_3).bind fun t693 => (impl_Program_graph.l0 k (([] : List (List Int))) t693 0 a0_0 a0_1 l0_2 l0_3)
theorem impl_Program_graph.mono_l : ∀ k, (∀ y0 y1 y2 y3 y4 y5 y6, LeO (impl_Program_graph.l0 k y0 y1 y2 y3 y4 y5 y6) (impl_Program_graph.l0 (k + 1) y0 y1 y2 y3 y4 y5 y6))
 | 0 => fun _ _ _ _ _ _ _ r h => by simp [impl_Program_graph.l0] at h
 | k + 1 => by
  have ih0 := impl_Program_graph.mono_l k
  ·intro y0 y1 y2 y3 y4 y5 y6
   unfold impl_Program_graph.l0
   repeat' with_reducible first | apply ih0 | apply impl_Program_nextOf.mono | exact LeO.refl _ | exact LeO.none _ | apply LeO.ite | refine LeO.bind ?_ fun _ => ?_
theorem impl_Program_graph.mono : ∀ a0 a1 a2 a3 k, LeO (impl_Program_graph.f k a0 a1 a2 a3) (impl_Program_graph.f (k + 1) a0 a1 a2 a3) := by
 intro a0 a1 a2 a3 k
 have ih0 := impl_Program_graph.mono_l k
 unfold impl_Program_graph.f
 repeat' with_reducible first | apply ih0 | apply impl_Program_nextOf.mono | exact LeO.refl _ | exact LeO.none _ | apply LeO.ite | refine LeO.bind ?_ fun _ => ?_
theorem impl_Program_graph.calls (k : Nat) (a0_0 : Int) (a0_1 : Int) (A0_2 : Option Addr) (c0_2 : Nat) (l0_2 : List (S79)) (A0_3 : Option Addr) (c0_3 : Nat) (l0_3 : List (S95)) (r : List (List Int)) (w : World) (hr0_2 : Kd.C k79 w A0_2 l0_2.length l0_2) (hc0_2 : l0_2.length ≤ c0_2) (hr0_3 : Kd.C k95 w A0_3 l0_3.length l0_3) (hc0_3 : l0_3.length ≤ c0_3) (h : impl_Program_graph.f k a0_0 a0_1 l0_2 l0_3 = some r) :
  Calls Tryz.prog 71 #[.agg #[.int .i64 a0_0, .int .i64 a0_1, .slice A0_2 l0_2.length c0_2, .slice A0_3 l0_3.length c0_3]] w fun e w' => ∃ v0_ : Value, e = .returned (v0_) ∧ Kd.S (Kd.slice 3 (Kd.int .i64)) 27 w' w.heap.size (fun _ => True) v0_ r ∧ Below w.heap.size w w' := by
 have hu33 := Tryz.underlying33
 have HR0_2 := am_ hr0_2
 have HC0_2 := am_ hc0_2
 clear hr0_2 hc0_2
 have HR0_3 := am_ hr0_3
 have HC0_3 := am_ hc0_3
 clear hr0_3 hc0_3
 have HB := am_ (Below.refl w.heap.size w)
 have H := h
 clear h
 unfold impl_Program_graph.f at H
 obtain ⟨y690, hy690⟩ : ∃ y_ : List (List Int), y_ = (([] : List (List Int))) := ⟨_, rfl⟩
 replace H : ((impl_Program_states.f a0_0 a0_1 l0_2 l0_3).bind fun t693 => (impl_Program_graph.l0 k y690 t693 0 a0_0 a0_1 l0_2 l0_3)) = some r := by first | (rw [hy690]; with_reducible exact H) | (have H2_ := (Option.bind_some _ _).symm.trans H; rw [hy690]; with_reducible exact H2_) | (have H2_ := (Option.bind_some _ _).symm.trans H; with_reducible exact H2_) | with_reducible exact H | (rw [hy690]; exact H) | exact H
 have Ny690 := am_ hy690
 clear hy690
 obtain ⟨t693, A2, H⟩ := Sh.ba H
 have H' := am_ H
 clear H
 go_enter Tryz.func71, Tryz.ntmps71
 go_wp2_with (first | ((with_reducible refine Sh.d 1 ?_); refine Sh.bz w (N := 1) (cs := #[.int .i64 a0_0, .int .i64 a0_1, .slice A0_2 l0_2.length c0_2, .slice A0_3 l0_3.length c0_3]) (t := 33) (h := ?_); clear HB; intro gb689 w3 BK689 GE689 HB) | ((with_reducible refine Sh.d 5 ?_); refine Kd.S_lit (Kd.slice 3 (Kd.int .i64)) _ 27 ?hg (N := 5) ?hd (xs := ([] : List (List Int))) (inner := []) (ok := fun _ => True) (okp := fun _ => True) ?hr ?hp (fun _ hk => hk) trivial (Below.refl _ _) (Nat.le_refl _) (by simp) ?_; (case hd => rfl); (case hg => rfl); (case hr => first | (go_simp; done) | (go_simp; rfl)); (case hp => exact (Reps.none _ _)); intro v691 w4 ho5 hb hg_ hnew_; clear hg_ hnew_; (first | rw [← Ny690.out] at ho5 | (simp only [Int.reduceToNat] at ho5; rw [← Ny690.out] at ho5)); have HO692 := am_ (Kd.S_lower ho5 (below_size Sh.bw)); replace BK689 := Sh.ab BK689 hb; replace HB := Sh.hb hb; clear hb ho5; obtain ⟨hcz6_0, hcz6_1, hcz6_2, hcz6_3, hfz6_0, hfz6_1, hfz6_2, hfz6_3⟩ := Sh.b4 BK689.out) | ((with_reducible refine Sh.k 79 ?_); refine Sh.gB (some 7) Tryz.func79 #[.agg #[.int .i64 a0_0, .int .i64 a0_1, .slice A0_2 l0_2.length c0_2, .slice A0_3 l0_3.length c0_3]] (impl_Program_states.calls a0_0 a0_1 _ _ l0_2 _ _ l0_3 t693 _ (Sh.cB HR0_2.out) HC0_2.out (Sh.cB HR0_3.out) HC0_3.out A2.out) fun w7 hb => ?_; replace HO692 := am_ (Kd.S_below (by (with_reducible repeat (first | apply Kd.S_alloc | apply Kd.S_drewN | apply Kd.S_drew)); exact HO692.out) hb); replace BK689 := Sh.ab BK689 hb; replace HB := Sh.hb hb; (try clear hb); (try clear hk)))
 go_loopg [3, 8] k (fun kq v3 v8 w' => ∃ (x3_1 : List (List Int)) (x8_1 : Int), v8 = .int .i64 x8_1 ∧ Aside0 (impl_Program_graph.l0 kq x3_1 t693 x8_1 a0_0 a0_1 l0_2 l0_3 = some r) ∧ Aside0 (kq ≤ k) ∧ Aside0 (Kd.S (Kd.slice 3 (Kd.int .i64)) 27 w' w.heap.size (fun _ => True) v3 x3_1) ∧ Aside0 (w'.heap[gb689]? = some (.cells #[.int .i64 a0_0, .int .i64 a0_1, (.slice A0_2 l0_2.length c0_2), (.slice A0_3 l0_3.length c0_3)] 33 (0, 0))) ∧ Aside0 (Below w.heap.size w w'))
 case atStart => exact ⟨(y690), (0), (Sh.es), H', ⟨Nat.le_refl _⟩, ⟨by (with_reducible repeat (first | apply Kd.S_alloc | apply Kd.S_drewN | apply Kd.S_drew)); exact HO692.out⟩, ⟨by refine Sh.pl ?_; exact BK689.out⟩, ⟨Sh.bw⟩⟩
 case round =>
  clear H'
  try clear hcz6_0
  try clear hcz6_1
  try clear hcz6_2
  try clear hcz6_3
  try clear hfz6_0
  try clear hfz6_1
  try clear hfz6_2
  try clear hfz6_3
  obtain ⟨x3_1, x8_1, rfl, HA, HK1, HO_3, BK689, HB⟩ := hrel
  cases gk with
  | zero => exact absurd HA.out (by simp [impl_Program_graph.l0])
  | succ k1 =>
   have H := HA.out
   clear HA
   simp only [impl_Program_graph.l0] at H
   by_cases c8 : x8_1 < t693
   ·rw [if_pos c8] at H
    replace c8 := decide_eq_true c8
    obtain ⟨t694, A9, H⟩ := Sh.ba H
    by_cases c10 : x3_1.length < 5864062014805
    ·rw [if_pos c10] at H
     have LMc10 := am_ c10
     clear c10
     obtain ⟨y697, hy697⟩ : ∃ y_ : List (List Int), y_ = (x3_1 ++ [t694]) := ⟨_, rfl⟩
     replace H : (impl_Program_graph.l0 k1 y697 t693 (wrap64 (x8_1 + 1)) a0_0 a0_1 l0_2 l0_3) = some r := by first | (rw [hy697]; with_reducible exact H) | (have H2_ := (Option.bind_some _ _).symm.trans H; rw [hy697]; with_reducible exact H2_) | (have H2_ := (Option.bind_some _ _).symm.trans H; with_reducible exact H2_) | with_reducible exact H | (rw [hy697]; exact H) | exact H
     have Ny697 := am_ hy697
     clear hy697
     have H' := am_ H
     clear H
     have hcz11_0 := Sh.bc BK689.out 0
     have hcz11_1 := Sh.bc BK689.out 1
     have hcz11_2 := Sh.bc BK689.out 2
     have hcz11_3 := Sh.bc BK689.out 3
     have hfz11_0 := blk_frozen BK689.out 0
     have hfz11_1 := blk_frozen BK689.out 1
     have hfz11_2 := blk_frozen BK689.out 2
     have hfz11_3 := blk_frozen BK689.out 3
     go_wp2_with (first | ((with_reducible refine Sh.k 43 ?_); refine Sh.gL (some 14) Tryz.func43 #[.agg #[.int .i64 a0_0, .int .i64 a0_1, .slice A0_2 l0_2.length c0_2, .slice A0_3 l0_3.length c0_3], .int .i64 x8_1] (h := ?_); (with_reducible refine (impl_Program_nextOf.calls k1 a0_0 a0_1 _ _ l0_2 _ _ l0_3 x8_1 t694 _ (Sh.cB HR0_2.out) HC0_2.out (Sh.cB HR0_3.out) HC0_3.out A9.out).mono ?_); rintro e w12 ⟨v695, rfl, ho0, hb⟩; refine ⟨_, rfl, ?_⟩; replace HO_3 := am_ (Kd.S_elder' (by (with_reducible repeat (first | apply Kd.S_alloc | apply Kd.S_drewN | apply Kd.S_drew)); exact HO_3.out) (Kd.R_base ho0) hb); have HO696 := am_ (Kd.R_lower ho0 (below_size Sh.bw)); replace BK689 := Sh.ab BK689 hb; replace HB := Sh.hb hb; (try clear hb); (try clear ho0); obtain ⟨Ao14, co14, eo14⟩ := Kd.R_slice HO696.out; subst eo14) | ((with_reducible refine gate_builtin (b := .append) (xs := #[.tmp 11, .tmp 15]) rfl ?_); at_builtin; refine Kd.S_append (Kd.slice 3 (Kd.int .i64)) (w0 := w) w.heap.size rfl (.tmp 11) (.tmp 15) 88 27 (.slice none 0 0) 24 rfl Tryz.underlying88 info27 rfl (by decide) (by omega) u3 x3_1 t694 [.slice Ao14 t694.length co14] (fun _ => True) (fun k_ => some k_ = (.slice Ao14 t694.length co14 : Value).ownBlock) rfl rfl ?aP (fun k_ hk_ => ((Kd.R_mono (ok' := fun k_ => ((fun _ => True)) k_ ∧ some k_ ≠ (u3 : Value).ownBlock) (Kd.R_apart' (HO696.out) (Kd.S_typed HO_3.out) (by decide)) (fun k_ hk => ⟨trivial, hk.2⟩))).1 k_ hk_.symm) ?aF ?aO ?aB ?aS ?aL ?_; (case aP => exact Kd.M_row (Kd.R_mono (Kd.R_tight rfl (Kd.R_mono (ok' := fun k_ => ((fun _ => True)) k_ ∧ some k_ ≠ (u3 : Value).ownBlock) (Kd.R_apart' (HO696.out) (Kd.S_typed HO_3.out) (by decide)) (fun k_ hk => ⟨trivial, hk.2⟩))) (fun _ h_ => h_))); (case aB => exact Sh.bw); (case aF => exact (fun _ _ => trivial)); (case aO => exact (by (with_reducible repeat (first | apply Kd.S_alloc | apply Kd.S_drewN | apply Kd.S_drew)); exact Kd.S_mono HO_3.out (fun k_ hk => ⟨trivial, fun e_ => hk.2 e_⟩))); (case aS => exact (below_size Sh.bw)); (case aL => have := LMc10.out; omega); intro v698 w13 ho hb hg hat; rw [← Ny697.out] at ho; have n0_ := am_ (blk_grown (g := gb689) (o := .cells #[.int .i64 a0_0, .int .i64 a0_1, .slice A0_2 l0_2.length c0_2, .slice A0_3 l0_3.length c0_3] 33 (0, 0)) (Sh.pl BK689.out) hg (Kd.S_ne HO_3.out BK689.out (by decide))); have n1_ := am_ hb; have n2_ := am_ ho; clear BK689; clear HB; clear HO_3; clear HO696; have BK689 := n0_; have HB := n1_; have HO699 := n2_; clear n0_ n1_ n2_; clear ho hb hg hat))
     go_roundg k1
     case measure => have := HK1.out; omega
     case rel => exact ⟨(y697), (wrap64 (x8_1 + 1)), (Sh.es), H', ⟨by have := HK1.out; omega⟩, ⟨by (with_reducible repeat (first | apply Kd.S_alloc | apply Kd.S_drewN | apply Kd.S_drew)); exact HO699.out⟩, ⟨by refine Sh.pl ?_; exact BK689.out⟩, ⟨Sh.bw⟩⟩
    ·rw [if_neg c10] at H
     cases H
   ·rw [if_neg c8] at H
    replace c8 := decide_eq_false c8
    obtain rfl := Option.some.inj H
    go_wp2
    go_ret
    exact ⟨_, Sh.eR, by (with_reducible repeat (first | apply Kd.S_alloc | apply Kd.S_drewN | apply Kd.S_drew)); exact HO_3.out, Sh.bw⟩
def bits_Mul64.f (a0 : Int) (a1 : Int) : Option (Int × Int) := some (IntKind.u64.wrap ((IntKind.u64.wrap ((IntKind.u64.wrap ((a0 / 4294967296) * (a1 / 4294967296))) + ((IntKind.u64.wrap ((IntKind.u64.wrap ((a0 / 4294967296) * (Go.bits .and .u64 a1 4294967295))) + ((IntKind.u64.wrap ((Go.bits .and .u64 a0 4294967295) * (Go.bits .and .u64 a1 4294967295))) / 4294967296))) / 4294967296))) + ((IntKind.u64.wrap ((Go.bits .and .u64 (IntKind.u64.wrap ((IntKind.u64.wrap ((a0 / 4294967296) * (Go.bits .and .u64 a1 4294967295))) + ((IntKind.u64.wrap ((Go.bits .and .u64 a0 4294967295) * (Go.bits .and .u64 a1 4294967295))) / 4294967296))) 4294967295) + (IntKind.u64.wrap ((Go.bits .and .u64 a0 4294967295) * (a1 / 4294967296))))) / 4294967296)), IntKind.u64.wrap (a0 * a1))
theorem bits_Mul64.calls (a0 : Int) (a1 : Int) (r1 : Int) (r2 : Int) (w : World) (h : bits_Mul64.f a0 a1 = some (r1, r2)) :
  Calls Tryz.prog 158 #[.int .u64 a0, .int .u64 a1] w fun e w' => e = .returned (.tuple #[.int .u64 r1, .int .u64 r2]) ∧ Drawn0 w w' := by
 have H := h
 clear h
 unfold bits_Mul64.f at H
 obtain ⟨rfl, rfl⟩ := Prod.mk.inj (Option.some.inj H)
 go_enter Tryz.func158, Tryz.ntmps158
 go_wp2
 go_ret2
 exact ⟨Sh.es, Sh.dr⟩
def bits_Mul.f (a0 : Int) (a1 : Int) : Option (Int × Int) := (bits_Mul64.f a0 a1).bind fun bt712 => (some (bt712.1, bt712.2))
theorem bits_Mul.calls (a0 : Int) (a1 : Int) (r1 : Int) (r2 : Int) (w : World) (h : bits_Mul.f a0 a1 = some (r1, r2)) :
  Calls Tryz.prog 130 #[.int .u64 a0, .int .u64 a1] w fun e w' => e = .returned (.tuple #[.int .u64 r1, .int .u64 r2]) ∧ Drawn0 w w' := by
 have H := h
 clear h
 unfold bits_Mul.f at H
 obtain ⟨⟨t712, t713⟩, A30, H⟩ := Sh.bd H
 have A3 := am_ A30
 clear A30
 obtain ⟨rfl, rfl⟩ := Prod.mk.inj (Option.some.inj H)
 go_enter Tryz.func130, Tryz.ntmps130
 go_wp2_with (first | ((with_reducible refine Sh.k 158 ?_); refine Sh.gD (some 25) Tryz.func158 #[.int .u64 a0, .int .u64 a1] (bits_Mul64.calls a0 a1 t712 t713 _ A3.out) fun nd => ?_))
 go_ret2
 exact ⟨Sh.es, Sh.dr⟩
theorem slices_Repeat_int_int.mul (n : Nat) (h1 : n ≤ 1048576) : bits_Mul.f 1 n = some (0, (n : Int)) := by
  have e1 : Go.bits .and .u64 1 4294967295 = 1 := by rfl
  have e2 : ∀ m : Nat, m ≤ 1048576 → Go.bits .and .u64 (m : Int) 4294967295 = m := fun m hm => by
    rw [show (4294967295 : Int) = ((2 ^ 32 - 1 : Nat) : Int) by rfl, bits_and_u64_nat _ _ (by omega) (by decide), Nat.and_two_pow_sub_one_eq_mod, Nat.mod_eq_of_lt (by omega)]
  have e3 : ∀ x : Int, 0 ≤ x → x ≤ 1048576 → IntKind.u64.wrap x = x := fun x h0 h1 => by rw [IntKind.wrap_u64]; omega
  have e0 : Go.bits .and .u64 (0 : Int) 4294967295 = 0 := e2 0 (by omega)
  unfold bits_Mul.f bits_Mul64.f
  rw [e1, e2 n h1, show ((n : Int) / 4294967296) = 0 by omega, show ((1 : Int) / 4294967296) = 0 by rfl]
  simp only [Int.zero_mul, Int.one_mul, Int.mul_zero, Option.bind_some]
  rw [e3 n (by omega) (by omega), e3 0 (by omega) (by omega)]
  rw [show ((n : Int) / 4294967296) = 0 by omega]
  simp only [Int.zero_add, e3 0 (by omega) (by omega), e0, Int.zero_ediv]
def slices_Repeat_int_int.f (l0 : List Int) (n : Int) : Option (List Int) := if l0.length = 1 ∧ 0 ≤ n ∧ n ≤ 1048576 then some (List.replicate n.toNat (l0.getD 0 0)) else none
theorem slices_Repeat_int_int.calls (A0 : Option Addr) (c0 : Nat) (l0 : List (Int)) (a1 : Int) (r : List Int) (w : World) (hr0 : Kd.C (Kd.int .i64) w A0 l0.length l0) (hc0 : l0.length ≤ c0) (h : slices_Repeat_int_int.f l0 a1 = some r) :
    Calls Tryz.prog 105 #[.slice A0 l0.length c0, .int .i64 a1] w fun e w' => ∃ v0_ : Value, e = .returned (v0_) ∧ Kd.R (Kd.int .i64) 3 w' w.heap.size (fun _ => True) v0_ r ∧ Below w.heap.size w w' := by
  have hf : l0.length = 1 ∧ 0 ≤ a1 ∧ a1 ≤ 1048576 := by
    rcases Decidable.em (l0.length = 1 ∧ 0 ≤ a1 ∧ a1 ≤ 1048576) with h1 | h1
    · exact h1
    · rw [slices_Repeat_int_int.f, if_neg h1] at h; cases h
  rw [slices_Repeat_int_int.f, if_pos hf] at h
  obtain rfl := Option.some.inj h
  clear h
  obtain ⟨h1, h0, hN⟩ := hf
  obtain ⟨ad, e, hx⟩ := Kd.at_int hr0 (0 : Int) (by omega) (by omega)
  subst e
  have hmul := slices_Repeat_int_int.mul a1.toNat (by omega)
  rw [show ((a1.toNat : Nat) : Int) = a1 by omega] at hmul
  have HM := am_ hmul
  clear hmul
  rw [show rd l0 (0 : Int) = l0.getD 0 0 by simp [rd]] at hx
  generalize l0.getD 0 0 = x at hx ⊢
  generalize l0.length = n0 at *
  subst h1
  have HX := am_ hx
  clear hx hr0
  obtain ⟨N, rfl⟩ := Int.eq_ofNat_of_zero_le h0
  have n0 : ¬ ((N : Int) < 0) := by omega
  have ew : wrap64 (N : Int) = N := by unfold wrap64; omega
  have eu : IntKind.u64.wrap (N : Int) = N := by rw [IntKind.wrap_u64]; omega
  have ng : ¬ ((N : Int) > 9223372036854775807) := by omega
  have HN := am_ hN
  clear hN h0
  have HB := am_ (Below.refl w.heap.size w)
  have hsz : (Tryz.prog.info? 3).map (·.size) = some 1 := by kernel_rfl
  have HS := am_ hsz
  clear hsz
  have NM := am_ (show (N : Int).toNat = N from rfl)
  go_enter Tryz.func105, Tryz.ntmps105
  go_wp2_with (first
    | (go_at_call 130; refine (bits_Mul.calls 1 (N : Int) 0 (N : Int) _ HM.out).mono ?_; rintro e w' ⟨rfl, ⟨nd, rfl⟩⟩)
    | ((with_reducible refine Sh.d 30 ?_); refine Kd.R_make (Kd.int .i64) (w0 := w) w.heap.size 3 rfl (N := 30) rfl 27 _ _ rfl (N : Int) rfl rfl Tryz.underlying27 (.int .i64 0) 8 info3 rfl (by decide) (by omega) 0 (ok := fun _ => True) (okp := fun _ => True) rfl (fun _ hk => hk) trivial (by omega) (by have := HN.out; omega) (pw_below_drewN HB.out _) (below_size (pw_below_drewN HB.out _)) ?_
       intro v1 w1 ho hb hg hat
       obtain ⟨b, hb1, _⟩ := hat
       obtain ⟨hl1, ⟨e1, _⟩ | ⟨g, cap, cur, e1, hbg, hcur, hcap, _, hsz1, _⟩⟩ := Kd.own_of_R ho
       · subst e1; simp [Value.ownBlock] at hb1
       subst e1
       obtain ⟨L, rfl⟩ : ∃ L : List Value, cur = L.toArray := ⟨cur.toList, by simp⟩
       have LEN := am_ (show L.length = cap ∧ N ≤ cap from ⟨by simpa using hsz1, by simpa using hcap⟩)
       have GB := am_ hbg
       have HC := am_ hcur
       clear hb1 hl1 hsz1 hcap ho hg hcur hbg HB
       have HB := am_ hb
       clear hb
       simp only [List.length_replicate, Int.toNat_natCast])
    | ((with_reducible refine gate_builtin (b := .copy) (xs := #[.tmp 31, .tmp 32]) rfl ?_); go_loud (refine wpList_copy_splice rfl (.tmp 31) (.tmp 32) 27 27 rfl 3 Tryz.underlying27 HS.out (some ⟨g, 0, none⟩) (some ad) N cap 1 c0 rfl rfl g 0 L 3 HC.out (List.replicate (min 1 N) (.int .i64 x)) (by simp) ?hpos ?hfit ?h1 w.heap.size w HB.out GB.out ?_)
       case hpos => exact fun _ => ⟨rfl, ad, rfl, fun j v hv => by
         have hj : j = 0 ∧ v = .int .i64 x := by
           rw [List.getElem?_replicate] at hv
           by_cases h : j < min 1 N
           · rw [if_pos h] at hv; exact ⟨by omega, (Option.some.inj hv).symm⟩
           · rw [if_neg h] at hv; cases hv
         obtain ⟨rfl, rfl⟩ := hj
         exact (HB.out.cell (World.block_lt_of_cell? w _ HX.out)).trans HX.out⟩
       case hfit => have := LEN.out; simp; omega
       case h1 => intro v hv; rw [List.eq_of_mem_replicate hv]; rfl
       intro w2 hg2 hb2
       have HC2 := am_ (show w2.heap[g]? = some (.cells (splice L 0 (List.replicate (min 1 N) (.int .i64 x))).toArray 3 (0, 0)) from hg2)
       clear HC HB hg2
       have HB := am_ hb2
       clear hb2
       simp only [List.length_replicate]))
  go_loopg [8] N (fun gg s8 wr => ∃ m : Nat, m ≤ N ∧ (0 < N → 0 < m) ∧ N - m ≤ gg ∧ s8 = .int .i64 m ∧ Aside0 (∃ L' : List Value, wr.heap[g]? = some (.cells L'.toArray 3 (0, 0)) ∧ L'.length = cap ∧ L'.take m = List.replicate m (.int .i64 x)) ∧ Aside0 (Below w.heap.size w wr))
  case atStart =>
    refine ⟨min 1 N, Nat.min_le_right _ _, by omega, by omega, rfl, ⟨_, HC2.out, ?_, ?_⟩, HB⟩
    · rw [length_splice _ _ _ (by have := LEN.out; simp; omega)]; exact LEN.out.1
    · simp [splice]
  case round =>
    obtain ⟨m, hm, hm0, hg, rfl, HL, HB⟩ := hrel
    obtain ⟨L', hL, hLl, hLt⟩ := HL.out
    clear HC2
    have HL1 := am_ hL
    have HL2 := am_ hLl
    have HL3 := am_ hLt
    clear hL hLl hLt HL
    by_cases hlt : m < N
    · have hltz : (m : Int) < (N : Int) := by omega
      obtain ⟨i0, hi0, _, hi1, _⟩ := info_parts info3
      have hNc := LEN.out.2
      have hcut1 : ∀ W : World, (Instr.slice 27 (.slice (some ⟨g, 0, none⟩) N cap) (some (.int .i64 (m : Int))) none none).run Tryz.prog W = .ok (.slice (some ⟨g, m, none⟩) (N - m) (cap - m)) W := by
        intro W
        rw [cut_from (P := Tryz.prog) 27 3 .i64 Tryz.underlying27 hi0 1 hi1 (some ⟨g, 0, none⟩) N cap (m : Int) (by omega) (by omega) W, Int.toNat_natCast, if_neg (by omega)]
        simp [Addr.add] <;> omega
      have hcut2 := cut_to (P := Tryz.prog) 27 3 .i64 Tryz.underlying27 hi0 (some ⟨g, 0, none⟩) N cap (m : Int) (by omega) (by omega) hNc
      rw [Int.toNat_natCast] at hcut2
      clear hi1
      have HI := am_ hi0
      clear hi0
      have hs := am_ (show ∀ j v, (List.replicate (min m (N - m)) (Value.int .i64 x))[j]? = some v → wr.cell? ((⟨g, 0, none⟩ : Addr).add j) = some v from fun j v hv => by
        rw [List.getElem?_replicate] at hv
        by_cases h : j < min m (N - m)
        · rw [if_pos h] at hv
          have e : L'[j]? = some (Value.int .i64 x) := by
            have := congrArg (fun l : List Value => l[j]?) HL3.out
            simp only [List.getElem?_take, List.getElem?_replicate] at this
            rw [if_pos (by omega), if_pos (by omega)] at this
            exact this
          rw [← Option.some.inj hv]
          have ea : (⟨g, 0, none⟩ : Addr).add j = ⟨g, j, none⟩ := by unfold Addr.add; split <;> simp_all
          rw [ea]
          exact (blk_cell HL1.out j).trans (by simpa using e)
        · rw [if_neg h] at hv; cases hv)
      have hfit := am_ (show m + (List.replicate (min m (N - m)) (Value.int .i64 x)).length ≤ L'.length from by rw [HL2.out]; simp; omega)
      go_wp2
      go_region_law (refine step_copy_splice rfl (.tmp 41) (.tmp 44) 27 27 rfl 3 Tryz.underlying27 HS.out (some ⟨g, m, none⟩) (some ⟨g, 0, none⟩) (N - m) (cap - m) m cap (by simp [Act.eval, Act.put]) (by simp [Act.eval, Act.put]) g m L' 3 HL1.out (List.replicate (min m (N - m)) (.int .i64 x)) (by simp) (fun _ => ⟨rfl, _, rfl, hs.out⟩) hfit.out (fun v hv => by rw [List.eq_of_mem_replicate hv]; rfl) w.heap.size w (by first | exact HB.out | exact below_drew1 HB.out) GB.out ?_; intro w3 hg3 hb3)
      all_goals go_wp2
      all_goals (
        go_roundg (N - (m + min m (N - m)))
        case measure => omega
        case rel =>
          refine ⟨m + min m (N - m), by omega, by omega, by omega, congrArg (Value.int .i64) (by have hN := HN.out; rw [IntKind.wrap_i64]; omega), ⟨⟨_, hg3, ?_, ?_⟩⟩, ⟨hb3⟩⟩
          · rw [length_splice _ _ _ hfit.out]; exact HL2.out
          · have h1 := HL3.out
            have h2 := HL2.out
            have h3 : L'.take m ++ List.replicate (min m (N - m)) (Value.int .i64 x) = List.replicate (m + min m (N - m)) (Value.int .i64 x) := by rw [h1, List.replicate_append_replicate]
            have h4 : (L'.take m ++ List.replicate (min m (N - m)) (Value.int .i64 x)).length = m + min m (N - m) := by rw [h3, List.length_replicate]
            simp only [splice]
            rw [← List.append_assoc, List.take_append_of_le_length (by omega), ← h4, List.take_length, h3, List.length_replicate])
    · have hltz : ¬ (m : Int) < (N : Int) := by omega
      have hmN : m = N := by omega
      subst hmN
      go_wp2
      go_ret
      refine ⟨_, rfl, Kd.R_of_own (h1 := fun _ => rfl) (ok := fun _ => True) ?_ (fun _ _ => trivial), HB.out⟩
      have h1 := LEN.out
      refine ⟨by simp [encs], .inr ⟨g, cap, L'.toArray, ?_, GB.out, HL1.out, by simpa using h1.2, ?_, by simpa using HL2.out, ?_⟩⟩
      · simp
      · assumption
      · simpa [encs] using HL3.out
def slices_Clone_int_int.f (l0 : List (Int)) : Option (List (Int)) := if l0.length < 17592186044416 then some l0 else none
theorem slices_Clone_int_int.calls (A0 : Option Addr) (c0 : Nat) (l0 : List (Int)) (r : List (Int)) (w : World) (hr0 : Kd.C (Kd.int .i64) w A0 l0.length l0) (hc0 : l0.length ≤ c0) (h : slices_Clone_int_int.f l0 = some r) :
  Calls Tryz.prog 106 #[.slice A0 l0.length c0] w fun e w' => ∃ v0_ : Value, e = .returned (v0_) ∧ Kd.R (Kd.int .i64) 3 w' w.heap.size (fun _ => True) v0_ r ∧ Below w.heap.size w w' := by
 have hlim : l0.length < 17592186044416 := by
  rcases Nat.lt_or_ge l0.length 17592186044416 with h1 | h1
  ·exact h1
  ·rw [slices_Clone_int_int.f, if_neg (by omega)] at h; cases h
 rw [slices_Clone_int_int.f, if_pos hlim] at h
 obtain rfl := Option.some.inj h
 clear h
 cases A0 with
 | none =>
  have hl : l0 = [] := by
   rcases l0 with _ | ⟨x, t⟩
   ·rfl
   ·obtain ⟨ad, e, _⟩ := hr0.2.2 (by simp)
    cases e
  subst hl
  have he : ∀ (w : World) (n c : Nat), (binOp .eql 27 (.slice none n c) (.slice none 0 0)).run Tryz.prog w = .ok (.bool true) w := fun _ _ _ => rfl
  go_enter Tryz.func106, Tryz.ntmps106
  go_wp2
  all_goals (go_ret; exact ⟨_, rfl, Kd.R_nil _ _ _ _ _, Below.refl _ _⟩)
 | some a0 =>
  have HR0 := am_ hr0
  have HC0 := am_ hc0
  clear hr0 hc0
  have HB := am_ (Below.refl w.heap.size w)
  have LM := am_ hlim
  clear hlim
  have he : ∀ (w : World) (n c : Nat), (binOp .eql 27 (.slice (some a0) n c) (.slice none 0 0)).run Tryz.prog w = .ok (.bool false) w := fun _ _ _ => rfl
  go_enter Tryz.func106, Tryz.ntmps106
  go_wp2_with (first | ((with_reducible refine Sh.d 5 ?_); refine Kd.R_lit (Kd.int .i64) _ 3 ?hg (N := 5) ?hd (xs := ([] : List (Int))) (inner := []) (ok := fun _ => True) (okp := fun _ => True) ?hr ?hp (fun _ hk => hk) trivial (Below.refl _ _) (Nat.le_refl _) (by simp) ?_; (case hd => rfl); (case hg => rfl); (case hr => first | (go_simp; done) | (go_simp; rfl)); (case hp => exact (Reps.none _ _)); intro v359 w3 ho4 hb hg_ hnew_; clear hg_ hnew_; have HO360 := am_ (Kd.R_lower ho4 (below_size Sh.bw)); replace HB := Sh.hb hb; clear hb ho4) | ((with_reducible refine gate_builtin (b := .append) (xs := #[.tmp 5, .tmp 6]) rfl ?_); at_builtin; refine Kd.R_append_rows (Kd.int .i64) (w0 := w) w.heap.size rfl (.tmp 5) (.tmp 6) 27 3 (.int .i64 0) 8 rfl Tryz.underlying27 info3 rfl (by decide) (by omega) v359 [] l0 _ _ _ (fun _ => True) (fun _ => False) rfl rfl ?aO ?aR (fun _ _ h => h) (fun _ h => h.elim) ?aF ?aB ?aS ?aL ?_; (case aR => repeat (first | exact (Kd.C_below HR0.out HB.out) | (with_reducible first | refine Kd.C_alloc ?_ _ | refine Kd.C_drewN ?_ _ | refine Kd.C_drew ?_))); (case aB => exact Sh.bw); (case aF => exact (fun _ _ => trivial)); (case aO => exact (Sh.rl HO360.out)); (case aS => exact (below_size Sh.bw)); (case aL => have := LM.out; simp only [List.length_nil]; omega); intro v362 w5 ho hb hg hat; rw [List.nil_append] at ho; have n0_ := am_ hb; have n1_ := am_ ho; clear HB; clear HO360; have HB := n0_; have HO363 := n1_; clear n0_ n1_; clear ho hb hg hat))
  go_ret
  exact ⟨_, rfl, HO363.out, HB.out⟩
mutual
def impl_stepsFrom.l0 : Nat → List (List Int) → List Int → List Int → List Int → Int → Int → Option (List Int)
 | 0, _, _, _, _, _, _ => none
 | k + 1, x0, x5, x6, x17, x18, x19 => if x19 < x18 then (if 0 ≤ x19 then (if x19 < (x17.length : Int) then (if 0 ≤ (rd x17 x19) then (if (rd x17 x19) < (x5.length : Int) then (impl_stepsFrom.l0 k x0 (x5.set ((rd x17 x19) : Int).toNat 0) x6 x17 x18 (wrap64 (x19 + 1))) else (none)) else (none)) else (none)) else (none)) else (impl_stepsFrom.l1 k x0 x5 x6)
def impl_stepsFrom.l1 : Nat → List (List Int) → List Int → List Int → Option (List Int)
 | 0, _, _, _ => none
 | k + 1, x0, x5, x6 => if (x6.length : Int) > 0 then (if 0 < (x6.length : Int) then (if 0 ≤ (rd x6 0) then (if (rd x6 0) < (x0.length : Int) then (impl_stepsFrom.l2 k x0 x5 x6 (rd_L12 x0 (rd x6 0)) ((rd_L12 x0 (rd x6 0)).length : Int) 0) else (none)) else (none)) else (none)) else (some x5)
def impl_stepsFrom.l2 : Nat → List (List Int) → List Int → List Int → List Int → Int → Int → Option (List Int)
 | 0, _, _, _, _, _, _ => none
 | k + 1, x0, x5, x6, x37, x38, x39 => if x39 < x38 then (if 0 ≤ x39 then (if x39 < (x37.length : Int) then (if 0 ≤ (rd x37 x39) then (if (rd x37 x39) < (x5.length : Int) then (if (rd x5 (rd x37 x39)) < 0 then (if 0 < (x6.length : Int) then (if 0 ≤ (rd x6 0) then (if (rd x6 0) < (x5.length : Int) then (if x6.length < 17592186044416 then (impl_stepsFrom.l2 k x0 (x5.set ((rd x37 x39) : Int).toNat (wrap64 ((rd x5 (rd x6 0)) + 1))) (x6 ++ [rd x37 x39]) x37 x38 (wrap64 (x39 + 1))) else (none)) else (none)) else (none)) else (none)) else (impl_stepsFrom.l2 k x0 x5 x6 x37 x38 (wrap64 (x39 + 1)))) else (none)) else (none)) else (none)) else (none)) else (if 1 ≤ (x6.length : Int) then (impl_stepsFrom.l1 k x0 x5 (x6.drop (1 : Int).toNat)) else (none))
end
def impl_stepsFrom.f (k : Nat) (l0 : List (List Int)) (l1 : List Int) : Option (List Int) := (slices_Repeat_int_int.f (([(-1)] : List Int)) (l0.length : Int)).bind fun t717 => ((slices_Clone_int_int.f l1).bind fun t720 => (impl_stepsFrom.l0 k l0 t717 t720 l1 (l1.length : Int) 0))
theorem impl_stepsFrom.mono_l : ∀ k, (∀ y0 y1 y2 y3 y4 y5, LeO (impl_stepsFrom.l0 k y0 y1 y2 y3 y4 y5) (impl_stepsFrom.l0 (k + 1) y0 y1 y2 y3 y4 y5)) ∧ (∀ y0 y1 y2, LeO (impl_stepsFrom.l1 k y0 y1 y2) (impl_stepsFrom.l1 (k + 1) y0 y1 y2)) ∧ (∀ y0 y1 y2 y3 y4 y5, LeO (impl_stepsFrom.l2 k y0 y1 y2 y3 y4 y5) (impl_stepsFrom.l2 (k + 1) y0 y1 y2 y3 y4 y5))
 | 0 => ⟨fun _ _ _ _ _ _ r h => by simp [impl_stepsFrom.l0] at h, fun _ _ _ r h => by simp [impl_stepsFrom.l1] at h, fun _ _ _ _ _ _ r h => by simp [impl_stepsFrom.l2] at h⟩
 | k + 1 => by
  obtain ⟨ih0, ih1, ih2⟩ := impl_stepsFrom.mono_l k
  and_intros <;> intros
  all_goals (first | unfold impl_stepsFrom.l0 | unfold impl_stepsFrom.l1 | unfold impl_stepsFrom.l2)
  all_goals repeat' with_reducible first | apply ih0 | apply ih1 | apply ih2 | exact LeO.refl _ | exact LeO.none _ | apply LeO.ite | refine LeO.bind ?_ fun _ => ?_
theorem impl_stepsFrom.mono : ∀ a0 a1 k, LeO (impl_stepsFrom.f k a0 a1) (impl_stepsFrom.f (k + 1) a0 a1) := by
 intro a0 a1 k
 obtain ⟨ih0, ih1, ih2⟩ := impl_stepsFrom.mono_l k
 unfold impl_stepsFrom.f
 repeat' with_reducible first | apply ih0 | apply ih1 | apply ih2 | exact LeO.refl _ | exact LeO.none _ | apply LeO.ite | refine LeO.bind ?_ fun _ => ?_
theorem impl_stepsFrom.calls (k : Nat) (A0 : Option Addr) (c0 : Nat) (l0 : List (List Int)) (A1 : Option Addr) (c1 : Nat) (l1 : List Int) (r : List Int) (w : World) (hr0 : Kd.C (Kd.slice 3 (Kd.int .i64)) w A0 l0.length l0) (hc0 : l0.length ≤ c0) (hr1 : Kd.C (Kd.int .i64) w A1 l1.length l1) (hc1 : l1.length ≤ c1) (h : impl_stepsFrom.f k l0 l1 = some r) :
  Calls Tryz.prog 70 #[.slice A0 l0.length c0, .slice A1 l1.length c1] w fun e w' => ∃ v0_ : Value, e = .returned (v0_) ∧ Kd.R (Kd.int .i64) 3 w' w.heap.size (fun _ => True) v0_ r ∧ Below w.heap.size w w' := by
 have HR0 := am_ hr0
 have HC0 := am_ hc0
 clear hr0 hc0
 have HR1 := am_ hr1
 have HC1 := am_ hc1
 clear hr1 hc1
 have HB := am_ (Below.refl w.heap.size w)
 have H := h
 clear h
 unfold impl_stepsFrom.f at H
 obtain ⟨y714, hy714⟩ : ∃ y_ : List Int, y_ = (([(-1)] : List Int)) := ⟨_, rfl⟩
 replace H : ((slices_Repeat_int_int.f y714 (l0.length : Int)).bind fun t717 => ((slices_Clone_int_int.f l1).bind fun t720 => (impl_stepsFrom.l0 k l0 t717 t720 l1 (l1.length : Int) 0))) = some r := by first | (rw [hy714]; with_reducible exact H) | (have H2_ := (Option.bind_some _ _).symm.trans H; rw [hy714]; with_reducible exact H2_) | (have H2_ := (Option.bind_some _ _).symm.trans H; with_reducible exact H2_) | with_reducible exact H | (rw [hy714]; exact H) | exact H
 have Ny714 := am_ hy714
 clear hy714
 obtain ⟨t717, A3, H⟩ := Sh.ba H
 obtain ⟨t720, A4, H⟩ := Sh.ba H
 have H' := am_ H
 clear H
 go_enter Tryz.func70, Tryz.ntmps70
 go_wp2_with (first | ((with_reducible refine Sh.d 11 ?_); refine Kd.R_lit (Kd.int .i64) _ 3 ?hg (N := 11) ?hd (xs := ([(-1)] : List Int)) (inner := [.int .i64 (-1)]) (ok := fun _ => True) (okp := fun _ => True) ?hr ?hp (fun _ hk => hk) trivial (Below.refl _ _) (Nat.le_refl _) (by simp) ?_; (case hd => rfl); (case hg => rfl); (case hr => first | (go_simp; done) | (go_simp; rfl)); (case hp => exact (Reps.one (show Kd.M (Kd.int .i64) _ _ _ (-1) [.int .i64 (-1)] from rfl) (Reps.none _ _))); intro v715 w5 ho6 hb hg_ hnew_; clear hg_ hnew_; (first | rw [← Ny714.out] at ho6 | (simp only [Int.reduceToNat] at ho6; rw [← Ny714.out] at ho6)); have HO716 := am_ (Kd.R_lower ho6 (below_size Sh.bw)); replace HB := Sh.hb hb; clear hb ho6; obtain ⟨Ao7, co7, eo7⟩ := Kd.R_slice HO716.out; subst eo7) | ((with_reducible refine Sh.k 105 ?_); refine Sh.gL (some 14) Tryz.func105 #[.slice Ao7 y714.length co7, .int .i64 (l0.length : Int)] (h := ?_); (with_reducible refine (slices_Repeat_int_int.calls _ _ y714 (l0.length : Int) t717 _ (Sh.cR (Kd.R_reads' HO716.out).2.2) (Kd.R_reads' HO716.out).2.1 A3.out).mono ?_); rintro e w8 ⟨v718, rfl, ho0, hb⟩; refine ⟨_, rfl, ?_⟩; have HO719 := am_ (Kd.R_lower (Kd.R_new' ho0 (Kd.R_lt (Sh.rl HO716.out))) (below_size Sh.bw)); replace HO716 := am_ (Kd.R_elder' (Sh.rl HO716.out) (Kd.R_base ho0) hb); replace HB := Sh.hb hb; (try clear hb); (try clear hb2); (try clear hk); (try clear ho0)) | ((with_reducible refine Sh.k 106 ?_); refine Sh.gL (some 16) Tryz.func106 #[.slice A1 l1.length c1] (h := ?_); (with_reducible refine (slices_Clone_int_int.calls _ _ l1 t720 _ (Sh.cB HR1.out) HC1.out A4.out).mono ?_); rintro e w9 ⟨v721, rfl, ho0, hb⟩; refine ⟨_, rfl, ?_⟩; have HO722 := am_ (Kd.R_lower (Kd.R_new' (Kd.R_new' ho0 (Kd.R_lt (Sh.rl HO716.out))) (Kd.R_lt (Sh.rl HO719.out))) (below_size Sh.bw)); replace HO716 := am_ (Kd.R_elder' (Sh.rl HO716.out) (Kd.R_base ho0) hb); replace HO719 := am_ (Kd.R_elder' (Sh.rl HO719.out) (Kd.R_base ho0) hb); replace HB := Sh.hb hb; (try clear hb); (try clear ho0)))
 go_loopg [19] k (fun kq v19 w' => ∃ (x5_1 : List Int) (x19_1 : Int), v19 = .int .i64 x19_1 ∧ Aside0 (impl_stepsFrom.l0 kq l0 x5_1 t720 l1 (l1.length : Int) x19_1 = some r) ∧ Aside0 (kq ≤ k) ∧ Aside0 (Kd.R (Kd.int .i64) 3 w' w.heap.size (fun k_ => some k_ ≠ (v721 : Value).ownBlock) v718 x5_1) ∧ Aside0 (Kd.Q (Kd.int .i64) 3 w' w.heap.size (fun k_ => some k_ ≠ (v718 : Value).ownBlock) v721 t720) ∧ Aside0 (Below w.heap.size w w'))
 case atStart => exact ⟨(t717), (0), (Sh.es), H', ⟨Nat.le_refl _⟩, ⟨Sh.rl (Kd.R_mono HO719.out (fun _ hk => hk.2))⟩, ⟨Kd.Q_of_R (Sh.rl (Kd.R_mono HO722.out (fun _ hk => hk.2)))⟩, ⟨Sh.bw⟩⟩
 case round =>
  clear H'
  obtain ⟨x5_1, x19_1, rfl, HA, HK1, HO_5, HO_6, HB⟩ := hrel
  cases gk with
  | zero => exact absurd HA.out (by simp [impl_stepsFrom.l0])
  | succ k1 =>
   have H := HA.out
   clear HA
   simp only [impl_stepsFrom.l0] at H
   by_cases c10 : x19_1 < (l1.length : Int)
   ·rw [if_pos c10] at H
    replace c10 := decide_eq_true c10
    by_cases c11 : 0 ≤ x19_1
    ·rw [if_pos c11] at H
     replace c11 := decide_eq_true c11
     by_cases c12 : x19_1 < (l1.length : Int)
     ·rw [if_pos c12] at H
      replace c12 := decide_eq_true c12
      by_cases c13 : 0 ≤ (rd l1 x19_1)
      ·rw [if_pos c13] at H
       replace c13 := decide_eq_true c13
       by_cases c14 : (rd l1 x19_1) < (x5_1.length : Int)
       ·rw [if_pos c14] at H
        replace c14 := decide_eq_true c14
        obtain ⟨y724, hy724⟩ : ∃ y_ : List Int, y_ = (x5_1.set ((rd l1 x19_1) : Int).toNat 0) := ⟨_, rfl⟩
        replace H : (impl_stepsFrom.l0 k1 l0 y724 t720 l1 (l1.length : Int) (wrap64 (x19_1 + 1))) = some r := by first | (rw [hy724]; with_reducible exact H) | (have H2_ := (Option.bind_some _ _).symm.trans H; rw [hy724]; with_reducible exact H2_) | (have H2_ := (Option.bind_some _ _).symm.trans H; with_reducible exact H2_) | with_reducible exact H | (rw [hy724]; exact H) | exact H
        have Ny724 := am_ hy724
        clear hy724
        have H' := am_ H
        clear H
        have p723 : 0 ≤ (x19_1 : Int) := Sh.od
        have q723 : x19_1 < (l1.length : Int) := Sh.od
        obtain ⟨ad723, e723, hx723_0⟩ := Kd.at_int HR1.out x19_1 p723 q723
        cases e723
        try replace hx723_0 := Sh.cw hx723_0
        replace p723 := eq_true p723
        replace q723 := eq_true q723
        have p15 : 0 ≤ ((rd l1 x19_1) : Int) := Sh.od
        have q15 : ((rd l1 x19_1) : Int) < ((x5_1.length : Int) : Int) := Sh.od
        obtain ⟨go15, co15, eo15, gb15, gl15, cl15, HG15⟩ := Kd.R_form HO_5.out (by omega)
        (first | cases eo15 | (injection eo15 with ea_ en_ ec_; (first | subst ea_ | (injection ea_ with ea_; subst ea_)); subst ec_; clear en_))
        have GB15 := am_ gb15
        have GG15 := am_ HG15
        clear gb15 gl15 HG15
        obtain ⟨hx15_0, hf15_0⟩ := Kd.R_celln 0 HO_5.out ((rd l1 x19_1) : Int) p15 q15
        replace p15 := eq_true p15
        replace q15 := eq_true q15
        have HP16 := Kd.R_putg HO_5.out ((rd l1 x19_1) : Int) 0
        go_wp2_with (first | ((with_reducible refine gate_store (t := 3) (p := 25) rfl ?_); refine store_event (t := 3) (p := 25) (v := ?vo_w17) (w1 := (wr.setCell ⟨go15, ((rd l1 x19_1) : Int).toNat, none⟩ (.int .i64 0))) ?hg ?ho ?hn ?hr ?_; (case ho => rfl); (case hg => rfl); (case hn => rfl); (case hr => first | (go_simp; done) | (go_simp; rfl)); intro w17 hw; have hg : wr.grownBy w17 (some go15) := (by rw [hw]; exact HP16.2); have hp_ : Kd.R (Kd.int .i64) 3 w17 w.heap.size (fun k_ => some k_ ≠ (v721 : Value).ownBlock) (.slice (some ⟨go15, 0, none⟩) x5_1.length co15) y724 := (by rw [hw, Ny724.out]; exact HP16.1); clear HP16; replace HO_5 := am_ hp_; replace HO_6 := am_ (Kd.Q_after (v := (.slice (some ⟨go15, 0, none⟩) x5_1.length co15)) (v1 := (.slice (some ⟨go15, 0, none⟩) x5_1.length co15)) (ok := (fun _ => True)) (by (with_reducible repeat (first | apply Kd.Q_alloc | apply Kd.Q_drewN | apply Kd.Q_drew)); exact Kd.Q_mono HO_6.out (fun _ hk => ⟨trivial, hk⟩)) hg (.inl rfl)); replace HB := am_ ((by rw [hw]; exact below_set (HB.out) GB15.out : Below w.heap.size w w17)); clear hg hw hp_))
        go_roundg k1
        case measure => have := HK1.out; omega
        case rel => exact ⟨(y724), (wrap64 (x19_1 + 1)), (Sh.es), H', ⟨by have := HK1.out; omega⟩, ⟨Sh.rl HO_5.out⟩, ⟨by (with_reducible repeat (first | apply Kd.Q_alloc | apply Kd.Q_drewN | apply Kd.Q_drew)); exact Kd.Q_mono HO_6.out (fun _ hk => hk.2)⟩, ⟨Sh.bw⟩⟩
       ·rw [if_neg c14] at H
        cases H
      ·rw [if_neg c13] at H
       cases H
     ·rw [if_neg c12] at H
      cases H
    ·rw [if_neg c11] at H
     cases H
   ·rw [if_neg c10] at H
    replace c10 := decide_eq_false c10
    have H' := am_ H
    clear H
    go_wp2
    go_loopg [6] k1 (fun kq v6 w' => ∃ (x5_2 : List Int) (x6_2 : List Int), Aside0 (impl_stepsFrom.l1 kq l0 x5_2 x6_2 = some r) ∧ Aside0 (kq ≤ k1) ∧ Aside0 (Kd.R (Kd.int .i64) 3 w' w.heap.size (fun k_ => some k_ ≠ (v6 : Value).ownBlock) v718 x5_2) ∧ Aside0 (Kd.Q (Kd.int .i64) 3 w' w.heap.size (fun k_ => some k_ ≠ (v718 : Value).ownBlock) v6 x6_2) ∧ Aside0 (Below w.heap.size w w'))
    case atStart => exact ⟨(x5_1), (t720), H', ⟨Nat.le_refl _⟩, ⟨Sh.rl HO_5.out⟩, ⟨by (with_reducible repeat (first | apply Kd.Q_alloc | apply Kd.Q_drewN | apply Kd.Q_drew)); exact HO_6.out⟩, ⟨Sh.bw⟩⟩
    case round =>
     clear H'
     try clear hx1
     try clear hx7
     try clear hx15
     try clear hf15
     try clear hx15_0
     try clear hx723_0
     obtain ⟨x5_2, x6_2, HA, HK2, HO_5, HO_6, HB⟩ := hrel
     cases gk with
     | zero => exact absurd HA.out (by simp [impl_stepsFrom.l1])
     | succ k2 =>
      have H := HA.out
      clear HA
      simp only [impl_stepsFrom.l1] at H
      by_cases c18 : (x6_2.length : Int) > 0
      ·rw [if_pos c18] at H
       have c18b0 : decide (0 < (x6_2.length : Int)) = true := decide_eq_true c18
       have c18b1 : decide (0 < x6_2.length) = true := decide_eq_true (by omega)
       clear c18
       by_cases c19 : 0 < (x6_2.length : Int)
       ·rw [if_pos c19] at H
        have c19b0 := decide_eq_true c19
        have c19b1 : decide (0 < x6_2.length) = true := decide_eq_true (by omega)
        clear c19
        by_cases c20 : 0 ≤ (rd x6_2 0)
        ·rw [if_pos c20] at H
         replace c20 := decide_eq_true c20
         by_cases c21 : (rd x6_2 0) < (l0.length : Int)
         ·rw [if_pos c21] at H
          replace c21 := decide_eq_true c21
          have H' := am_ H
          clear H
          obtain ⟨Ao22, co22, eo22, _⟩ := Kd.Q_slice HO_6.out
          subst eo22
          have p725 : 0 ≤ (0 : Int) := (by omega)
          have q725 : 0 < (x6_2.length : Int) := Sh.od
          obtain ⟨ad725, e725, hx725_0⟩ := Kd.at_int (Kd.Q_reads' HO_6.out).2.2 0 p725 q725
          cases e725
          have qi725 : (0 < x6_2.length) = True := eq_true (by omega)
          (try rw [show ((0 : Int)).toNat = 0 from rfl] at hx725_0)
          (try rw [Addr.add_zero'] at hx725_0)
          replace p725 := eq_true p725
          replace q725 := eq_true q725
          have p726 : 0 ≤ ((rd x6_2 0) : Int) := Sh.od
          have q726 : (rd x6_2 0) < (l0.length : Int) := Sh.od
          obtain ⟨ad726, A726_0, c726_0, e726, hx726_0, hl726_0, hi726_0⟩ := at_L12 HR0.out (rd x6_2 0) p726 q726
          cases e726
          try replace hx726_0 := Sh.cw hx726_0
          have HR726_0 := am_ hi726_0
          have HC726_0 := am_ hl726_0
          clear hi726_0 hl726_0
          replace p726 := eq_true p726
          replace q726 := eq_true q726
          go_wp2
          go_loopg [6, 39] k2 (fun kq v6 v39 w' => ∃ (x5_3 : List Int) (x6_3 : List Int) (x39_3 : Int), v39 = .int .i64 x39_3 ∧ Aside0 (impl_stepsFrom.l2 kq l0 x5_3 x6_3 (rd_L12 l0 (rd x6_2 0)) ((rd_L12 l0 (rd x6_2 0)).length : Int) x39_3 = some r) ∧ Aside0 (kq ≤ k2) ∧ Aside0 (Kd.R (Kd.int .i64) 3 w' w.heap.size (fun k_ => some k_ ≠ (v6 : Value).ownBlock) v718 x5_3) ∧ Aside0 (Kd.Q (Kd.int .i64) 3 w' w.heap.size (fun k_ => some k_ ≠ (v718 : Value).ownBlock) v6 x6_3) ∧ Aside0 (Below w.heap.size w w'))
          case atStart => exact ⟨(x5_2), (x6_2), (0), (Sh.es), H', ⟨Nat.le_refl _⟩, ⟨Sh.rl HO_5.out⟩, ⟨by (with_reducible repeat (first | apply Kd.Q_alloc | apply Kd.Q_drewN | apply Kd.Q_drew)); exact HO_6.out⟩, ⟨Sh.bw⟩⟩
          case round =>
           clear H'
           try clear hx1
           try clear hx7
           try clear qi7
           try clear hx15
           try clear hf15
           try clear hx15_0
           try clear hx723_0
           try clear hx725_0
           try clear hx726_0
           obtain ⟨x5_3, x6_3, x39_3, rfl, HA, HK3, HO_5, HO_6, HB⟩ := hrel
           cases gk with
           | zero => exact absurd HA.out (by simp [impl_stepsFrom.l2])
           | succ k3 =>
            have H := HA.out
            clear HA
            simp only [impl_stepsFrom.l2] at H
            by_cases c23 : x39_3 < ((rd_L12 l0 (rd x6_2 0)).length : Int)
            ·rw [if_pos c23] at H
             replace c23 := decide_eq_true c23
             by_cases c24 : 0 ≤ x39_3
             ·rw [if_pos c24] at H
              replace c24 := decide_eq_true c24
              by_cases c25 : x39_3 < ((rd_L12 l0 (rd x6_2 0)).length : Int)
              ·rw [if_pos c25] at H
               replace c25 := decide_eq_true c25
               by_cases c26 : 0 ≤ (rd (rd_L12 l0 (rd x6_2 0)) x39_3)
               ·rw [if_pos c26] at H
                replace c26 := decide_eq_true c26
                by_cases c27 : (rd (rd_L12 l0 (rd x6_2 0)) x39_3) < (x5_3.length : Int)
                ·rw [if_pos c27] at H
                 replace c27 := decide_eq_true c27
                 by_cases c28 : (rd x5_3 (rd (rd_L12 l0 (rd x6_2 0)) x39_3)) < 0
                 ·rw [if_pos c28] at H
                  replace c28 := decide_eq_true c28
                  by_cases c29 : 0 < (x6_3.length : Int)
                  ·rw [if_pos c29] at H
                   have c29b0 := decide_eq_true c29
                   have c29b1 : decide (0 < x6_3.length) = true := decide_eq_true (by omega)
                   clear c29
                   by_cases c30 : 0 ≤ (rd x6_3 0)
                   ·rw [if_pos c30] at H
                    replace c30 := decide_eq_true c30
                    by_cases c31 : (rd x6_3 0) < (x5_3.length : Int)
                    ·rw [if_pos c31] at H
                     replace c31 := decide_eq_true c31
                     obtain ⟨y731, hy731⟩ : ∃ y_ : List Int, y_ = (x5_3.set ((rd (rd_L12 l0 (rd x6_2 0)) x39_3) : Int).toNat (wrap64 ((rd x5_3 (rd x6_3 0)) + 1))) := ⟨_, rfl⟩
                     replace H : (if x6_3.length < 17592186044416 then (impl_stepsFrom.l2 k3 l0 y731 (x6_3 ++ [rd (rd_L12 l0 (rd x6_2 0)) x39_3]) (rd_L12 l0 (rd x6_2 0)) ((rd_L12 l0 (rd x6_2 0)).length : Int) (wrap64 (x39_3 + 1))) else (none)) = some r := by first | (rw [hy731]; with_reducible exact H) | (have H2_ := (Option.bind_some _ _).symm.trans H; rw [hy731]; with_reducible exact H2_) | (have H2_ := (Option.bind_some _ _).symm.trans H; with_reducible exact H2_) | with_reducible exact H | (rw [hy731]; exact H) | exact H
                     have Ny731 := am_ hy731
                     clear hy731
                     by_cases c33 : x6_3.length < 17592186044416
                     ·rw [if_pos c33] at H
                      have LMc33 := am_ c33
                      clear c33
                      obtain ⟨y732, hy732⟩ : ∃ y_ : List Int, y_ = (x6_3 ++ [rd (rd_L12 l0 (rd x6_2 0)) x39_3]) := ⟨_, rfl⟩
                      replace H : (impl_stepsFrom.l2 k3 l0 y731 y732 (rd_L12 l0 (rd x6_2 0)) ((rd_L12 l0 (rd x6_2 0)).length : Int) (wrap64 (x39_3 + 1))) = some r := by first | (rw [hy732]; with_reducible exact H) | (have H2_ := (Option.bind_some _ _).symm.trans H; rw [hy732]; with_reducible exact H2_) | (have H2_ := (Option.bind_some _ _).symm.trans H; with_reducible exact H2_) | with_reducible exact H | (rw [hy732]; exact H) | exact H
                      have Ny732 := am_ hy732
                      clear hy732
                      have H' := am_ H
                      clear H
                      have p727 : 0 ≤ (x39_3 : Int) := Sh.od
                      have q727 : x39_3 < ((rd_L12 l0 (rd x6_2 0)).length : Int) := Sh.od
                      obtain ⟨ad727, e727, hx727_0⟩ := Kd.at_int HR726_0.out x39_3 p727 q727
                      cases e727
                      try replace hx727_0 := Sh.cw hx727_0
                      replace p727 := eq_true p727
                      replace q727 := eq_true q727
                      obtain ⟨Ao34, co34, eo34⟩ := Kd.R_slice HO_5.out
                      subst eo34
                      have p728 : 0 ≤ ((rd (rd_L12 l0 (rd x6_2 0)) x39_3) : Int) := Sh.od
                      have q728 : (rd (rd_L12 l0 (rd x6_2 0)) x39_3) < (x5_3.length : Int) := Sh.od
                      obtain ⟨ad728, e728, hx728_0⟩ := Kd.at_int (Kd.R_reads' HO_5.out).2.2 (rd (rd_L12 l0 (rd x6_2 0)) x39_3) p728 q728
                      cases e728
                      replace p728 := eq_true p728
                      replace q728 := eq_true q728
                      obtain ⟨Ao35, co35, eo35, _⟩ := Kd.Q_slice HO_6.out
                      subst eo35
                      have p729 : 0 ≤ (0 : Int) := (by omega)
                      have q729 : 0 < (x6_3.length : Int) := Sh.od
                      obtain ⟨ad729, e729, hx729_0⟩ := Kd.at_int (Kd.Q_reads' HO_6.out).2.2 0 p729 q729
                      cases e729
                      have qi729 : (0 < x6_3.length) = True := eq_true (by omega)
                      (try rw [show ((0 : Int)).toNat = 0 from rfl] at hx729_0)
                      (try rw [Addr.add_zero'] at hx729_0)
                      replace p729 := eq_true p729
                      replace q729 := eq_true q729
                      have p730 : 0 ≤ ((rd x6_3 0) : Int) := Sh.od
                      have q730 : (rd x6_3 0) < (x5_3.length : Int) := Sh.od
                      obtain ⟨ad730, e730, hx730_0⟩ := Kd.at_int (Kd.R_reads' HO_5.out).2.2 (rd x6_3 0) p730 q730
                      obtain rfl : ad728 = ad730 := (by injection e730)
                      replace p730 := eq_true p730
                      replace q730 := eq_true q730
                      have p32 : 0 ≤ ((rd (rd_L12 l0 (rd x6_2 0)) x39_3) : Int) := Sh.od
                      have q32 : ((rd (rd_L12 l0 (rd x6_2 0)) x39_3) : Int) < ((x5_3.length : Int) : Int) := Sh.od
                      obtain ⟨go32, co32, eo32, gb32, gl32, cl32, HG32⟩ := Kd.R_form HO_5.out (by omega)
                      (first | cases eo32 | (injection eo32 with ea_ en_ ec_; (first | subst ea_ | (injection ea_ with ea_; subst ea_)); subst ec_; clear en_))
                      have GB32 := am_ gb32
                      have GG32 := am_ HG32
                      clear gb32 gl32 HG32
                      (first | simp only [add_plain] at hx728_0 | skip)
                      (first | simp only [add_plain] at hx730_0 | skip)
                      obtain ⟨hx32_0, hf32_0⟩ := Kd.R_celln 0 HO_5.out ((rd (rd_L12 l0 (rd x6_2 0)) x39_3) : Int) p32 q32
                      replace p32 := eq_true p32
                      replace q32 := eq_true q32
                      have HP36 := Kd.R_putg HO_5.out ((rd (rd_L12 l0 (rd x6_2 0)) x39_3) : Int) (wrap64 ((rd x5_3 (rd x6_3 0)) + 1))
                      go_wp2_with (first | ((with_reducible refine gate_store (t := 3) (p := 57) rfl ?_); refine store_event (t := 3) (p := 57) (v := ?vo_w37) (w1 := (wr.setCell ⟨go32, ((rd (rd_L12 l0 (rd x6_2 0)) x39_3) : Int).toNat, none⟩ (.int .i64 (wrap64 ((rd x5_3 (rd x6_3 0)) + 1))))) ?hg ?ho ?hn ?hr ?_; (case ho => rfl); (case hg => rfl); (case hn => rfl); (case hr => first | (go_simp; done) | (go_simp; rfl)); intro w37 hw; have hg : wr.grownBy w37 (some go32) := (by rw [hw]; exact HP36.2); have hp_ : Kd.R (Kd.int .i64) 3 w37 w.heap.size (fun k_ => some k_ ≠ (.slice (some ad729) x6_3.length co35 : Value).ownBlock) (.slice (some ⟨go32, 0, none⟩) x5_3.length co34) y731 := (by rw [hw, Ny731.out]; exact HP36.1); clear HP36; replace HO_5 := am_ hp_; replace HO_6 := am_ (Kd.Q_after (v := (.slice (some ⟨go32, 0, none⟩) x5_3.length co34)) (v1 := (.slice (some ⟨go32, 0, none⟩) x5_3.length co34)) (ok := (fun _ => True)) (by (with_reducible repeat (first | apply Kd.Q_alloc | apply Kd.Q_drewN | apply Kd.Q_drew)); exact Kd.Q_mono HO_6.out (fun _ hk => ⟨trivial, hk⟩)) hg (.inl rfl)); replace HB := am_ ((by rw [hw]; exact below_set (HB.out) GB32.out : Below w.heap.size w w37)); clear hg hw hp_) | ((with_reducible refine gate_builtin (b := .append) (xs := #[.tmp 58, .tmp 60]) rfl ?_); at_builtin; refine Kd.Q_append (Kd.int .i64) (w0 := w) w.heap.size rfl (.tmp 58) (.tmp 60) 27 3 (.int .i64 0) 8 rfl Tryz.underlying27 info3 rfl (by decide) (by omega) (.slice (some ad729) x6_3.length co35) x6_3 (rd (rd_L12 l0 (rd x6_2 0)) x39_3) [.int .i64 (rd (rd_L12 l0 (rd x6_2 0)) x39_3)] (fun k_ => some k_ ≠ (.slice (some ⟨go32, 0, none⟩) x5_3.length co34 : Value).ownBlock) (fun _ => False) rfl rfl ?aP (fun _ hk => hk.elim) ?aF ?aO ?aB ?aS ?aL ?_; (case aP => exact rfl); (case aB => exact Sh.bw); (case aF => exact (fun k_ hk => Kd.fresh' (Kd.R_lt (Sh.rl HO_5.out)) k_ hk)); (case aO => exact (by (with_reducible repeat (first | apply Kd.Q_alloc | apply Kd.Q_drewN | apply Kd.Q_drew)); exact Kd.Q_mono HO_6.out (fun _ hk => hk.2))); (case aS => exact (below_size Sh.bw)); (case aL => have := LMc33.out; omega); intro v733 w38 ho hb hg hat; rw [← Ny732.out] at ho; have n0_ := am_ (Kd.R_after (ok := (fun _ => True)) (Sh.rl (Kd.R_mono HO_5.out (fun _ hk => ⟨trivial, hk⟩))) hg hat); have n1_ := am_ hb; have n2_ := am_ ho; clear HO_5; clear HB; clear HO_6; have HO_5 := n0_; have HB := n1_; have HO734 := n2_; clear n0_ n1_ n2_; clear ho hb hg hat))
                      go_roundg k3
                      case measure => have := HK1.out; have := HK2.out; have := HK3.out; omega
                      case rel => exact ⟨(y731), (y732), (wrap64 (x39_3 + 1)), (Sh.es), H', ⟨by have := HK1.out; have := HK2.out; have := HK3.out; omega⟩, ⟨Sh.rl (Kd.R_mono HO_5.out (fun _ hk => hk.2))⟩, ⟨by (with_reducible repeat (first | apply Kd.Q_alloc | apply Kd.Q_drewN | apply Kd.Q_drew)); exact HO734.out⟩, ⟨Sh.bw⟩⟩
                     ·rw [if_neg c33] at H
                      cases H
                    ·rw [if_neg c31] at H
                     cases H
                   ·rw [if_neg c30] at H
                    cases H
                  ·rw [if_neg c29] at H
                   cases H
                 ·rw [if_neg c28] at H
                  replace c28 := decide_eq_false c28
                  have H' := am_ H
                  clear H
                  have p727 : 0 ≤ (x39_3 : Int) := Sh.od
                  have q727 : x39_3 < ((rd_L12 l0 (rd x6_2 0)).length : Int) := Sh.od
                  obtain ⟨ad727, e727, hx727_0⟩ := Kd.at_int HR726_0.out x39_3 p727 q727
                  cases e727
                  try replace hx727_0 := Sh.cw hx727_0
                  replace p727 := eq_true p727
                  replace q727 := eq_true q727
                  obtain ⟨Ao39, co39, eo39⟩ := Kd.R_slice HO_5.out
                  subst eo39
                  have p728 : 0 ≤ ((rd (rd_L12 l0 (rd x6_2 0)) x39_3) : Int) := Sh.od
                  have q728 : (rd (rd_L12 l0 (rd x6_2 0)) x39_3) < (x5_3.length : Int) := Sh.od
                  obtain ⟨ad728, e728, hx728_0⟩ := Kd.at_int (Kd.R_reads' HO_5.out).2.2 (rd (rd_L12 l0 (rd x6_2 0)) x39_3) p728 q728
                  cases e728
                  replace p728 := eq_true p728
                  replace q728 := eq_true q728
                  go_wp2
                  go_roundg k3
                  case measure => have := HK1.out; have := HK2.out; have := HK3.out; omega
                  case rel => exact ⟨(x5_3), (x6_3), (wrap64 (x39_3 + 1)), (Sh.es), H', ⟨by have := HK1.out; have := HK2.out; have := HK3.out; omega⟩, ⟨Sh.rl HO_5.out⟩, ⟨by (with_reducible repeat (first | apply Kd.Q_alloc | apply Kd.Q_drewN | apply Kd.Q_drew)); exact HO_6.out⟩, ⟨Sh.bw⟩⟩
                ·rw [if_neg c27] at H
                 cases H
               ·rw [if_neg c26] at H
                cases H
              ·rw [if_neg c25] at H
               cases H
             ·rw [if_neg c24] at H
              cases H
            ·rw [if_neg c23] at H
             replace c23 := decide_eq_false c23
             by_cases c40 : 1 ≤ (x6_3.length : Int)
             ·rw [if_pos c40] at H
              have c40b0 := eq_true c40
              have c40b1 := decide_eq_true c40
              clear c40
              obtain ⟨y735, hy735⟩ : ∃ y_ : List Int, y_ = (x6_3.drop (1 : Int).toNat) := ⟨_, rfl⟩
              replace H : (impl_stepsFrom.l1 k3 l0 x5_3 y735) = some r := by first | (rw [hy735]; with_reducible exact H) | (have H2_ := (Option.bind_some _ _).symm.trans H; rw [hy735]; with_reducible exact H2_) | (have H2_ := (Option.bind_some _ _).symm.trans H; with_reducible exact H2_) | with_reducible exact H | (rw [hy735]; exact H) | exact H
              have Ny735 := am_ hy735
              clear hy735
              have H' := am_ H
              clear H
              obtain ⟨Ao41, co41, eo41, _⟩ := Kd.Q_slice HO_6.out
              subst eo41
              have q42 : (1 : Int) ≤ ((x6_3.length : Int) : Int) := Sh.od
              obtain ⟨i042, hi042, _, hsz42, _⟩ := info_parts info3
              have hcut42 := cut_from (P := Tryz.prog) 27 3 .i64 Tryz.underlying27 hi042 1 hsz42 Ao41 x6_3.length co41 1 (by omega) q42
              have hr42 := Kd.Q_drop (k := (1 : Int).toNat) HO_6.out (by omega)
              obtain ⟨A42, hA42⟩ : ∃ A1, A1 = (if co41 = (1 : Int).toNat then Ao41 else (Ao41 : Option Addr).map (·.add ((1 : Int).toNat * 1))) := ⟨_, rfl⟩
              obtain ⟨c42, hc42⟩ : ∃ c1, c1 = co41 - (1 : Int).toNat := ⟨_, rfl⟩
              have hy42 : y735.length = x6_3.length - (1 : Int).toNat := (by rw [Ny735.out, List.length_drop])
              rw [← Ny735.out] at hr42
              rw [← hy42, ← hA42, ← hc42] at hcut42
              replace hr42 : Kd.Q (Kd.int .i64) 3 wr w.heap.size (fun k_ => some k_ ≠ (v718 : Value).ownBlock) (.slice A42 y735.length c42) y735 := (by rw [hA42, hc42, hy42]; exact hr42)
              have HE42 : Aside0 ((Value.slice A42 y735.length c42).ownBlock = (.slice Ao41 x6_3.length co41 : Value).ownBlock) := ⟨by rw [hA42]; split <;> (cases (Ao41 : Option Addr) <;> rfl)⟩
              clear hy42 hi042 hsz42 HO_6 hA42 hc42
              have HO737 := am_ hr42
              clear hr42
              replace q42 := eq_true q42
              have n_ := am_ (Kd.R_mono (ok' := fun k_ => some k_ ≠ (.slice A42 y735.length c42 : Value).ownBlock) HO_5.out (fun k_ hk => (by rw [HE42.out]; exact hk)))
              clear HO_5
              have HO_5 := n_
              clear n_
              go_wp2
              go_roundg k3
              case measure => have := HK1.out; have := HK2.out; have := HK3.out; omega
              case rel => exact ⟨(x5_3), (y735), H', ⟨by have := HK1.out; have := HK2.out; have := HK3.out; omega⟩, ⟨Sh.rl HO_5.out⟩, ⟨by (with_reducible repeat (first | apply Kd.Q_alloc | apply Kd.Q_drewN | apply Kd.Q_drew)); exact HO737.out⟩, ⟨Sh.bw⟩⟩
             ·rw [if_neg c40] at H
              cases H
         ·rw [if_neg c21] at H
          cases H
        ·rw [if_neg c20] at H
         cases H
       ·rw [if_neg c19] at H
        cases H
      ·rw [if_neg c18] at H
       have c18b0 : decide (0 < (x6_2.length : Int)) = false := decide_eq_false c18
       have c18b1 : decide (0 < x6_2.length) = false := decide_eq_false (by omega)
       clear c18
       obtain rfl := Option.some.inj H
       obtain ⟨Ao43, co43, eo43, _⟩ := Kd.Q_slice HO_6.out
       subst eo43
       go_wp2
       go_ret
       exact ⟨_, Sh.eR, Sh.rl (Kd.R_mono HO_5.out (fun _ hk => trivial)), Sh.bw⟩
def impl_reachedFrom.l0 : Nat → List Int → List Int → Int → Int → Option (List Int)
 | 0, _, _, _, _ => none
 | k + 1, x5, x11, x12, x13 => if x13 < x12 then (if 0 ≤ x13 then (if x13 < (x11.length : Int) then (if (rd x11 x13) ≥ 0 then (if x5.length < 17592186044416 then (impl_reachedFrom.l0 k (x5 ++ [x13]) x11 x12 (wrap64 (x13 + 1))) else (none)) else (impl_reachedFrom.l0 k x5 x11 x12 (wrap64 (x13 + 1)))) else (none)) else (none)) else (some x5)
def impl_reachedFrom.f (k : Nat) (l0 : List (List Int)) (l1 : List Int) : Option (List Int) := (impl_stepsFrom.f k l0 l1).bind fun t741 => (impl_reachedFrom.l0 k (([] : List Int)) t741 (t741.length : Int) 0)
theorem impl_reachedFrom.mono_l : ∀ k, (∀ y0 y1 y2 y3, LeO (impl_reachedFrom.l0 k y0 y1 y2 y3) (impl_reachedFrom.l0 (k + 1) y0 y1 y2 y3))
 | 0 => fun _ _ _ _ r h => by simp [impl_reachedFrom.l0] at h
 | k + 1 => by
  have ih0 := impl_reachedFrom.mono_l k
  ·intro y0 y1 y2 y3
   unfold impl_reachedFrom.l0
   repeat' with_reducible first | apply ih0 | apply impl_stepsFrom.mono | exact LeO.refl _ | exact LeO.none _ | apply LeO.ite | refine LeO.bind ?_ fun _ => ?_
theorem impl_reachedFrom.mono : ∀ a0 a1 k, LeO (impl_reachedFrom.f k a0 a1) (impl_reachedFrom.f (k + 1) a0 a1) := by
 intro a0 a1 k
 have ih0 := impl_reachedFrom.mono_l k
 unfold impl_reachedFrom.f
 repeat' with_reducible first | apply ih0 | apply impl_stepsFrom.mono | exact LeO.refl _ | exact LeO.none _ | apply LeO.ite | refine LeO.bind ?_ fun _ => ?_
theorem impl_reachedFrom.calls (k : Nat) (A0 : Option Addr) (c0 : Nat) (l0 : List (List Int)) (A1 : Option Addr) (c1 : Nat) (l1 : List Int) (r : List Int) (w : World) (hr0 : Kd.C (Kd.slice 3 (Kd.int .i64)) w A0 l0.length l0) (hc0 : l0.length ≤ c0) (hr1 : Kd.C (Kd.int .i64) w A1 l1.length l1) (hc1 : l1.length ≤ c1) (h : impl_reachedFrom.f k l0 l1 = some r) :
  Calls Tryz.prog 80 #[.slice A0 l0.length c0, .slice A1 l1.length c1] w fun e w' => ∃ v0_ : Value, e = .returned (v0_) ∧ Kd.R (Kd.int .i64) 3 w' w.heap.size (fun _ => True) v0_ r ∧ Below w.heap.size w w' := by
 have HR0 := am_ hr0
 have HC0 := am_ hc0
 clear hr0 hc0
 have HR1 := am_ hr1
 have HC1 := am_ hc1
 clear hr1 hc1
 have HB := am_ (Below.refl w.heap.size w)
 have H := h
 clear h
 unfold impl_reachedFrom.f at H
 obtain ⟨y738, hy738⟩ : ∃ y_ : List Int, y_ = (([] : List Int)) := ⟨_, rfl⟩
 replace H : ((impl_stepsFrom.f k l0 l1).bind fun t741 => (impl_reachedFrom.l0 k y738 t741 (t741.length : Int) 0)) = some r := by first | (rw [hy738]; with_reducible exact H) | (have H2_ := (Option.bind_some _ _).symm.trans H; rw [hy738]; with_reducible exact H2_) | (have H2_ := (Option.bind_some _ _).symm.trans H; with_reducible exact H2_) | with_reducible exact H | (rw [hy738]; exact H) | exact H
 have Ny738 := am_ hy738
 clear hy738
 obtain ⟨t741, A3, H⟩ := Sh.ba H
 have H' := am_ H
 clear H
 go_enter Tryz.func80, Tryz.ntmps80
 go_wp2_with (first | ((with_reducible refine Sh.d 8 ?_); refine Kd.R_lit (Kd.int .i64) _ 3 ?hg (N := 8) ?hd (xs := ([] : List Int)) (inner := []) (ok := fun _ => True) (okp := fun _ => True) ?hr ?hp (fun _ hk => hk) trivial (Below.refl _ _) (Nat.le_refl _) (by simp) ?_; (case hd => rfl); (case hg => rfl); (case hr => first | (go_simp; done) | (go_simp; rfl)); (case hp => exact (Reps.none _ _)); intro v739 w4 ho5 hb hg_ hnew_; clear hg_ hnew_; (first | rw [← Ny738.out] at ho5 | (simp only [Int.reduceToNat] at ho5; rw [← Ny738.out] at ho5)); have HO740 := am_ (Kd.R_lower ho5 (below_size Sh.bw)); replace HB := Sh.hb hb; clear hb ho5) | ((with_reducible refine Sh.k 70 ?_); refine Sh.gL (some 11) Tryz.func70 #[.slice A0 l0.length c0, .slice A1 l1.length c1] (h := ?_); (with_reducible refine (impl_stepsFrom.calls k _ _ l0 _ _ l1 t741 _ (Sh.cB HR0.out) HC0.out (Sh.cB HR1.out) HC1.out A3.out).mono ?_); rintro e w6 ⟨v742, rfl, ho0, hb⟩; refine ⟨_, rfl, ?_⟩; have HO743 := am_ (Kd.R_lower (Kd.R_new' ho0 (Kd.R_lt (Sh.rl HO740.out))) (below_size Sh.bw)); replace HO740 := am_ (Kd.R_elder' (Sh.rl HO740.out) (Kd.R_base ho0) hb); replace HB := Sh.hb hb; (try clear hb); (try clear hk); (try clear ho0); obtain ⟨Ao7, co7, eo7⟩ := Kd.R_slice HO743.out; subst eo7))
 go_loopg [5, 13] k (fun kq v5 v13 w' => ∃ (x5_1 : List Int) (x13_1 : Int), v13 = .int .i64 x13_1 ∧ Aside0 (impl_reachedFrom.l0 kq x5_1 t741 (t741.length : Int) x13_1 = some r) ∧ Aside0 (kq ≤ k) ∧ Aside0 (Kd.R (Kd.int .i64) 3 w' w.heap.size (fun k_ => some k_ ≠ ((.slice Ao7 t741.length co7) : Value).ownBlock) v5 x5_1) ∧ Aside0 (Kd.R (Kd.int .i64) 3 w' w.heap.size (fun k_ => some k_ ≠ (v5 : Value).ownBlock) (.slice Ao7 t741.length co7) t741) ∧ Aside0 (Below w.heap.size w w'))
 case atStart => exact ⟨(y738), (0), (Sh.es), H', ⟨Nat.le_refl _⟩, ⟨Sh.rl (Kd.R_mono HO740.out (fun _ hk => hk.2))⟩, ⟨Sh.rl (Kd.R_mono HO743.out (fun _ hk => hk.2))⟩, ⟨Sh.bw⟩⟩
 case round =>
  clear H'
  obtain ⟨x5_1, x13_1, rfl, HA, HK1, HO_5, HO_11, HB⟩ := hrel
  cases gk with
  | zero => exact absurd HA.out (by simp [impl_reachedFrom.l0])
  | succ k1 =>
   have H := HA.out
   clear HA
   simp only [impl_reachedFrom.l0] at H
   by_cases c8 : x13_1 < (t741.length : Int)
   ·rw [if_pos c8] at H
    replace c8 := decide_eq_true c8
    by_cases c9 : 0 ≤ x13_1
    ·rw [if_pos c9] at H
     replace c9 := decide_eq_true c9
     by_cases c10 : x13_1 < (t741.length : Int)
     ·rw [if_pos c10] at H
      replace c10 := decide_eq_true c10
      by_cases c11 : (rd t741 x13_1) ≥ 0
      ·rw [if_pos c11] at H
       have c11b0 : decide (0 ≤ (rd t741 x13_1)) = true := decide_eq_true c11
       clear c11
       by_cases c12 : x5_1.length < 17592186044416
       ·rw [if_pos c12] at H
        have LMc12 := am_ c12
        clear c12
        obtain ⟨y745, hy745⟩ : ∃ y_ : List Int, y_ = (x5_1 ++ [x13_1]) := ⟨_, rfl⟩
        replace H : (impl_reachedFrom.l0 k1 y745 t741 (t741.length : Int) (wrap64 (x13_1 + 1))) = some r := by first | (rw [hy745]; with_reducible exact H) | (have H2_ := (Option.bind_some _ _).symm.trans H; rw [hy745]; with_reducible exact H2_) | (have H2_ := (Option.bind_some _ _).symm.trans H; with_reducible exact H2_) | with_reducible exact H | (rw [hy745]; exact H) | exact H
        have Ny745 := am_ hy745
        clear hy745
        have H' := am_ H
        clear H
        have p744 : 0 ≤ (x13_1 : Int) := Sh.od
        have q744 : x13_1 < (t741.length : Int) := Sh.od
        obtain ⟨ad744, e744, hx744_0⟩ := Kd.at_int (Kd.R_reads' HO_11.out).2.2 x13_1 p744 q744
        cases e744
        replace p744 := eq_true p744
        replace q744 := eq_true q744
        go_wp2_with (first | ((with_reducible refine gate_builtin (b := .append) (xs := #[.tmp 20, .tmp 22]) rfl ?_); at_builtin; refine Kd.R_append (Kd.int .i64) (w0 := w) w.heap.size rfl (.tmp 20) (.tmp 22) 27 3 (.int .i64 0) 8 rfl Tryz.underlying27 info3 rfl (by decide) (by omega) u5 x5_1 x13_1 [.int .i64 x13_1] (fun k_ => some k_ ≠ (.slice (some ad744) t741.length co7 : Value).ownBlock) (fun _ => False) rfl rfl ?aP (fun _ hk => hk.elim) ?aF ?aO ?aB ?aS ?aL ?_; (case aP => exact rfl); (case aB => exact Sh.bw); (case aF => exact (fun k_ hk => Kd.fresh' (Kd.R_lt (Sh.rl HO_11.out)) k_ hk)); (case aO => exact (Sh.rl HO_5.out)); (case aS => exact (below_size Sh.bw)); (case aL => have := LMc12.out; omega); intro v746 w13 ho hb hg hat; rw [← Ny745.out] at ho; have n0_ := am_ (Kd.R_after (ok := (fun _ => True)) (Sh.rl (Kd.R_mono HO_11.out (fun _ hk => ⟨trivial, hk⟩))) hg hat); have n1_ := am_ hb; have n2_ := am_ ho; clear HO_11; clear HB; clear HO_5; have HO_11 := n0_; have HB := n1_; have HO747 := n2_; clear n0_ n1_ n2_; clear ho hb hg hat))
        go_roundg k1
        case measure => have := HK1.out; omega
        case rel => exact ⟨(y745), (wrap64 (x13_1 + 1)), (Sh.es), H', ⟨by have := HK1.out; omega⟩, ⟨Sh.rl HO747.out⟩, ⟨Sh.rl (Kd.R_mono HO_11.out (fun _ hk => hk.2))⟩, ⟨Sh.bw⟩⟩
       ·rw [if_neg c12] at H
        cases H
      ·rw [if_neg c11] at H
       have c11b0 : decide (0 ≤ (rd t741 x13_1)) = false := decide_eq_false c11
       clear c11
       have H' := am_ H
       clear H
       have p744 : 0 ≤ (x13_1 : Int) := Sh.od
       have q744 : x13_1 < (t741.length : Int) := Sh.od
       obtain ⟨ad744, e744, hx744_0⟩ := Kd.at_int (Kd.R_reads' HO_11.out).2.2 x13_1 p744 q744
       cases e744
       replace p744 := eq_true p744
       replace q744 := eq_true q744
       go_wp2
       go_roundg k1
       case measure => have := HK1.out; omega
       case rel => exact ⟨(x5_1), (wrap64 (x13_1 + 1)), (Sh.es), H', ⟨by have := HK1.out; omega⟩, ⟨Sh.rl HO_5.out⟩, ⟨Sh.rl HO_11.out⟩, ⟨Sh.bw⟩⟩
     ·rw [if_neg c10] at H
      cases H
    ·rw [if_neg c9] at H
     cases H
   ·rw [if_neg c8] at H
    replace c8 := decide_eq_false c8
    obtain rfl := Option.some.inj H
    go_wp2
    go_ret
    exact ⟨_, Sh.eR, Sh.rl (Kd.R_mono HO_5.out (fun _ hk => trivial)), Sh.bw⟩
def laws_eqIntS.l0 : Nat → List Int → List Int → Int → Option (Bool)
 | 0, _, _, _ => none
 | k + 1, x0, x1, x5 => if x5 < (x0.length : Int) then (if 0 ≤ x5 then (if x5 < (x1.length : Int) then (if (rd x0 x5) = (rd x1 x5) then (laws_eqIntS.l0 k x0 x1 (wrap64 (x5 + 1))) else (some false)) else (none)) else (none)) else (some true)
def laws_eqIntS.f (k : Nat) (l0 : List Int) (l1 : List Int) : Option (Bool) := if (l0.length : Int) = (l1.length : Int) then (laws_eqIntS.l0 k l0 l1 0) else (some false)
theorem laws_eqIntS.mono_l : ∀ k, (∀ y0 y1 y2, LeO (laws_eqIntS.l0 k y0 y1 y2) (laws_eqIntS.l0 (k + 1) y0 y1 y2))
 | 0 => fun _ _ _ r h => by simp [laws_eqIntS.l0] at h
 | k + 1 => by
  have ih0 := laws_eqIntS.mono_l k
  ·intro y0 y1 y2
   unfold laws_eqIntS.l0
   repeat' with_reducible first | apply ih0 | exact LeO.refl _ | exact LeO.none _ | apply LeO.ite | refine LeO.bind ?_ fun _ => ?_
theorem laws_eqIntS.mono : ∀ a0 a1 k, LeO (laws_eqIntS.f k a0 a1) (laws_eqIntS.f (k + 1) a0 a1) := by
 intro a0 a1 k
 have ih0 := laws_eqIntS.mono_l k
 unfold laws_eqIntS.f
 repeat' with_reducible first | apply ih0 | exact LeO.refl _ | exact LeO.none _ | apply LeO.ite | refine LeO.bind ?_ fun _ => ?_
theorem laws_eqIntS.calls (k : Nat) (A0 : Option Addr) (c0 : Nat) (l0 : List Int) (A1 : Option Addr) (c1 : Nat) (l1 : List Int) (r : Bool) (w : World) (hr0 : Kd.C (Kd.int .i64) w A0 l0.length l0) (hc0 : l0.length ≤ c0) (hr1 : Kd.C (Kd.int .i64) w A1 l1.length l1) (hc1 : l1.length ≤ c1) (h : laws_eqIntS.f k l0 l1 = some r) :
  Calls Tryz.prog 15 #[.slice A0 l0.length c0, .slice A1 l1.length c1] w fun e w' => e = .returned (.bool r) ∧ Drawn0 w w' := by
 have HR0 := am_ hr0
 have HC0 := am_ hc0
 clear hr0 hc0
 have HR1 := am_ hr1
 have HC1 := am_ hc1
 clear hr1 hc1
 have H := h
 clear h
 unfold laws_eqIntS.f at H
 by_cases c3 : (l0.length : Int) = (l1.length : Int)
 ·rw [if_pos c3] at H
  have c3b0 : ((l0.length : Int) == (l1.length : Int)) = true := beq_iff_eq.mpr c3
  have c3b1 : ((l0.length : Int) != (l1.length : Int)) = false := bne_eq_false_iff_eq.mpr c3
  have c3b2 : (l0.length == l1.length) = true := by first | simpa using c3 | (simp at c3 ⊢; omega)
  clear c3
  have H' := am_ H
  clear H
  go_enter Tryz.func15, Tryz.ntmps15
  go_wp2
  repeat (go_quiet (fail); try go_wp2)
  go_loopg [5] k (fun kq v5 w' => ∃ (x5_1 : Int), v5 = .int .i64 x5_1 ∧ Aside0 (laws_eqIntS.l0 kq l0 l1 x5_1 = some r) ∧ Aside0 (kq ≤ k) ∧ Drawn0 w w')
  case atStart => exact ⟨(0), (Sh.es), H', ⟨Nat.le_refl _⟩, Sh.dr⟩
  case round =>
   clear H'
   obtain ⟨x5_1, rfl, HA, HK1, ⟨m1, rfl⟩⟩ := hrel
   cases gk with
   | zero => exact absurd HA.out (by simp [laws_eqIntS.l0])
   | succ k1 =>
    have H := HA.out
    clear HA
    simp only [laws_eqIntS.l0] at H
    by_cases c4 : x5_1 < (l0.length : Int)
    ·rw [if_pos c4] at H
     replace c4 := decide_eq_true c4
     by_cases c5 : 0 ≤ x5_1
     ·rw [if_pos c5] at H
      replace c5 := decide_eq_true c5
      by_cases c6 : x5_1 < (l1.length : Int)
      ·rw [if_pos c6] at H
       replace c6 := decide_eq_true c6
       by_cases c7 : (rd l0 x5_1) = (rd l1 x5_1)
       ·rw [if_pos c7] at H
        have c7b0 : ((rd l0 x5_1) == (rd l1 x5_1)) = true := beq_iff_eq.mpr c7
        have c7b1 : ((rd l0 x5_1) != (rd l1 x5_1)) = false := bne_eq_false_iff_eq.mpr c7
        clear c7
        have H' := am_ H
        clear H
        have p770 : 0 ≤ (x5_1 : Int) := Sh.od
        have q770 : x5_1 < (l0.length : Int) := Sh.od
        obtain ⟨ad770, e770, hx770_0⟩ := Kd.at_int HR0.out x5_1 p770 q770
        cases e770
        replace p770 := eq_true p770
        replace q770 := eq_true q770
        have p771 : 0 ≤ (x5_1 : Int) := Sh.od
        have q771 : x5_1 < (l1.length : Int) := Sh.od
        obtain ⟨ad771, e771, hx771_0⟩ := Kd.at_int HR1.out x5_1 p771 q771
        cases e771
        replace p771 := eq_true p771
        replace q771 := eq_true q771
        go_wp2
        repeat (go_quiet (fail); try go_wp2)
        go_roundg k1
        case measure => have := HK1.out; omega
        case rel => exact ⟨(wrap64 (x5_1 + 1)), (Sh.es), H', ⟨by have := HK1.out; omega⟩, Sh.dr⟩
       ·rw [if_neg c7] at H
        have c7b0 : ((rd l0 x5_1) == (rd l1 x5_1)) = false := beq_eq_false_iff_ne.mpr c7
        have c7b1 : ((rd l0 x5_1) != (rd l1 x5_1)) = true := bne_iff_ne.mpr c7
        obtain rfl := Option.some.inj H
        have p770 : 0 ≤ (x5_1 : Int) := Sh.od
        have q770 : x5_1 < (l0.length : Int) := Sh.od
        obtain ⟨ad770, e770, hx770_0⟩ := Kd.at_int HR0.out x5_1 p770 q770
        cases e770
        replace p770 := eq_true p770
        replace q770 := eq_true q770
        have p771 : 0 ≤ (x5_1 : Int) := Sh.od
        have q771 : x5_1 < (l1.length : Int) := Sh.od
        obtain ⟨ad771, e771, hx771_0⟩ := Kd.at_int HR1.out x5_1 p771 q771
        cases e771
        replace p771 := eq_true p771
        replace q771 := eq_true q771
        go_wp2
        repeat (go_quiet (fail); try go_wp2)
        go_ret
        exact ⟨Sh.es, Sh.dr⟩
      ·rw [if_neg c6] at H
       cases H
     ·rw [if_neg c5] at H
      cases H
    ·rw [if_neg c4] at H
     replace c4 := decide_eq_false c4
     obtain rfl := Option.some.inj H
     go_wp2
     repeat (go_quiet (fail); try go_wp2)
     go_ret
     exact ⟨Sh.es, Sh.dr⟩
 ·rw [if_neg c3] at H
  have c3b0 : ((l0.length : Int) == (l1.length : Int)) = false := beq_eq_false_iff_ne.mpr c3
  have c3b1 : ((l0.length : Int) != (l1.length : Int)) = true := bne_iff_ne.mpr c3
  have c3b2 : (l0.length == l1.length) = false := by first | simpa using c3 | (simp at c3 ⊢; omega)
  obtain rfl := Option.some.inj H
  go_enter Tryz.func15, Tryz.ntmps15
  go_wp2
  repeat (go_quiet (fail); try go_wp2)
  go_ret
  exact ⟨Sh.es, Sh.dr⟩
end Go.Proofs.YtngefmofelengaaGreat.P
