/- Go functions of this seat as Lean functions, and the proofs that the calls come to what these say; printed by a program of this session. No condition. -/
import Derived.Test.YtjnolbjaagmooaaP0
import Derived.Test.YtjnolbjaagmooaaMFnExactEnabled3
import Derived.Test.YtjnolbjaagmooaaMFnExactEnabled1
set_option linter.unusedVariables false
set_option linter.unusedSimpArgs false
namespace Go.Proofs.Ytjnolbjaagmooaa.P
open Go.RowKit Go.Proofs.YtjnolbjaagmooaaW.PrintWords Go.Proofs.YtjnolbjaagmooaaW.PrintLast Go.Proofs.YtjnolbjaagmooaaW.PrintMore Go.Proofs.Ytjnolbjaagmooaa.Hof
attribute [local go_sem] max2_int min2_int max_two min_two max_three min_three max_four min_four
def impl_DivWord.f (a0 : Int) (a1 : Int) (a2 : Int) : Option (Int × Int × Bool) := (impl_areWords.f a0 a1 a2).bind fun t361 => (if t361 = true then (if a2 = 0 then ((impl_mask.f a0).bind fun t362 => (some (t362, a1, true))) else ((bits_Div64.f 0 a1 a2).bind fun bt363 => (some (bt363.1, bt363.2, true)))) else (some (0, 0, false)))
set_option maxHeartbeats 8000000 in
set_option maxRecDepth 100000 in
theorem impl_DivWord.calls (a0 : Int) (a1 : Int) (a2 : Int) (r1 : Int) (r2 : Int) (r3 : Bool) (w : World) (h : impl_DivWord.f a0 a1 a2 = some (r1, r2, r3)) :
  Calls Try.prog 105 #[.int .i64 a0, .int .u64 a1, .int .u64 a2] w fun e w' => e = .returned (.tuple #[.int .u64 r1, .int .u64 r2, .bool r3]) ∧ Drawn0 w w' := by
 have H := h
 clear h
 unfold impl_DivWord.f at H
 obtain ⟨t361, A40, H⟩ := Sh.bd H
 have A4 := am_ A40
 clear A40
 by_cases c5 : t361 = true
 ·subst c5
  rw [if_pos rfl] at H
  by_cases c6 : a2 = 0
  ·rw [if_pos c6] at H
   have c6b0 : (a2 == 0) = true := beq_iff_eq.mpr c6
   have c6b1 : (a2 != 0) = false := bne_eq_false_iff_eq.mpr c6
   clear c6
   obtain ⟨t362, A70, H⟩ := Sh.bd H
   have A7 := am_ A70
   clear A70
   simp only [Option.some.injEq, Prod.mk.injEq] at H
   obtain ⟨rfl, rfl, rfl⟩ := H
   go_enter Try.func105, Try.ntmps105
   go_wp2_with (first | ((with_reducible refine gate_callee (f := 115) rfl ?_); refine Sh.gL (some 15) Try.func115 #[.int .i64 a0, .int .u64 a1, .int .u64 a2] (h := ?_); (with_reducible refine (impl_areWords.calls a0 a1 a2 true _ A4.out).mono ?_); rintro e w' ⟨rfl, ⟨nd, rfl⟩⟩; refine ⟨_, rfl, ?_⟩) | ((with_reducible refine gate_callee (f := 75) rfl ?_); refine Sh.gL (some 21) Try.func75 #[.int .i64 a0] (h := ?_); (with_reducible refine (impl_mask.calls a0 t362 _ A7.out).mono ?_); rintro e w' ⟨rfl, ⟨nd, rfl⟩⟩; refine ⟨_, rfl, ?_⟩))
   go_ret3
   exact ⟨Sh.es, Sh.dr⟩
  ·rw [if_neg c6] at H
   have c6b0 : (a2 == 0) = false := beq_eq_false_iff_ne.mpr c6
   have c6b1 : (a2 != 0) = true := bne_iff_ne.mpr c6
   obtain ⟨⟨t363, t364⟩, A80, H⟩ := Sh.bd H
   have A8 := am_ A80
   clear A80
   simp only [Option.some.injEq, Prod.mk.injEq] at H
   obtain ⟨rfl, rfl, rfl⟩ := H
   go_enter Try.func105, Try.ntmps105
   go_wp2_with (first | ((with_reducible refine gate_callee (f := 115) rfl ?_); refine Sh.gL (some 15) Try.func115 #[.int .i64 a0, .int .u64 a1, .int .u64 a2] (h := ?_); (with_reducible refine (impl_areWords.calls a0 a1 a2 true _ A4.out).mono ?_); rintro e w' ⟨rfl, ⟨nd, rfl⟩⟩; refine ⟨_, rfl, ?_⟩) | ((with_reducible refine gate_callee (f := 116) rfl ?_); refine Sh.gL (some 26) Try.func116 #[.int .u64 0, .int .u64 a1, .int .u64 a2] (h := ?_); (with_reducible refine (bits_Div64.calls 0 a1 a2 t363 t364 _ A8.out).mono ?_); rintro e w' ⟨rfl, ⟨nd, rfl⟩⟩; refine ⟨_, rfl, ?_⟩))
   go_ret3
   exact ⟨Sh.es, Sh.dr⟩
 ·replace c5 := Bool.eq_false_iff.mpr c5
  subst c5
  rw [Sh.nf] at H
  simp only [Option.some.injEq, Prod.mk.injEq] at H
  obtain ⟨rfl, rfl, rfl⟩ := H
  go_enter Try.func105, Try.ntmps105
  go_wp2_with (first | ((with_reducible refine gate_callee (f := 115) rfl ?_); refine Sh.gL (some 15) Try.func115 #[.int .i64 a0, .int .u64 a1, .int .u64 a2] (h := ?_); (with_reducible refine (impl_areWords.calls a0 a1 a2 false _ A4.out).mono ?_); rintro e w' ⟨rfl, ⟨nd, rfl⟩⟩; refine ⟨_, rfl, ?_⟩))
  go_ret3
  exact ⟨Sh.es, Sh.dr⟩
def impl_shift.f (a0 : Int) (a1 : Int) (a2 : Int) (a3 : Bool) : Option (Int) := if a2 ≥ (IntKind.u64.wrap (a0)) then (some 0) else (if a3 = true then (if 0 ≤ a2 then ((impl_mask.f a0).bind fun t365 => (some (Go.bits .and .u64 (shl .u64 a1 a2) t365))) else (none)) else (if 0 ≤ a2 then (some (shr .u64 a1 a2)) else (none)))
set_option maxHeartbeats 8000000 in
set_option maxRecDepth 100000 in
theorem impl_shift.calls (a0 : Int) (a1 : Int) (a2 : Int) (a3 : Bool) (r : Int) (w : World) (h : impl_shift.f a0 a1 a2 a3 = some r) :
  Calls Try.prog 106 #[.int .i64 a0, .int .u64 a1, .int .u64 a2, .bool a3] w fun e w' => e = .returned (.int .u64 r) ∧ Drawn0 w w' := by
 have H := h
 clear h
 unfold impl_shift.f at H
 by_cases c5 : a2 ≥ (IntKind.u64.wrap (a0))
 ·rw [if_pos c5] at H
  have c5b0 : decide ((IntKind.u64.wrap (a0)) ≤ a2) = true := decide_eq_true c5
  clear c5
  obtain rfl := Option.some.inj H
  go_enter Try.func106, Try.ntmps106
  go_wp2
  go_ret
  exact ⟨Sh.es, Sh.dr⟩
 ·rw [if_neg c5] at H
  have c5b0 : decide ((IntKind.u64.wrap (a0)) ≤ a2) = false := decide_eq_false c5
  clear c5
  by_cases c6 : a3 = true
  ·subst c6
   rw [if_pos rfl] at H
   by_cases c7 : 0 ≤ a2
   ·rw [if_pos c7] at H
    have c7b0 := eq_true c7
    have c7b1 : decide (0 ≤ a2) = true := decide_eq_true c7
    clear c7
    obtain ⟨ji8, hj1⟩ : ∃ j_ : Int, (shl .u64 a1 a2) = j_ := ⟨_, rfl⟩
    replace H : ((impl_mask.f a0).bind fun t365 => (some (Go.bits .and .u64 (ji8) t365))) = some r := by first | (rw [hj1] at H; exact H) | (simp only [hj1] at H ⊢; exact H)
    have hji8_ : (IntKind.u64.wrap (a1 * 2 ^ min a2.toNat 64)) = ji8 := hj1
    have hji8z : a2 ≤ 64 → (IntKind.u64.wrap (a1 * 2 ^ a2.toNat)) = ji8 := shl_small hj1
    obtain ⟨t365, A90, H⟩ := Sh.bd H
    have A9 := am_ A90
    clear A90
    obtain rfl := Option.some.inj H
    go_enter Try.func106, Try.ntmps106
    go_wp2_with (first | ((with_reducible refine gate_callee (f := 75) rfl ?_); refine Sh.gL (some 20) Try.func75 #[.int .i64 a0] (h := ?_); (with_reducible refine (impl_mask.calls a0 t365 _ A9.out).mono ?_); rintro e w' ⟨rfl, ⟨nd, rfl⟩⟩; refine ⟨_, rfl, ?_⟩))
    go_ret
    exact ⟨by first | rfl | (simp; done) | (simp only [← hj1] <;> (first | rfl | simp)) | (simp [*]; done), Sh.dr⟩
   ·rw [if_neg c7] at H
    exact absurd H (by simp)
  ·replace c6 := Bool.eq_false_iff.mpr c6
   subst c6
   rw [Sh.nf] at H
   by_cases c10 : 0 ≤ a2
   ·rw [if_pos c10] at H
    have c10b0 := eq_true c10
    have c10b1 : decide (0 ≤ a2) = true := decide_eq_true c10
    clear c10
    obtain ⟨ji11, hj1⟩ : ∃ j_ : Int, (shr .u64 a1 a2) = j_ := ⟨_, rfl⟩
    replace H : (some ji11) = some r := by first | (rw [hj1] at H; exact H) | (simp only [hj1] at H ⊢; exact H)
    have hji11_ : (a1 / 2 ^ min a2.toNat 64) = ji11 := hj1
    have hji11z : a2 ≤ 64 → (a1 / 2 ^ a2.toNat) = ji11 := shr_small hj1
    obtain rfl := Option.some.inj H
    go_enter Try.func106, Try.ntmps106
    go_wp2
    go_ret
    exact ⟨by first | rfl | (simp; done) | (simp only [← hj1] <;> (first | rfl | simp)) | (simp [*]; done), Sh.dr⟩
   ·rw [if_neg c10] at H
    exact absurd H (by simp)
def impl_truth.f (a0 : Bool) : Option (Int) := if a0 = true then (some 1) else (some 0)
set_option maxHeartbeats 8000000 in
set_option maxRecDepth 100000 in
theorem impl_truth.calls (a0 : Bool) (r : Int) (w : World) (h : impl_truth.f a0 = some r) :
  Calls Try.prog 107 #[.bool a0] w fun e w' => e = .returned (.int .u64 r) ∧ Drawn0 w w' := by
 have H := h
 clear h
 unfold impl_truth.f at H
 by_cases c2 : a0 = true
 ·subst c2
  rw [if_pos rfl] at H
  obtain rfl := Option.some.inj H
  go_enter Try.func107, Try.ntmps107
  go_wp2
  go_ret
  exact ⟨Sh.es, Sh.dr⟩
 ·replace c2 := Bool.eq_false_iff.mpr c2
  subst c2
  rw [Sh.nf] at H
  obtain rfl := Option.some.inj H
  go_enter Try.func107, Try.ntmps107
  go_wp2
  go_ret
  exact ⟨Sh.es, Sh.dr⟩
def impl_signed.f (a0 : Int) (a1 : Int) : Option (Int) := if 0 ≤ (wrap64 (64 - a0)) then (some (shr .i64 (wrap64 (shl .u64 a1 (wrap64 (64 - a0)))) (wrap64 (64 - a0)))) else (none)
set_option maxHeartbeats 8000000 in
set_option maxRecDepth 100000 in
theorem impl_signed.calls (a0 : Int) (a1 : Int) (r : Int) (w : World) (h : impl_signed.f a0 a1 = some r) :
  Calls Try.prog 108 #[.int .i64 a0, .int .u64 a1] w fun e w' => e = .returned (.int .i64 r) ∧ Drawn0 w w' := by
 have H := h
 clear h
 unfold impl_signed.f at H
 obtain ⟨ji3, hj1⟩ : ∃ j_ : Int, (wrap64 (64 - a0)) = j_ := ⟨_, rfl⟩
 replace H : (if 0 ≤ (ji3) then (some (shr .i64 (wrap64 (shl .u64 a1 (ji3))) (ji3))) else (none)) = some r := by first | (rw [hj1] at H; exact H) | (simp only [hj1] at H ⊢; exact H)
 have hji3w : (IntKind.i64.wrap (64 - a0)) = ji3 := (i64_w _).trans hj1
 by_cases c4 : 0 ≤ (ji3)
 ·rw [if_pos c4] at H
  have c4b0 := eq_true c4
  have c4b1 : decide (0 ≤ (ji3)) = true := decide_eq_true c4
  clear c4
  obtain ⟨ji5, hj2⟩ : ∃ j_ : Int, (shl .u64 a1 (ji3)) = j_ := ⟨_, rfl⟩
  replace H : (some (shr .i64 (wrap64 (ji5)) (ji3))) = some r := by first | (rw [hj2] at H; exact H) | (simp only [hj2] at H ⊢; exact H)
  have hji5_ : (IntKind.u64.wrap (a1 * 2 ^ min (ji3).toNat 64)) = ji5 := hj2
  have hji5z : (ji3) ≤ 64 → (IntKind.u64.wrap (a1 * 2 ^ (ji3).toNat)) = ji5 := shl_small hj2
  have c6b0 := eq_true (of_decide_eq_true (by first | (with_reducible assumption) | assumption) : 0 ≤ (ji3))
  obtain ⟨ji7, hj3⟩ : ∃ j_ : Int, (shr .i64 (wrap64 (ji5)) (ji3)) = j_ := ⟨_, rfl⟩
  replace H : (some ji7) = some r := by first | (rw [hj3] at H; exact H) | (simp only [hj3] at H ⊢; exact H)
  have hji7_ : ((wrap64 (ji5)) / 2 ^ min (ji3).toNat 64) = ji7 := hj3
  have hji7z : (ji3) ≤ 64 → ((wrap64 (ji5)) / 2 ^ (ji3).toNat) = ji7 := shr_small hj3
  obtain rfl := Option.some.inj H
  go_enter Try.func108, Try.ntmps108
  go_wp2
  go_ret
  exact ⟨by first | rfl | (simp; done) | (simp only [← hj1, ← hj2, ← hj3] <;> (first | rfl | simp)) | (simp [*]; done), Sh.dr⟩
 ·rw [if_neg c4] at H
  exact absurd H (by simp)
mutual
def impl_apply.j0 : Nat → Int → Int → Int → Int → Int → Int → Bool → Option (Int)
 | 0, _, _, _, _, _, _, _ => none
 | k + 1, x0, x1, x2, x3, x9, x10, x46 => if x46 = true then ((impl_mask.f x0).bind fun t377 => (some (Go.bits .and .u64 (Go.bits .and .u64 x2 x3) t377))) else (if x10 = 9 then (impl_apply.j1 k x0 x1 x2 x3 x9 x10 (x10 == 9)) else (impl_apply.j1 k x0 x1 x2 x3 x9 x10 (x10 == 18)))
def impl_apply.j1 : Nat → Int → Int → Int → Int → Int → Int → Bool → Option (Int)
 | 0, _, _, _, _, _, _, _ => none
 | k + 1, x0, x1, x2, x3, x9, x10, x52 => if x52 = true then ((impl_mask.f x0).bind fun t378 => (some (Go.bits .and .u64 (Go.bits .or .u64 x2 x3) t378))) else (if x10 = 10 then ((impl_mask.f x0).bind fun t379 => (some (Go.bits .and .u64 (Go.bits .xor .u64 x2 x3) t379))) else (if x10 = 11 then (impl_apply.j2 k x0 x1 x2 x3 x9 x10 (x10 == 11)) else (impl_apply.j2 k x0 x1 x2 x3 x9 x10 (x10 == 12))))
def impl_apply.j2 : Nat → Int → Int → Int → Int → Int → Int → Bool → Option (Int)
 | 0, _, _, _, _, _, _, _ => none
 | k + 1, x0, x1, x2, x3, x9, x10, x63 => if x63 = true then ((impl_shift.f x0 x2 x3 (x1 == 11)).bind fun t380 => ((impl_mask.f x0).bind fun t381 => (some (Go.bits .and .u64 t380 t381)))) else (if x10 = 14 then ((impl_truth.f (x2 == x3)).bind fun t382 => ((impl_mask.f x0).bind fun t383 => (some (Go.bits .and .u64 t382 t383)))) else (if x10 = 15 then ((impl_truth.f (decide (x2 < x3))).bind fun t384 => ((impl_mask.f x0).bind fun t385 => (some (Go.bits .and .u64 t384 t385)))) else (if x10 = 16 then ((impl_signed.f x0 x2).bind fun t386 => ((impl_signed.f x0 x3).bind fun t387 => ((impl_truth.f (decide (t386 < t387))).bind fun t388 => ((impl_mask.f x0).bind fun t389 => (some (Go.bits .and .u64 t388 t389)))))) else ((impl_mask.f x0).bind fun t390 => (some (Go.bits .and .u64 x9 t390))))))
end
def impl_apply.f (k : Nat) (a0 : Int) (a1 : Int) (a2 : Int) (a3 : Int) : Option (Int) := if a1 = 3 then ((impl_mask.f a0).bind fun t366 => (some (Go.bits .and .u64 (IntKind.u64.wrap (a2 + a3)) t366))) else (if a1 = 4 then ((impl_mask.f a0).bind fun t367 => (some (Go.bits .and .u64 (IntKind.u64.wrap (a2 - a3)) t367))) else (if a1 = 5 then ((impl_mask.f a0).bind fun t368 => (some (Go.bits .and .u64 (IntKind.u64.wrap (a2 * a3)) t368))) else (if a1 = 6 then ((impl_DivWord.f a0 a2 a3).bind fun bt369 => ((impl_mask.f a0).bind fun t372 => (some (Go.bits .and .u64 bt369.1 t372)))) else (if a1 = 7 then ((impl_DivWord.f a0 a2 a3).bind fun bt373 => ((impl_mask.f a0).bind fun t376 => (some (Go.bits .and .u64 bt373.2.1 t376)))) else (if a1 = 8 then (impl_apply.j0 k a0 a1 a2 a3 0 a1 (a1 == 8)) else (impl_apply.j0 k a0 a1 a2 a3 0 a1 (a1 == 17)))))))
theorem impl_apply.mono_l : ∀ k, (∀ y0 y1 y2 y3 y4 y5 y6, LeO (impl_apply.j0 k y0 y1 y2 y3 y4 y5 y6) (impl_apply.j0 (k + 1) y0 y1 y2 y3 y4 y5 y6)) ∧ (∀ y0 y1 y2 y3 y4 y5 y6, LeO (impl_apply.j1 k y0 y1 y2 y3 y4 y5 y6) (impl_apply.j1 (k + 1) y0 y1 y2 y3 y4 y5 y6)) ∧ (∀ y0 y1 y2 y3 y4 y5 y6, LeO (impl_apply.j2 k y0 y1 y2 y3 y4 y5 y6) (impl_apply.j2 (k + 1) y0 y1 y2 y3 y4 y5 y6))
 | 0 => ⟨fun _ _ _ _ _ _ _ r h => by simp [impl_apply.j0] at h, fun _ _ _ _ _ _ _ r h => by simp [impl_apply.j1] at h, fun _ _ _ _ _ _ _ r h => by simp [impl_apply.j2] at h⟩
 | k + 1 => by
  obtain ⟨ih0, ih1, ih2⟩ := impl_apply.mono_l k
  and_intros <;> intros
  all_goals (first | unfold impl_apply.j0 | unfold impl_apply.j1 | unfold impl_apply.j2)
  all_goals repeat' with_reducible first | apply ih0 | apply ih1 | apply ih2 | exact LeO.refl _ | exact LeO.none _ | apply LeO.ite | refine LeO.bind ?_ fun _ => ?_
theorem impl_apply.mono : ∀ a0 a1 a2 a3 k, LeO (impl_apply.f k a0 a1 a2 a3) (impl_apply.f (k + 1) a0 a1 a2 a3) := by
 intro a0 a1 a2 a3 k
 obtain ⟨ih0, ih1, ih2⟩ := impl_apply.mono_l k
 unfold impl_apply.f
 repeat' with_reducible first | apply ih0 | apply ih1 | apply ih2 | exact LeO.refl _ | exact LeO.none _ | apply LeO.ite | refine LeO.bind ?_ fun _ => ?_
set_option maxHeartbeats 8000000 in
set_option maxRecDepth 100000 in
theorem impl_apply.calls (k : Nat) (a0 : Int) (a1 : Int) (a2 : Int) (a3 : Int) (r : Int) (w : World) (h : impl_apply.f k a0 a1 a2 a3 = some r) :
  Calls Try.prog 91 #[.int .i64 a0, .int .i64 a1, .int .u64 a2, .int .u64 a3] w fun e w' => e = .returned (.int .u64 r) ∧ Drawn0 w w' := by
 have H := h
 clear h
 unfold impl_apply.f at H
 by_cases c5 : a1 = 3
 ·rw [if_pos c5] at H
  have c5b0 : (a1 == 3) = true := beq_iff_eq.mpr c5
  have c5b1 : (a1 != 3) = false := bne_eq_false_iff_eq.mpr c5
  clear c5
  obtain ⟨t366, A60, H⟩ := Sh.bd H
  have A6 := am_ A60
  clear A60
  obtain rfl := Option.some.inj H
  go_enter Try.func91, Try.ntmps91
  go_wp2_with (first | ((with_reducible refine gate_callee (f := 75) rfl ?_); refine Sh.gL (some 96) Try.func75 #[.int .i64 a0] (h := ?_); (with_reducible refine (impl_mask.calls a0 t366 _ A6.out).mono ?_); rintro e w' ⟨rfl, ⟨nd, rfl⟩⟩; refine ⟨_, rfl, ?_⟩))
  go_ret
  exact ⟨Sh.es, Sh.dr⟩
 ·rw [if_neg c5] at H
  have c5b0 : (a1 == 3) = false := beq_eq_false_iff_ne.mpr c5
  have c5b1 : (a1 != 3) = true := bne_iff_ne.mpr c5
  by_cases c7 : a1 = 4
  ·rw [if_pos c7] at H
   have c7b0 : (a1 == 4) = true := beq_iff_eq.mpr c7
   have c7b1 : (a1 != 4) = false := bne_eq_false_iff_eq.mpr c7
   clear c7
   obtain ⟨t367, A80, H⟩ := Sh.bd H
   have A8 := am_ A80
   clear A80
   obtain rfl := Option.some.inj H
   go_enter Try.func91, Try.ntmps91
   go_wp2_with (first | ((with_reducible refine gate_callee (f := 75) rfl ?_); refine Sh.gL (some 96) Try.func75 #[.int .i64 a0] (h := ?_); (with_reducible refine (impl_mask.calls a0 t367 _ A8.out).mono ?_); rintro e w' ⟨rfl, ⟨nd, rfl⟩⟩; refine ⟨_, rfl, ?_⟩))
   go_ret
   exact ⟨Sh.es, Sh.dr⟩
  ·rw [if_neg c7] at H
   have c7b0 : (a1 == 4) = false := beq_eq_false_iff_ne.mpr c7
   have c7b1 : (a1 != 4) = true := bne_iff_ne.mpr c7
   by_cases c9 : a1 = 5
   ·rw [if_pos c9] at H
    have c9b0 : (a1 == 5) = true := beq_iff_eq.mpr c9
    have c9b1 : (a1 != 5) = false := bne_eq_false_iff_eq.mpr c9
    clear c9
    obtain ⟨t368, A100, H⟩ := Sh.bd H
    have A10 := am_ A100
    clear A100
    obtain rfl := Option.some.inj H
    go_enter Try.func91, Try.ntmps91
    go_wp2_with (first | ((with_reducible refine gate_callee (f := 75) rfl ?_); refine Sh.gL (some 96) Try.func75 #[.int .i64 a0] (h := ?_); (with_reducible refine (impl_mask.calls a0 t368 _ A10.out).mono ?_); rintro e w' ⟨rfl, ⟨nd, rfl⟩⟩; refine ⟨_, rfl, ?_⟩))
    go_ret
    exact ⟨Sh.es, Sh.dr⟩
   ·rw [if_neg c9] at H
    have c9b0 : (a1 == 5) = false := beq_eq_false_iff_ne.mpr c9
    have c9b1 : (a1 != 5) = true := bne_iff_ne.mpr c9
    by_cases c11 : a1 = 6
    ·rw [if_pos c11] at H
     have c11b0 : (a1 == 6) = true := beq_iff_eq.mpr c11
     have c11b1 : (a1 != 6) = false := bne_eq_false_iff_eq.mpr c11
     clear c11
     obtain ⟨⟨t369, t370, t371⟩, A120, H⟩ := Sh.bd H
     have A12 := am_ A120
     clear A120
     obtain ⟨t372, A130, H⟩ := Sh.bd H
     have A13 := am_ A130
     clear A130
     obtain rfl := Option.some.inj H
     go_enter Try.func91, Try.ntmps91
     go_wp2_with (first | ((with_reducible refine gate_callee (f := 105) rfl ?_); refine Sh.gL (some 32) Try.func105 #[.int .i64 a0, .int .u64 a2, .int .u64 a3] (h := ?_); (with_reducible refine (impl_DivWord.calls a0 a2 a3 t369 t370 t371 _ A12.out).mono ?_); rintro e w' ⟨rfl, ⟨nd, rfl⟩⟩; refine ⟨_, rfl, ?_⟩) | ((with_reducible refine gate_callee (f := 75) rfl ?_); refine Sh.gL (some 96) Try.func75 #[.int .i64 a0] (h := ?_); (with_reducible refine (impl_mask.calls a0 t372 _ A13.out).mono ?_); rintro e w' ⟨rfl, ⟨nd, rfl⟩⟩; refine ⟨_, rfl, ?_⟩))
     go_ret
     exact ⟨Sh.es, Sh.dr⟩
    ·rw [if_neg c11] at H
     have c11b0 : (a1 == 6) = false := beq_eq_false_iff_ne.mpr c11
     have c11b1 : (a1 != 6) = true := bne_iff_ne.mpr c11
     by_cases c14 : a1 = 7
     ·rw [if_pos c14] at H
      have c14b0 : (a1 == 7) = true := beq_iff_eq.mpr c14
      have c14b1 : (a1 != 7) = false := bne_eq_false_iff_eq.mpr c14
      clear c14
      obtain ⟨⟨t373, t374, t375⟩, A150, H⟩ := Sh.bd H
      have A15 := am_ A150
      clear A150
      obtain ⟨t376, A160, H⟩ := Sh.bd H
      have A16 := am_ A160
      clear A160
      obtain rfl := Option.some.inj H
      go_enter Try.func91, Try.ntmps91
      go_wp2_with (first | ((with_reducible refine gate_callee (f := 105) rfl ?_); refine Sh.gL (some 42) Try.func105 #[.int .i64 a0, .int .u64 a2, .int .u64 a3] (h := ?_); (with_reducible refine (impl_DivWord.calls a0 a2 a3 t373 t374 t375 _ A15.out).mono ?_); rintro e w' ⟨rfl, ⟨nd, rfl⟩⟩; refine ⟨_, rfl, ?_⟩) | ((with_reducible refine gate_callee (f := 75) rfl ?_); refine Sh.gL (some 96) Try.func75 #[.int .i64 a0] (h := ?_); (with_reducible refine (impl_mask.calls a0 t376 _ A16.out).mono ?_); rintro e w' ⟨rfl, ⟨nd, rfl⟩⟩; refine ⟨_, rfl, ?_⟩))
      go_ret
      exact ⟨Sh.es, Sh.dr⟩
     ·rw [if_neg c14] at H
      have c14b0 : (a1 == 7) = false := beq_eq_false_iff_ne.mpr c14
      have c14b1 : (a1 != 7) = true := bne_iff_ne.mpr c14
      have HC17 := am_ H
      clear H
      go_enter Try.func91, Try.ntmps91
      go_upto_if 46 with (fail)
      go_cut [46] (fun v46 wc => ∃ (kq : Nat) (x46_16 : Bool), v46 = .bool x46_16 ∧ Aside0 (impl_apply.j0 kq a0 a1 a2 a3 0 a1 x46_16 = some r) ∧ Aside0 (kq ≤ k) ∧ Drawn0 w wc)
      case first =>
       have H := HC17.out
       clear HC17
       by_cases c18 : a1 = 8
       ·rw [if_pos c18] at H
        have c18b0 : (a1 == 8) = true := beq_iff_eq.mpr c18
        have c18b1 : (a1 != 8) = false := bne_eq_false_iff_eq.mpr c18
        clear c18
        first | rw [c18b0] | (simp only [i64_w, i32_w]; rw [c18b0]) | skip
        have H' := am_ H
        clear H
        go_wp2
        go_meet
        case rel => exact ⟨_, ((a1 == 8)), (Sh.es), H', ⟨Sh.om⟩, Sh.dr⟩
       ·rw [if_neg c18] at H
        have c18b0 : (a1 == 8) = false := beq_eq_false_iff_ne.mpr c18
        have c18b1 : (a1 != 8) = true := bne_iff_ne.mpr c18
        first | rw [c18b0] | (simp only [i64_w, i32_w]; rw [c18b0]) | skip
        have H' := am_ H
        clear H
        go_wp2
        go_meet
        case rel => exact ⟨_, ((a1 == 17)), (Sh.es), H', ⟨Sh.om⟩, Sh.dr⟩
      case rest =>
       clear HC17
       try clear c1
       try clear p2
       try clear c5
       try clear c5b0
       try clear c5b1
       try clear c7
       try clear c7b0
       try clear c7b1
       try clear c9
       try clear c9b0
       try clear c9b1
       try clear c10
       try clear c11
       try clear c11b0
       try clear c11b1
       try clear c14
       try clear c14b0
       try clear c14b1
       try clear c18
       try clear c18b0
       try clear c18b1
       obtain ⟨kq, x46_16, rfl, HA, HJ16, ⟨mc16, rfl⟩⟩ := hcut
       cases kq with
       | zero => exact absurd HA.out (by simp [impl_apply.j0])
       | succ kj16 =>
        have H := HA.out
        clear HA
        simp only [impl_apply.j0] at H
        by_cases c19 : x46_16 = true
        ·subst c19
         rw [if_pos rfl] at H
         obtain ⟨t377, A200, H⟩ := Sh.bd H
         have A20 := am_ A200
         clear A200
         obtain rfl := Option.some.inj H
         go_wp2_with (first | ((with_reducible refine gate_callee (f := 75) rfl ?_); refine Sh.gL (some 96) Try.func75 #[.int .i64 a0] (h := ?_); (with_reducible refine (impl_mask.calls a0 t377 _ A20.out).mono ?_); rintro e w' ⟨rfl, ⟨nd, rfl⟩⟩; refine ⟨_, rfl, ?_⟩))
         go_ret
         exact ⟨Sh.es, Sh.dr⟩
        ·replace c19 := Bool.eq_false_iff.mpr c19
         subst c19
         rw [Sh.nf] at H
         have HC21 := am_ H
         clear H
         go_upto_if 52 with (fail)
         go_cut [52] (fun v52 wc => ∃ (kq : Nat) (x52_20 : Bool), v52 = .bool x52_20 ∧ Aside0 (impl_apply.j1 kq a0 a1 a2 a3 0 a1 x52_20 = some r) ∧ Aside0 (kq ≤ kj16) ∧ Drawn0 w wc)
         case first =>
          have H := HC21.out
          clear HC21
          by_cases c22 : a1 = 9
          ·rw [if_pos c22] at H
           have c22b0 : (a1 == 9) = true := beq_iff_eq.mpr c22
           have c22b1 : (a1 != 9) = false := bne_eq_false_iff_eq.mpr c22
           clear c22
           first | rw [c22b0] | (simp only [i64_w, i32_w]; rw [c22b0]) | skip
           have H' := am_ H
           clear H
           go_wp2
           go_meet
           case rel => exact ⟨_, ((a1 == 9)), (Sh.es), H', ⟨by have := HJ16.out; first | omega | exact Nat.le_refl _⟩, Sh.dr⟩
          ·rw [if_neg c22] at H
           have c22b0 : (a1 == 9) = false := beq_eq_false_iff_ne.mpr c22
           have c22b1 : (a1 != 9) = true := bne_iff_ne.mpr c22
           first | rw [c22b0] | (simp only [i64_w, i32_w]; rw [c22b0]) | skip
           have H' := am_ H
           clear H
           go_wp2
           go_meet
           case rel => exact ⟨_, ((a1 == 18)), (Sh.es), H', ⟨by have := HJ16.out; first | omega | exact Nat.le_refl _⟩, Sh.dr⟩
         case rest =>
          clear HC21
          try clear c1
          try clear c2
          try clear p2
          try clear c5
          try clear c5b0
          try clear c5b1
          try clear c7
          try clear c7b0
          try clear c7b1
          try clear c9
          try clear c9b0
          try clear c9b1
          try clear c10
          try clear c11
          try clear c11b0
          try clear c11b1
          try clear c14
          try clear c14b0
          try clear c14b1
          try clear c16
          try clear c18
          try clear c18b0
          try clear c18b1
          try clear c19
          try clear c22
          try clear c22b0
          try clear c22b1
          try clear p2
          obtain ⟨kq, x52_20, rfl, HA, HJ20, ⟨mc20, rfl⟩⟩ := hcut
          cases kq with
          | zero => exact absurd HA.out (by simp [impl_apply.j1])
          | succ kj20 =>
           have H := HA.out
           clear HA
           simp only [impl_apply.j1] at H
           by_cases c23 : x52_20 = true
           ·subst c23
            rw [if_pos rfl] at H
            obtain ⟨t378, A240, H⟩ := Sh.bd H
            have A24 := am_ A240
            clear A240
            obtain rfl := Option.some.inj H
            go_wp2_with (first | ((with_reducible refine gate_callee (f := 75) rfl ?_); refine Sh.gL (some 96) Try.func75 #[.int .i64 a0] (h := ?_); (with_reducible refine (impl_mask.calls a0 t378 _ A24.out).mono ?_); rintro e w' ⟨rfl, ⟨nd, rfl⟩⟩; refine ⟨_, rfl, ?_⟩))
            go_ret
            exact ⟨Sh.es, Sh.dr⟩
           ·replace c23 := Bool.eq_false_iff.mpr c23
            subst c23
            rw [Sh.nf] at H
            by_cases c25 : a1 = 10
            ·rw [if_pos c25] at H
             have c25b0 : (a1 == 10) = true := beq_iff_eq.mpr c25
             have c25b1 : (a1 != 10) = false := bne_eq_false_iff_eq.mpr c25
             clear c25
             obtain ⟨t379, A260, H⟩ := Sh.bd H
             have A26 := am_ A260
             clear A260
             obtain rfl := Option.some.inj H
             go_wp2_with (first | ((with_reducible refine gate_callee (f := 75) rfl ?_); refine Sh.gL (some 96) Try.func75 #[.int .i64 a0] (h := ?_); (with_reducible refine (impl_mask.calls a0 t379 _ A26.out).mono ?_); rintro e w' ⟨rfl, ⟨nd, rfl⟩⟩; refine ⟨_, rfl, ?_⟩))
             go_ret
             exact ⟨Sh.es, Sh.dr⟩
            ·rw [if_neg c25] at H
             have c25b0 : (a1 == 10) = false := beq_eq_false_iff_ne.mpr c25
             have c25b1 : (a1 != 10) = true := bne_iff_ne.mpr c25
             have HC27 := am_ H
             clear H
             go_upto_if 63 with (fail)
             go_cut [63] (fun v63 wc => ∃ (kq : Nat) (x63_26 : Bool), v63 = .bool x63_26 ∧ Aside0 (impl_apply.j2 kq a0 a1 a2 a3 0 a1 x63_26 = some r) ∧ Aside0 (kq ≤ kj20) ∧ Drawn0 w wc)
             case first =>
              have H := HC27.out
              clear HC27
              by_cases c28 : a1 = 11
              ·rw [if_pos c28] at H
               have c28b0 : (a1 == 11) = true := beq_iff_eq.mpr c28
               have c28b1 : (a1 != 11) = false := bne_eq_false_iff_eq.mpr c28
               clear c28
               first | rw [c28b0] | (simp only [i64_w, i32_w]; rw [c28b0]) | skip
               have H' := am_ H
               clear H
               go_wp2
               go_meet
               case rel => exact ⟨_, ((a1 == 11)), (Sh.es), H', ⟨by have := HJ16.out; have := HJ20.out; first | omega | exact Nat.le_refl _⟩, Sh.dr⟩
              ·rw [if_neg c28] at H
               have c28b0 : (a1 == 11) = false := beq_eq_false_iff_ne.mpr c28
               have c28b1 : (a1 != 11) = true := bne_iff_ne.mpr c28
               first | rw [c28b0] | (simp only [i64_w, i32_w]; rw [c28b0]) | skip
               have H' := am_ H
               clear H
               go_wp2
               go_meet
               case rel => exact ⟨_, ((a1 == 12)), (Sh.es), H', ⟨by have := HJ16.out; have := HJ20.out; first | omega | exact Nat.le_refl _⟩, Sh.dr⟩
             case rest =>
              clear HC27
              try clear c1
              try clear c2
              try clear p2
              try clear c5
              try clear c5b0
              try clear c5b1
              try clear c7
              try clear c7b0
              try clear c7b1
              try clear c9
              try clear c9b0
              try clear c9b1
              try clear c10
              try clear c11
              try clear c11b0
              try clear c11b1
              try clear c14
              try clear c14b0
              try clear c14b1
              try clear c16
              try clear c18
              try clear c18b0
              try clear c18b1
              try clear c19
              try clear c20
              try clear c22
              try clear c22b0
              try clear c22b1
              try clear c23
              try clear c25
              try clear c25b0
              try clear c25b1
              try clear c28
              try clear c28b0
              try clear c28b1
              try clear p2
              obtain ⟨kq, x63_26, rfl, HA, HJ26, ⟨mc26, rfl⟩⟩ := hcut
              cases kq with
              | zero => exact absurd HA.out (by simp [impl_apply.j2])
              | succ kj26 =>
               have H := HA.out
               clear HA
               simp only [impl_apply.j2] at H
               by_cases c29 : x63_26 = true
               ·subst c29
                rw [if_pos rfl] at H
                obtain ⟨t380, A300, H⟩ := Sh.bd H
                have A30 := am_ A300
                clear A300
                obtain ⟨t381, A310, H⟩ := Sh.bd H
                have A31 := am_ A310
                clear A310
                obtain rfl := Option.some.inj H
                go_wp2_with (first | ((with_reducible refine gate_callee (f := 106) rfl ?_); refine Sh.gL (some 71) Try.func106 #[.int .i64 a0, .int .u64 a2, .int .u64 a3, .bool (a1 == 11)] (h := ?_); (with_reducible refine (impl_shift.calls a0 a2 a3 (a1 == 11) t380 _ A30.out).mono ?_); rintro e w' ⟨rfl, ⟨nd, rfl⟩⟩; refine ⟨_, rfl, ?_⟩) | ((with_reducible refine gate_callee (f := 75) rfl ?_); refine Sh.gL (some 96) Try.func75 #[.int .i64 a0] (h := ?_); (with_reducible refine (impl_mask.calls a0 t381 _ A31.out).mono ?_); rintro e w' ⟨rfl, ⟨nd, rfl⟩⟩; refine ⟨_, rfl, ?_⟩))
                go_ret
                exact ⟨Sh.es, Sh.dr⟩
               ·replace c29 := Bool.eq_false_iff.mpr c29
                subst c29
                rw [Sh.nf] at H
                by_cases c32 : a1 = 14
                ·rw [if_pos c32] at H
                 have c32b0 : (a1 == 14) = true := beq_iff_eq.mpr c32
                 have c32b1 : (a1 != 14) = false := bne_eq_false_iff_eq.mpr c32
                 clear c32
                 obtain ⟨t382, A330, H⟩ := Sh.bd H
                 have A33 := am_ A330
                 clear A330
                 obtain ⟨t383, A340, H⟩ := Sh.bd H
                 have A34 := am_ A340
                 clear A340
                 obtain rfl := Option.some.inj H
                 go_wp2_with (first | ((with_reducible refine gate_callee (f := 107) rfl ?_); refine Sh.gL (some 77) Try.func107 #[.bool (a2 == a3)] (h := ?_); (with_reducible refine (impl_truth.calls (a2 == a3) t382 _ A33.out).mono ?_); rintro e w' ⟨rfl, ⟨nd, rfl⟩⟩; refine ⟨_, rfl, ?_⟩) | ((with_reducible refine gate_callee (f := 75) rfl ?_); refine Sh.gL (some 96) Try.func75 #[.int .i64 a0] (h := ?_); (with_reducible refine (impl_mask.calls a0 t383 _ A34.out).mono ?_); rintro e w' ⟨rfl, ⟨nd, rfl⟩⟩; refine ⟨_, rfl, ?_⟩))
                 go_ret
                 exact ⟨Sh.es, Sh.dr⟩
                ·rw [if_neg c32] at H
                 have c32b0 : (a1 == 14) = false := beq_eq_false_iff_ne.mpr c32
                 have c32b1 : (a1 != 14) = true := bne_iff_ne.mpr c32
                 by_cases c35 : a1 = 15
                 ·rw [if_pos c35] at H
                  have c35b0 : (a1 == 15) = true := beq_iff_eq.mpr c35
                  have c35b1 : (a1 != 15) = false := bne_eq_false_iff_eq.mpr c35
                  clear c35
                  obtain ⟨t384, A360, H⟩ := Sh.bd H
                  have A36 := am_ A360
                  clear A360
                  obtain ⟨t385, A370, H⟩ := Sh.bd H
                  have A37 := am_ A370
                  clear A370
                  obtain rfl := Option.some.inj H
                  go_wp2_with (first | ((with_reducible refine gate_callee (f := 107) rfl ?_); refine Sh.gL (some 83) Try.func107 #[.bool (decide (a2 < a3))] (h := ?_); (with_reducible refine (impl_truth.calls (decide (a2 < a3)) t384 _ A36.out).mono ?_); rintro e w' ⟨rfl, ⟨nd, rfl⟩⟩; refine ⟨_, rfl, ?_⟩) | ((with_reducible refine gate_callee (f := 75) rfl ?_); refine Sh.gL (some 96) Try.func75 #[.int .i64 a0] (h := ?_); (with_reducible refine (impl_mask.calls a0 t385 _ A37.out).mono ?_); rintro e w' ⟨rfl, ⟨nd, rfl⟩⟩; refine ⟨_, rfl, ?_⟩))
                  go_ret
                  exact ⟨Sh.es, Sh.dr⟩
                 ·rw [if_neg c35] at H
                  have c35b0 : (a1 == 15) = false := beq_eq_false_iff_ne.mpr c35
                  have c35b1 : (a1 != 15) = true := bne_iff_ne.mpr c35
                  by_cases c38 : a1 = 16
                  ·rw [if_pos c38] at H
                   have c38b0 : (a1 == 16) = true := beq_iff_eq.mpr c38
                   have c38b1 : (a1 != 16) = false := bne_eq_false_iff_eq.mpr c38
                   clear c38
                   obtain ⟨t386, A390, H⟩ := Sh.bd H
                   have A39 := am_ A390
                   clear A390
                   obtain ⟨t387, A400, H⟩ := Sh.bd H
                   have A40 := am_ A400
                   clear A400
                   obtain ⟨t388, A410, H⟩ := Sh.bd H
                   have A41 := am_ A410
                   clear A410
                   obtain ⟨t389, A420, H⟩ := Sh.bd H
                   have A42 := am_ A420
                   clear A420
                   obtain rfl := Option.some.inj H
                   go_wp2_with (first | ((with_reducible refine gate_callee (f := 108) rfl ?_); refine Sh.gL (some 88) Try.func108 #[.int .i64 a0, .int .u64 a2] (h := ?_); (with_reducible refine (impl_signed.calls a0 a2 t386 _ A39.out).mono ?_); rintro e w' ⟨rfl, ⟨nd, rfl⟩⟩; refine ⟨_, rfl, ?_⟩) | ((with_reducible refine gate_callee (f := 108) rfl ?_); refine Sh.gL (some 91) Try.func108 #[.int .i64 a0, .int .u64 a3] (h := ?_); (with_reducible refine (impl_signed.calls a0 a3 t387 _ A40.out).mono ?_); rintro e w' ⟨rfl, ⟨nd, rfl⟩⟩; refine ⟨_, rfl, ?_⟩) | ((with_reducible refine gate_callee (f := 107) rfl ?_); refine Sh.gL (some 93) Try.func107 #[.bool (decide (t386 < t387))] (h := ?_); (with_reducible refine (impl_truth.calls (decide (t386 < t387)) t388 _ A41.out).mono ?_); rintro e w' ⟨rfl, ⟨nd, rfl⟩⟩; refine ⟨_, rfl, ?_⟩) | ((with_reducible refine gate_callee (f := 75) rfl ?_); refine Sh.gL (some 96) Try.func75 #[.int .i64 a0] (h := ?_); (with_reducible refine (impl_mask.calls a0 t389 _ A42.out).mono ?_); rintro e w' ⟨rfl, ⟨nd, rfl⟩⟩; refine ⟨_, rfl, ?_⟩))
                   go_ret
                   exact ⟨Sh.es, Sh.dr⟩
                  ·rw [if_neg c38] at H
                   have c38b0 : (a1 == 16) = false := beq_eq_false_iff_ne.mpr c38
                   have c38b1 : (a1 != 16) = true := bne_iff_ne.mpr c38
                   obtain ⟨t390, A430, H⟩ := Sh.bd H
                   have A43 := am_ A430
                   clear A430
                   obtain rfl := Option.some.inj H
                   go_wp2_with (first | ((with_reducible refine gate_callee (f := 75) rfl ?_); refine Sh.gL (some 96) Try.func75 #[.int .i64 a0] (h := ?_); (with_reducible refine (impl_mask.calls a0 t390 _ A43.out).mono ?_); rintro e w' ⟨rfl, ⟨nd, rfl⟩⟩; refine ⟨_, rfl, ?_⟩))
                   go_ret
                   exact ⟨Sh.es, Sh.dr⟩
mutual
def impl_valueOf.l0 : Nat → Int → List Int → List Int → List (S80) → Int → Int → Option (Int)
 | 0, _, _, _, _, _, _ => none
 | k + 1, x0, x2, x7, x12, x13, x14 => if x14 < x13 then (if 0 ≤ x14 then (if x14 < (x12.length : Int) then (if ((rd_T80 x12 x14).f0) = 1 then (impl_valueOf.j1 k x0 x2 x7 (wrap64 ((x7.length : Int) - 1)) x12 x13 x14 ((rd_T80 x12 x14).f0) (((rd_T80 x12 x14).f0) == 1) ((rd_T80 x12 x14).f0) ((rd_T80 x12 x14).f1)) else (impl_valueOf.j1 k x0 x2 x7 (wrap64 ((x7.length : Int) - 1)) x12 x13 x14 ((rd_T80 x12 x14).f0) (((rd_T80 x12 x14).f0) == 20) ((rd_T80 x12 x14).f0) ((rd_T80 x12 x14).f1))) else (none)) else (none)) else (if 0 < (x7.length : Int) then (some (rd x7 0)) else (none))
def impl_valueOf.j1 : Nat → Int → List Int → List Int → Int → List (S80) → Int → Int → Int → Bool → Int → Int → Option (Int)
 | 0, _, _, _, _, _, _, _, _, _, _, _ => none
 | k + 1, x0, x2, x7, x10, x12, x13, x14, x22, x42, x397000, x397001 => if x42 = true then (if x7.length < 17592186044416 then (impl_valueOf.l0 k x0 x2 (x7 ++ [x397001]) x12 x13 (wrap64 (x14 + 1))) else (none)) else (if x22 = 2 then (if 0 ≤ x397001 then (if x397001 < (x2.length : Int) then (if x7.length < 17592186044416 then (impl_valueOf.l0 k x0 x2 (x7 ++ [rd x2 x397001]) x12 x13 (wrap64 (x14 + 1))) else (none)) else (none)) else (none)) else (if x22 = 13 then (if 0 ≤ x10 then (if x10 < (x7.length : Int) then ((impl_mask.f x0).bind fun t405 => (impl_valueOf.l0 k x0 x2 (x7.set (x10 : Int).toNat (Go.bits .and .u64 (Go.bits .xor .u64 18446744073709551615 (rd x7 x10)) t405)) x12 x13 (wrap64 (x14 + 1)))) else (none)) else (none)) else (if x22 = 19 then (if 0 ≤ x10 then (if x10 < (x7.length : Int) then (impl_valueOf.l0 k x0 x2 (x7.set (x10 : Int).toNat (IntKind.u64.wrap (1 - (rd x7 x10)))) x12 x13 (wrap64 (x14 + 1))) else (none)) else (none)) else (if 0 ≤ (wrap64 (x10 - 1)) then (if (wrap64 (x10 - 1)) < (x7.length : Int) then (if 0 ≤ x10 then (if x10 < (x7.length : Int) then (if (wrap64 (x10 - 1)) ≤ (x7.length : Int) then ((some (x7.take ((wrap64 (x10 - 1)) : Int).toNat : List Int)).bind fun y411 => ((impl_apply.f k x0 x397000 (rd x7 (wrap64 (x10 - 1))) (rd x7 x10)).bind fun t414 => (if y411.length < 17592186044416 then (impl_valueOf.l0 k x0 x2 (y411 ++ [t414]) x12 x13 (wrap64 (x14 + 1))) else (none)))) else (none)) else (none)) else (none)) else (none)) else (none)))))
end
def impl_valueOf.f (k : Nat) (a0 : Int) (l1 : List (S80)) (l2 : List Int) : Option (Int) := impl_valueOf.l0 k a0 l2 (([] : List Int)) l1 (l1.length : Int) 0
theorem impl_valueOf.mono_l : ∀ k, (∀ y0 y1 y2 y3 y4 y5, LeO (impl_valueOf.l0 k y0 y1 y2 y3 y4 y5) (impl_valueOf.l0 (k + 1) y0 y1 y2 y3 y4 y5)) ∧ (∀ y0 y1 y2 y3 y4 y5 y6 y7 y8 y9 y10, LeO (impl_valueOf.j1 k y0 y1 y2 y3 y4 y5 y6 y7 y8 y9 y10) (impl_valueOf.j1 (k + 1) y0 y1 y2 y3 y4 y5 y6 y7 y8 y9 y10))
 | 0 => ⟨fun _ _ _ _ _ _ r h => by simp [impl_valueOf.l0] at h, fun _ _ _ _ _ _ _ _ _ _ _ r h => by simp [impl_valueOf.j1] at h⟩
 | k + 1 => by
  obtain ⟨ih0, ih1⟩ := impl_valueOf.mono_l k
  and_intros <;> intros
  all_goals (first | unfold impl_valueOf.l0 | unfold impl_valueOf.j1)
  all_goals repeat' with_reducible first | apply ih0 | apply ih1 | apply impl_apply.mono | exact LeO.refl _ | exact LeO.none _ | apply LeO.ite | refine LeO.bind ?_ fun _ => ?_
theorem impl_valueOf.mono : ∀ a0 a1 a2 k, LeO (impl_valueOf.f k a0 a1 a2) (impl_valueOf.f (k + 1) a0 a1 a2) := by
 intro a0 a1 a2 k
 obtain ⟨ih0, ih1⟩ := impl_valueOf.mono_l k
 unfold impl_valueOf.f
 repeat' with_reducible first | apply ih0 | apply ih1 | apply impl_apply.mono | exact LeO.refl _ | exact LeO.none _ | apply LeO.ite | refine LeO.bind ?_ fun _ => ?_
def impl_valueOf.T7 : Bool × List (List Nat × List Nat) := (true, [([], []), ([], []), ([1], [1]), ([0, 2], [0, 2]), ([], []), ([], []), ([5], [5]), ([], []), ([], []), ([8], [8]), ([7, 9], [7, 9]), ([10], [10]), ([], []), ([], []), ([12, 13], [12, 13]), ([14], [14]), ([4, 6, 11, 15], [4, 6, 11, 15]), ([16], [16]), ([3, 17, 16], [3, 17]), ([18, 18, 0, 1, 2, 3, 4, 5, 6, 7, 8, 9, 10, 11, 12, 13, 14, 15, 16, 17, 18], [0, 7, 12, 18])])
def impl_valueOf.B7 : List Nat := [0, 0, 2, 7, 0, 0, 32, 0, 0, 256, 896, 1920, 0, 0, 12288, 28672, 65520, 131056, 262143, 524287]
theorem impl_valueOf.tab7 : rtab .any (opsOf Try.f67 7) = impl_valueOf.T7 := by kernel_rfl
theorem impl_valueOf.bits7 : waitsOk impl_valueOf.T7.2 impl_valueOf.B7 = true := by kernel_rfl
def impl_valueOf.T14 : Bool × List (List Nat × List Nat) := (true, [([], []), ([], []), ([], []), ([], []), ([2, 3], [2, 3]), ([4], [4]), ([5], [5]), ([], []), ([7], [7]), ([6, 8], [6, 8]), ([0, 1, 0, 1, 2, 3, 4, 5, 6, 7, 8, 9], [0, 1]), ([10, 9, 8, 0, 1, 2, 3, 4, 5, 6, 7, 8, 9], [9, 10])])
def impl_valueOf.B14 : List Nat := [0, 0, 0, 0, 12, 28, 60, 0, 128, 508, 1023, 2047]
theorem impl_valueOf.tab14 : rtab .any (opsOf Try.f67 14) = impl_valueOf.T14 := by kernel_rfl
theorem impl_valueOf.bits14 : waitsOk impl_valueOf.T14.2 impl_valueOf.B14 = true := by kernel_rfl
set_option maxHeartbeats 8000000 in
set_option maxRecDepth 100000 in
theorem impl_valueOf.calls (k : Nat) (a0 : Int) (A1 : Option Addr) (c1 : Nat) (l1 : List (S80)) (A2 : Option Addr) (c2 : Nat) (l2 : List Int) (r : Int) (w : World) (hr1 : Kd.C k80 w A1 l1.length l1) (hc1 : l1.length ≤ c1) (hr2 : Kd.C (Kd.int .u64) w A2 l2.length l2) (hc2 : l2.length ≤ c2) (h : impl_valueOf.f k a0 l1 l2 = some r) :
  Calls Try.prog 67 #[.int .i64 a0, .slice A1 l1.length c1, .slice A2 l2.length c2] w fun e w' => e = .returned (.int .u64 r) ∧ Below w.heap.size w w' := by
 have hu80 := Try.underlying80
 have HR1 := am_ hr1
 have HC1 := am_ hc1
 clear hr1 hc1
 have HR2 := am_ hr2
 have HC2 := am_ hc2
 clear hr2 hc2
 have HB := am_ (Below.refl w.heap.size w)
 have H := h
 clear h
 unfold impl_valueOf.f at H
 obtain ⟨y391, hy391⟩ : ∃ y_ : List Int, y_ = (([] : List Int)) := ⟨_, rfl⟩
 replace H : (impl_valueOf.l0 k a0 l2 y391 l1 (l1.length : Int) 0) = some r := by first | (rw [hy391]; with_reducible exact H) | (have H2_ := (Option.bind_some _ _).symm.trans H; rw [hy391]; with_reducible exact H2_) | (have H2_ := (Option.bind_some _ _).symm.trans H; with_reducible exact H2_) | with_reducible exact H | (rw [hy391]; exact H) | exact H
 have Ny391 := am_ hy391
 clear hy391
 have H' := am_ H
 clear H
 go_enter Try.func67, Try.ntmps67
 go_wp2_with (first | ((with_reducible refine gate_dst (N := 11) rfl ?_); refine Kd.R_lit (Kd.int .u64) _ 61 ?hg (N := 11) ?hd (xs := ([] : List Int)) (inner := []) (ok := fun _ => True) (okp := fun _ => True) ?hr ?hp (fun _ hk => hk) trivial (Below.refl _ _) (Nat.le_refl _) (by simp) ?_; (case hd => rfl); (case hg => rfl); (case hr => first | (go_simp; done) | (go_simp; rfl)); (case hp => exact (Reps.none _ _)); intro v392 w4 ho5 hb hg_ hnew_; clear hg_ hnew_; (first | rw [← Ny391.out] at ho5 | (simp only [Int.reduceToNat] at ho5; rw [← Ny391.out] at ho5)); have HO393 := am_ (Kd.R_lower ho5 (below_size Sh.bw)); replace HB := am_ (below_step Sh.bw hb); clear hb ho5))
 go_loopg [7, 14] k (fun kq v7 v14 w' => ∃ (x7_1 : List Int) (x14_1 : Int), v14 = .int .i64 x14_1 ∧ Aside0 (impl_valueOf.l0 kq a0 l2 x7_1 l1 (l1.length : Int) x14_1 = some r) ∧ Aside0 (kq ≤ k) ∧ Aside0 (Kd.R (Kd.int .u64) 61 w' w.heap.size (fun _ => True) v7 x7_1) ∧ Aside0 (Below w.heap.size w w'))
 case atStart => exact ⟨(y391), (0), (Sh.es), H', ⟨Nat.le_refl _⟩, ⟨by (with_reducible repeat (first | apply Kd.R_alloc | apply Kd.R_drewN | apply Kd.R_drew)); exact HO393.out⟩, ⟨Sh.bw⟩⟩
 case round =>
  clear H'
  try clear c1
  try clear c2
  try clear p2
  obtain ⟨x7_1, x14_1, rfl, HA, HK1, HO_7, HB⟩ := hrel
  cases gk with
  | zero => exact absurd HA.out (by simp [impl_valueOf.l0])
  | succ k1 =>
   have H := HA.out
   clear HA
   simp only [impl_valueOf.l0] at H
   by_cases c6 : x14_1 < (l1.length : Int)
   ·rw [if_pos c6] at H
    have c6b0 : decide (x14_1 < (l1.length : Int)) = true := decide_eq_true c6
    clear c6
    by_cases c7 : 0 ≤ x14_1
    ·rw [if_pos c7] at H
     have c7b0 : decide (0 ≤ x14_1) = true := decide_eq_true c7
     clear c7
     by_cases c8 : x14_1 < (l1.length : Int)
     ·rw [if_pos c8] at H
      have c8b0 : decide (x14_1 < (l1.length : Int)) = true := decide_eq_true c8
      clear c8
      have HC9 := am_ H
      clear H
      have p395 : 0 ≤ (x14_1 : Int) := Sh.od
      have q395 : x14_1 < (l1.length : Int) := Sh.od
      obtain ⟨ad395, e395, hx395_0, hx395_1⟩ := at_T80 HR1.out x14_1 p395 q395
      cases e395
      (try replace hx395_0 := (HB.out.cell (World.block_lt_of_cell? w _ hx395_0)).trans hx395_0)
      (try replace hx395_1 := (HB.out.cell (World.block_lt_of_cell? w _ hx395_1)).trans hx395_1)
      replace p395 := eq_true p395
      replace q395 := eq_true q395
      go_upto_if 42 with (first | ((with_reducible refine gate_dst (N := 9) rfl ?_); refine Sh.bx (N := 9) (cs := #[.int .i64 0, .int .u64 0]) (t := 80) (h := ?_); intro gb396 hg w10 hbox hb; replace HO_7 := am_ (Kd.R_below (by (with_reducible repeat (first | apply Kd.R_alloc | apply Kd.R_drewN | apply Kd.R_drew)); exact HO_7.out) hb); have BK396 := am_ hbox; have GW396 := am_ (Sh.gw (w := w) hg); have GE396 := am_ (Sh.gw (w := w) hg); replace HB := am_ (below_step Sh.bw hb); clear hb hbox hg; obtain ⟨hcz11_0, hcz11_1, hfz11_0, hfz11_1⟩ := Sh.b2 BK396.out; obtain ⟨Ao12, co12, eo12⟩ := Kd.R_slice HO_7.out; subst eo12))
      (try simp only [Act.put, List.setIfInBounds_toArray, List.set_cons_zero, List.set_cons_succ])
      go_cut [42] (fun v42 wc => ∃ (kq : Nat) (x42_8 : Bool), v42 = .bool x42_8 ∧ Aside0 (impl_valueOf.j1 kq a0 l2 x7_1 (wrap64 ((x7_1.length : Int) - 1)) l1 (l1.length : Int) x14_1 ((rd_T80 l1 x14_1).f0) x42_8 ((rd_T80 l1 x14_1).f0) ((rd_T80 l1 x14_1).f1) = some r) ∧ Aside0 (kq ≤ k1) ∧ Aside0 (Kd.R (Kd.int .u64) 61 wc w.heap.size (fun _ => True) (.slice Ao12 x7_1.length co12) x7_1) ∧ Aside0 (wc.heap[gb396]? = some (.cells #[.int .i64 ((rd_T80 l1 x14_1).f0), .int .u64 ((rd_T80 l1 x14_1).f1)] 80 (0, 0))) ∧ Aside0 (Below w.heap.size w wc))
      case first =>
       have H := HC9.out
       clear HC9
       by_cases c13 : ((rd_T80 l1 x14_1).f0) = 1
       ·rw [if_pos c13] at H
        have c13b0 : (((rd_T80 l1 x14_1).f0) == 1) = true := beq_iff_eq.mpr c13
        have c13b1 : (((rd_T80 l1 x14_1).f0) != 1) = false := bne_eq_false_iff_eq.mpr c13
        clear c13
        first | rw [c13b0] | (simp only [i64_w, i32_w]; rw [c13b0]) | skip
        have H' := am_ H
        clear H
        go_wp2
        go_meet
        case rel => exact ⟨_, ((((rd_T80 l1 x14_1).f0) == 1)), (Sh.es), H', ⟨by have := HK1.out; first | omega | exact Nat.le_refl _⟩, ⟨by (with_reducible repeat (first | apply Kd.R_alloc | apply Kd.R_drewN | apply Kd.R_drew)); exact Kd.R_mono (Kd.R_far (p := ⟨gb396, 1, none⟩) (Kd.R_far (p := ⟨gb396, 0, none⟩) (Kd.R_types HO_7.out BK396.out (by decide)) (fun _ hk => hk.2) (.int .i64 ((rd_T80 l1 x14_1).f0))) (fun _ hk => hk.2) (.int .u64 ((rd_T80 l1 x14_1).f1))) (fun _ hk => trivial)⟩, ⟨by (with_reducible repeat (first | refine blk_drewN ?_ _ | refine blk_drew ?_ | refine blk_alloc ?_ _)); refine blk_put (cs := #[.int .i64 ((rd_T80 l1 x14_1).f0), .int .u64 0]) ?_ 1 _ rfl; (with_reducible repeat (first | refine blk_drewN ?_ _ | refine blk_drew ?_ | refine blk_alloc ?_ _)); refine blk_put (cs := #[.int .i64 0, .int .u64 0]) ?_ 0 _ rfl; (with_reducible repeat (first | refine blk_drewN ?_ _ | refine blk_drew ?_ | refine blk_alloc ?_ _)); exact BK396.out⟩, ⟨Sh.bw⟩⟩
       ·rw [if_neg c13] at H
        have c13b0 : (((rd_T80 l1 x14_1).f0) == 1) = false := beq_eq_false_iff_ne.mpr c13
        have c13b1 : (((rd_T80 l1 x14_1).f0) != 1) = true := bne_iff_ne.mpr c13
        first | rw [c13b0] | (simp only [i64_w, i32_w]; rw [c13b0]) | skip
        have H' := am_ H
        clear H
        go_wp2
        go_meet
        case rel => exact ⟨_, ((((rd_T80 l1 x14_1).f0) == 20)), (Sh.es), H', ⟨by have := HK1.out; first | omega | exact Nat.le_refl _⟩, ⟨by (with_reducible repeat (first | apply Kd.R_alloc | apply Kd.R_drewN | apply Kd.R_drew)); exact Kd.R_mono (Kd.R_far (p := ⟨gb396, 1, none⟩) (Kd.R_far (p := ⟨gb396, 0, none⟩) (Kd.R_types HO_7.out BK396.out (by decide)) (fun _ hk => hk.2) (.int .i64 ((rd_T80 l1 x14_1).f0))) (fun _ hk => hk.2) (.int .u64 ((rd_T80 l1 x14_1).f1))) (fun _ hk => trivial)⟩, ⟨by (with_reducible repeat (first | refine blk_drewN ?_ _ | refine blk_drew ?_ | refine blk_alloc ?_ _)); refine blk_put (cs := #[.int .i64 ((rd_T80 l1 x14_1).f0), .int .u64 0]) ?_ 1 _ rfl; (with_reducible repeat (first | refine blk_drewN ?_ _ | refine blk_drew ?_ | refine blk_alloc ?_ _)); refine blk_put (cs := #[.int .i64 0, .int .u64 0]) ?_ 0 _ rfl; (with_reducible repeat (first | refine blk_drewN ?_ _ | refine blk_drew ?_ | refine blk_alloc ?_ _)); exact BK396.out⟩, ⟨Sh.bw⟩⟩
      case rest =>
       clear HC9
       try clear c1
       try clear c2
       try clear p2
       try clear p3
       try clear q3
       try clear hx3
       try clear c6
       try clear c6b0
       try clear p6
       try clear c7
       try clear c7b0
       try clear c8
       try clear c8b0
       try clear c13
       try clear c13b0
       try clear c13b1
       try clear hcz11_0
       try clear hcz11_1
       try clear hfz11_0
       try clear hfz11_1
       try clear hx395_0
       try clear hx395_1
       try clear p2
       try clear p395
       try clear q395
       obtain ⟨kq, x42_8, rfl, HA, HJ8, HO_7, BK396, HB⟩ := hcut
       cases kq with
       | zero => exact absurd HA.out (by simp [impl_valueOf.j1])
       | succ kj8 =>
        have H := HA.out
        clear HA
        simp only [impl_valueOf.j1] at H
        by_cases c14 : x42_8 = true
        ·subst c14
         rw [if_pos rfl] at H
         by_cases c15 : x7_1.length < 17592186044416
         ·rw [if_pos c15] at H
          have LMc15 := am_ c15
          clear c15
          obtain ⟨y397, hy397⟩ : ∃ y_ : List Int, y_ = (x7_1 ++ [((rd_T80 l1 x14_1).f1)]) := ⟨_, rfl⟩
          replace H : (impl_valueOf.l0 kj8 a0 l2 y397 l1 (l1.length : Int) (wrap64 (x14_1 + 1))) = some r := by first | (rw [hy397]; with_reducible exact H) | (have H2_ := (Option.bind_some _ _).symm.trans H; rw [hy397]; with_reducible exact H2_) | (have H2_ := (Option.bind_some _ _).symm.trans H; with_reducible exact H2_) | with_reducible exact H | (rw [hy397]; exact H) | exact H
          have Ny397 := am_ hy397
          clear hy397
          have H' := am_ H
          clear H
          have hcz16_0 := Sh.bc BK396.out 0
          have hcz16_1 := Sh.bc BK396.out 1
          have hfz16_0 := blk_frozen BK396.out 0
          have hfz16_1 := blk_frozen BK396.out 1
          go_wp2_with (first | ((with_reducible refine gate_builtin (b := .append) (xs := #[.tmp 45, .tmp 48]) rfl ?_); at_builtin; refine Kd.R_append (Kd.int .u64) (w0 := w) w.heap.size rfl (.tmp 45) (.tmp 48) 26 61 (.int .u64 0) 8 rfl Try.underlying26 info61 rfl (by decide) (by omega) (.slice Ao12 x7_1.length co12) x7_1 ((rd_T80 l1 x14_1).f1) [.int .u64 ((rd_T80 l1 x14_1).f1)] (fun _ => True) (fun _ => False) rfl rfl ?aP (fun _ hk => hk.elim) ?aF ?aO ?aB ?aS ?aL ?_; (case aP => exact rfl); (case aB => exact Sh.bw); (case aF => exact (fun _ _ => trivial)); (case aO => exact (by (with_reducible repeat (first | apply Kd.R_alloc | apply Kd.R_drewN | apply Kd.R_drew)); exact HO_7.out)); (case aS => exact (below_size Sh.bw)); (case aL => have := LMc15.out; omega); intro v398 w17 ho hb hg hat; rw [← Ny397.out] at ho; have n0_ := am_ (blk_grown (g := gb396) (o := .cells #[.int .i64 ((rd_T80 l1 x14_1).f0), .int .u64 ((rd_T80 l1 x14_1).f1)] 80 (0, 0)) (by (with_reducible repeat (first | refine blk_drewN ?_ _ | refine blk_drew ?_ | refine blk_alloc ?_ _)); exact BK396.out) hg (Kd.R_ne HO_7.out BK396.out (by decide))); have n1_ := am_ hb; have n2_ := am_ ho; clear BK396; clear HB; clear HO_7; have BK396 := n0_; have HB := n1_; have HO399 := n2_; clear n0_ n1_ n2_; clear ho hb hg hat))
          go_roundg kj8
          case measure => have := HK1.out; have := HJ8.out; omega
          case rel => exact ⟨(y397), (wrap64 (x14_1 + 1)), (Sh.es), H', ⟨by have := HK1.out; have := HJ8.out; omega⟩, ⟨by (with_reducible repeat (first | apply Kd.R_alloc | apply Kd.R_drewN | apply Kd.R_drew)); exact HO399.out⟩, ⟨Sh.bw⟩⟩
         ·rw [if_neg c15] at H
          exact absurd H (by simp)
        ·replace c14 := Bool.eq_false_iff.mpr c14
         subst c14
         rw [Sh.nf] at H
         by_cases c18 : ((rd_T80 l1 x14_1).f0) = 2
         ·rw [if_pos c18] at H
          have c18b0 : (((rd_T80 l1 x14_1).f0) == 2) = true := beq_iff_eq.mpr c18
          have c18b1 : (((rd_T80 l1 x14_1).f0) != 2) = false := bne_eq_false_iff_eq.mpr c18
          clear c18
          by_cases c19 : 0 ≤ ((rd_T80 l1 x14_1).f1)
          ·rw [if_pos c19] at H
           have c19b0 : decide (0 ≤ ((rd_T80 l1 x14_1).f1)) = true := decide_eq_true c19
           clear c19
           by_cases c20 : ((rd_T80 l1 x14_1).f1) < (l2.length : Int)
           ·rw [if_pos c20] at H
            have c20b0 : decide (((rd_T80 l1 x14_1).f1) < (l2.length : Int)) = true := decide_eq_true c20
            clear c20
            by_cases c21 : x7_1.length < 17592186044416
            ·rw [if_pos c21] at H
             have LMc21 := am_ c21
             clear c21
             obtain ⟨y401, hy401⟩ : ∃ y_ : List Int, y_ = (x7_1 ++ [rd l2 ((rd_T80 l1 x14_1).f1)]) := ⟨_, rfl⟩
             replace H : (impl_valueOf.l0 kj8 a0 l2 y401 l1 (l1.length : Int) (wrap64 (x14_1 + 1))) = some r := by first | (rw [hy401]; with_reducible exact H) | (have H2_ := (Option.bind_some _ _).symm.trans H; rw [hy401]; with_reducible exact H2_) | (have H2_ := (Option.bind_some _ _).symm.trans H; with_reducible exact H2_) | with_reducible exact H | (rw [hy401]; exact H) | exact H
             have Ny401 := am_ hy401
             clear hy401
             have H' := am_ H
             clear H
             have hcz22_0 := Sh.bc BK396.out 0
             have hcz22_1 := Sh.bc BK396.out 1
             have hfz22_0 := blk_frozen BK396.out 0
             have hfz22_1 := blk_frozen BK396.out 1
             have p400 : 0 ≤ (((rd_T80 l1 x14_1).f1) : Int) := Sh.od
             have q400 : ((rd_T80 l1 x14_1).f1) < (l2.length : Int) := Sh.od
             obtain ⟨ad400, e400, hx400_0⟩ := Kd.at_int HR2.out ((rd_T80 l1 x14_1).f1) p400 q400
             cases e400
             (try replace hx400_0 := (HB.out.cell (World.block_lt_of_cell? w _ hx400_0)).trans hx400_0)
             replace p400 := eq_true p400
             replace q400 := eq_true q400
             go_wp2_with (first | ((with_reducible refine gate_builtin (b := .append) (xs := #[.tmp 52, .tmp 58]) rfl ?_); at_builtin; refine Kd.R_append (Kd.int .u64) (w0 := w) w.heap.size rfl (.tmp 52) (.tmp 58) 26 61 (.int .u64 0) 8 rfl Try.underlying26 info61 rfl (by decide) (by omega) (.slice Ao12 x7_1.length co12) x7_1 (rd l2 ((rd_T80 l1 x14_1).f1)) [.int .u64 (rd l2 ((rd_T80 l1 x14_1).f1))] (fun _ => True) (fun _ => False) rfl rfl ?aP (fun _ hk => hk.elim) ?aF ?aO ?aB ?aS ?aL ?_; (case aP => exact rfl); (case aB => exact Sh.bw); (case aF => exact (fun _ _ => trivial)); (case aO => exact (by (with_reducible repeat (first | apply Kd.R_alloc | apply Kd.R_drewN | apply Kd.R_drew)); exact HO_7.out)); (case aS => exact (below_size Sh.bw)); (case aL => have := LMc21.out; omega); intro v402 w23 ho hb hg hat; rw [← Ny401.out] at ho; have n0_ := am_ (blk_grown (g := gb396) (o := .cells #[.int .i64 ((rd_T80 l1 x14_1).f0), .int .u64 ((rd_T80 l1 x14_1).f1)] 80 (0, 0)) (by (with_reducible repeat (first | refine blk_drewN ?_ _ | refine blk_drew ?_ | refine blk_alloc ?_ _)); exact BK396.out) hg (Kd.R_ne HO_7.out BK396.out (by decide))); have n1_ := am_ hb; have n2_ := am_ ho; clear BK396; clear HB; clear HO_7; have BK396 := n0_; have HB := n1_; have HO403 := n2_; clear n0_ n1_ n2_; clear ho hb hg hat))
             go_roundg kj8
             case measure => have := HK1.out; have := HJ8.out; omega
             case rel => exact ⟨(y401), (wrap64 (x14_1 + 1)), (Sh.es), H', ⟨by have := HK1.out; have := HJ8.out; omega⟩, ⟨by (with_reducible repeat (first | apply Kd.R_alloc | apply Kd.R_drewN | apply Kd.R_drew)); exact HO403.out⟩, ⟨Sh.bw⟩⟩
            ·rw [if_neg c21] at H
             exact absurd H (by simp)
           ·rw [if_neg c20] at H
            exact absurd H (by simp)
          ·rw [if_neg c19] at H
           exact absurd H (by simp)
         ·rw [if_neg c18] at H
          have c18b0 : (((rd_T80 l1 x14_1).f0) == 2) = false := beq_eq_false_iff_ne.mpr c18
          have c18b1 : (((rd_T80 l1 x14_1).f0) != 2) = true := bne_iff_ne.mpr c18
          by_cases c24 : ((rd_T80 l1 x14_1).f0) = 13
          ·rw [if_pos c24] at H
           have c24b0 : (((rd_T80 l1 x14_1).f0) == 13) = true := beq_iff_eq.mpr c24
           have c24b1 : (((rd_T80 l1 x14_1).f0) != 13) = false := bne_eq_false_iff_eq.mpr c24
           clear c24
           obtain ⟨ji25, hj1⟩ : ∃ j_ : Int, (wrap64 ((x7_1.length : Int) - 1)) = j_ := ⟨_, rfl⟩
           replace H : (if 0 ≤ (ji25) then (if (ji25) < (x7_1.length : Int) then ((impl_mask.f a0).bind fun t405 => (impl_valueOf.l0 kj8 a0 l2 (x7_1.set ((ji25) : Int).toNat (Go.bits .and .u64 (Go.bits .xor .u64 18446744073709551615 (rd x7_1 (ji25))) t405)) l1 (l1.length : Int) (wrap64 (x14_1 + 1)))) else (none)) else (none)) = some r := by first | (rw [hj1] at H; exact H) | (simp only [hj1] at H ⊢; exact H)
           have hji25w : (IntKind.i64.wrap ((x7_1.length : Int) - 1)) = ji25 := (i64_w _).trans hj1
           by_cases c26 : 0 ≤ (ji25)
           ·rw [if_pos c26] at H
            have c26b0 : decide (0 ≤ (ji25)) = true := decide_eq_true c26
            clear c26
            by_cases c27 : (ji25) < (x7_1.length : Int)
            ·rw [if_pos c27] at H
             have c27b0 : decide ((ji25) < (x7_1.length : Int)) = true := decide_eq_true c27
             clear c27
             obtain ⟨t405, A280, H⟩ := Sh.bd H
             have A28 := am_ A280
             clear A280
             obtain ⟨y406, hy406⟩ : ∃ y_ : List Int, y_ = (x7_1.set ((ji25) : Int).toNat (Go.bits .and .u64 (Go.bits .xor .u64 18446744073709551615 (rd x7_1 (ji25))) t405)) := ⟨_, rfl⟩
             replace H : (impl_valueOf.l0 kj8 a0 l2 y406 l1 (l1.length : Int) (wrap64 (x14_1 + 1))) = some r := by first | (rw [hy406]; with_reducible exact H) | (have H2_ := (Option.bind_some _ _).symm.trans H; rw [hy406]; with_reducible exact H2_) | (have H2_ := (Option.bind_some _ _).symm.trans H; with_reducible exact H2_) | with_reducible exact H | (rw [hy406]; exact H) | exact H
             have Ny406 := am_ hy406
             clear hy406
             have H' := am_ H
             clear H
             try go_wp2
             replace HO_7 := am_ (Kd.R_drew HO_7.out)
             replace BK396 := am_ (blk_drew BK396.out)
             replace HB := am_ (below_drew1 HB.out)
             have p404 : 0 ≤ ((ji25) : Int) := Sh.od
             have q404 : (ji25) < (x7_1.length : Int) := Sh.od
             obtain ⟨ad404, e404, hx404_0⟩ := Kd.at_int (Kd.R_reads' HO_7.out).2.2 (ji25) p404 q404
             cases e404
             replace p404 := eq_true p404
             replace q404 := eq_true q404
             refine start_ (n := 12) (S := fun w' => w'.cell? (ad404.add ((ji25)).toNat) = some (.int .u64 (rd x7_1 (ji25)))) (ds := [11]) (Sh.nm 12 0) (by kernel_rfl) rfl rfl (hx404_0) (fun hHeld => ?_); refine with_tabW impl_valueOf.tab14 impl_valueOf.bits14 (fun HT_ HW_ => ?_)
             generalize wc.drew = w30 at HO_7 BK396 HB hx404_0 hHeld ⊢
             refine Sh.qA 0 ?_; refine Sh.qA 1 ?_; refine Sh.qA 2 ?_; refine Sh.qA 3 ?_; refine Sh.qA 4 ?_; refine Sh.qA 7 ?_; refine Sh.qT 5 hHeld ?_; refine Sh.qA 6 ?_
             refine Sh.oC 8 Try.func75 #[.int .i64 a0] fun K hK => ?_
             with_reducible refine (impl_mask.calls a0 t405 _ A28.out).mono ?_
             rintro e w' ⟨rfl, ⟨nd, rfl⟩⟩
             refine ⟨_, rfl, ?_⟩
             have p29 : 0 ≤ ((ji25) : Int) := Sh.od
             have q29 : ((ji25) : Int) < ((x7_1.length : Int) : Int) := Sh.od
             obtain ⟨go29, co29, eo29, gb29, gl29, cl29, HG29⟩ := Kd.R_form HO_7.out (by omega)
             (first | cases eo29 | (injection eo29 with ea_ en_ ec_; (first | subst ea_ | (injection ea_ with ea_; subst ea_)); subst ec_; clear en_))
             have GB29 := am_ gb29
             have GG29 := am_ HG29
             clear gb29 gl29 HG29
             (first | simp only [add_plain] at hx404_0 | skip)
             obtain ⟨hx29_0, hf29_0⟩ := Kd.R_celln 0 HO_7.out ((ji25) : Int) p29 q29
             replace p29 := eq_true p29
             replace q29 := eq_true q29
             have HP31 := Kd.R_putn HO_7.out ((ji25) : Int) (Go.bits .and .u64 (Go.bits .xor .u64 18446744073709551615 (rd x7_1 (ji25))) t405)
             rw [← Ny406.out] at HP31
             have HQ31 := am_ HP31
             clear HP31
             refine hK.out _ _ (hHeld) (fun hHeld => ?_)
             clear hK K
             refine norm_ (a' := ?_) ?_ ?_
             rotate_left
             ·show Act.put _ (some 70) _ = _
              simp only [Act.put, List.setIfInBounds_toArray, List.set_cons_zero, List.set_cons_succ, i64_w, i32_w, hj1]
              rfl
             refine Sh.qA 9 ?_; refine Sh.qA 10 ?_
             refine last_ (i := 11) (N := none) (Sh.nm 12 4095) rfl rfl (one_of HT_.out (by kernel_rfl)) (by decide) (fun K hK => ?_)
             refine skip_ (w1 := ?_) (by rfl) rfl ?_ ?_
             rotate_left
             ·go_simp
              rfl
             refine hK.out _ _ ?_
             clear hK K
             refine done_ (done_of HT_.out (by kernel_rfl)) ?_
             try go_wp2
             go_roundg kj8
             case measure => have := HK1.out; have := HJ8.out; omega
             case rel => exact ⟨(y406), (wrap64 (x14_1 + 1)), (Sh.es), H', ⟨by have := HK1.out; have := HJ8.out; omega⟩, ⟨by (with_reducible repeat (first | apply Kd.R_alloc | apply Kd.R_drewN | apply Kd.R_drew)); exact HQ31.out⟩, ⟨Sh.bw⟩⟩
            ·rw [if_neg c27] at H
             exact absurd H (by simp)
           ·rw [if_neg c26] at H
            exact absurd H (by simp)
          ·rw [if_neg c24] at H
           have c24b0 : (((rd_T80 l1 x14_1).f0) == 13) = false := beq_eq_false_iff_ne.mpr c24
           have c24b1 : (((rd_T80 l1 x14_1).f0) != 13) = true := bne_iff_ne.mpr c24
           by_cases c32 : ((rd_T80 l1 x14_1).f0) = 19
           ·rw [if_pos c32] at H
            have c32b0 : (((rd_T80 l1 x14_1).f0) == 19) = true := beq_iff_eq.mpr c32
            have c32b1 : (((rd_T80 l1 x14_1).f0) != 19) = false := bne_eq_false_iff_eq.mpr c32
            clear c32
            obtain ⟨ji33, hj2⟩ : ∃ j_ : Int, (wrap64 ((x7_1.length : Int) - 1)) = j_ := ⟨_, rfl⟩
            replace H : (if 0 ≤ (ji33) then (if (ji33) < (x7_1.length : Int) then (impl_valueOf.l0 kj8 a0 l2 (x7_1.set ((ji33) : Int).toNat (IntKind.u64.wrap (1 - (rd x7_1 (ji33))))) l1 (l1.length : Int) (wrap64 (x14_1 + 1))) else (none)) else (none)) = some r := by first | (rw [hj2] at H; exact H) | (simp only [hj2] at H ⊢; exact H)
            have hji33w : (IntKind.i64.wrap ((x7_1.length : Int) - 1)) = ji33 := (i64_w _).trans hj2
            by_cases c34 : 0 ≤ (ji33)
            ·rw [if_pos c34] at H
             have c34b0 : decide (0 ≤ (ji33)) = true := decide_eq_true c34
             clear c34
             by_cases c35 : (ji33) < (x7_1.length : Int)
             ·rw [if_pos c35] at H
              have c35b0 : decide ((ji33) < (x7_1.length : Int)) = true := decide_eq_true c35
              clear c35
              obtain ⟨y408, hy408⟩ : ∃ y_ : List Int, y_ = (x7_1.set ((ji33) : Int).toNat (IntKind.u64.wrap (1 - (rd x7_1 (ji33))))) := ⟨_, rfl⟩
              replace H : (impl_valueOf.l0 kj8 a0 l2 y408 l1 (l1.length : Int) (wrap64 (x14_1 + 1))) = some r := by first | (rw [hy408]; with_reducible exact H) | (have H2_ := (Option.bind_some _ _).symm.trans H; rw [hy408]; with_reducible exact H2_) | (have H2_ := (Option.bind_some _ _).symm.trans H; with_reducible exact H2_) | with_reducible exact H | (rw [hy408]; exact H) | exact H
              have Ny408 := am_ hy408
              clear hy408
              have H' := am_ H
              clear H
              have p407 : 0 ≤ ((ji33) : Int) := Sh.od
              have q407 : (ji33) < (x7_1.length : Int) := Sh.od
              obtain ⟨ad407, e407, hx407_0⟩ := Kd.at_int (Kd.R_reads' HO_7.out).2.2 (ji33) p407 q407
              cases e407
              replace p407 := eq_true p407
              replace q407 := eq_true q407
              have p36 : 0 ≤ ((ji33) : Int) := Sh.od
              have q36 : ((ji33) : Int) < ((x7_1.length : Int) : Int) := Sh.od
              obtain ⟨go36, co36, eo36, gb36, gl36, cl36, HG36⟩ := Kd.R_form HO_7.out (by omega)
              (first | cases eo36 | (injection eo36 with ea_ en_ ec_; (first | subst ea_ | (injection ea_ with ea_; subst ea_)); subst ec_; clear en_))
              have GB36 := am_ gb36
              have GG36 := am_ HG36
              clear gb36 gl36 HG36
              (first | simp only [add_plain] at hx407_0 | skip)
              obtain ⟨hx36_0, hf36_0⟩ := Kd.R_celln 0 HO_7.out ((ji33) : Int) p36 q36
              replace p36 := eq_true p36
              replace q36 := eq_true q36
              have HP37 := Kd.R_putg HO_7.out ((ji33) : Int) (IntKind.u64.wrap (1 - (rd x7_1 (ji33))))
              go_wp2_with (first | ((with_reducible refine gate_store (t := 61) (p := 82) rfl ?_); refine store_event (t := 61) (p := 82) (v := ?vo_w38) (w1 := (wc.setCell ⟨go36, ((ji33) : Int).toNat, none⟩ (.int .u64 (IntKind.u64.wrap (1 - (rd x7_1 (ji33))))))) ?hg ?ho ?hn ?hr ?_; (case ho => rfl); (case hg => rfl); (case hn => rfl); (case hr => first | (go_simp; done) | (go_simp; rfl)); intro w38 hw; have hg : wc.grownBy w38 (some go36) := (by rw [hw]; exact HP37.2); have hp_ : Kd.R (Kd.int .u64) 61 w38 w.heap.size (fun _ => True) (.slice (some ⟨go36, 0, none⟩) x7_1.length co12) y408 := (by rw [hw, Ny408.out]; exact HP37.1); clear HP37; replace BK396 := am_ (blk_grown (g := gb396) (o := .cells #[.int .i64 ((rd_T80 l1 x14_1).f0), .int .u64 ((rd_T80 l1 x14_1).f1)] 80 (0, 0)) (by (with_reducible repeat (first | refine blk_drewN ?_ _ | refine blk_drew ?_ | refine blk_alloc ?_ _)); exact BK396.out) hg (Kd.R_ne HO_7.out BK396.out (by decide))); replace HO_7 := am_ hp_; replace HB := am_ ((by rw [hw]; exact below_set (HB.out) GB36.out : Below w.heap.size w w38)); clear hg hw hp_))
              go_roundg kj8
              case measure => have := HK1.out; have := HJ8.out; omega
              case rel => exact ⟨(y408), (wrap64 (x14_1 + 1)), (Sh.es), H', ⟨by have := HK1.out; have := HJ8.out; omega⟩, ⟨by (with_reducible repeat (first | apply Kd.R_alloc | apply Kd.R_drewN | apply Kd.R_drew)); exact HO_7.out⟩, ⟨Sh.bw⟩⟩
             ·rw [if_neg c35] at H
              exact absurd H (by simp)
            ·rw [if_neg c34] at H
             exact absurd H (by simp)
           ·rw [if_neg c32] at H
            have c32b0 : (((rd_T80 l1 x14_1).f0) == 19) = false := beq_eq_false_iff_ne.mpr c32
            have c32b1 : (((rd_T80 l1 x14_1).f0) != 19) = true := bne_iff_ne.mpr c32
            obtain ⟨ji39, hj3⟩ : ∃ j_ : Int, (wrap64 ((wrap64 ((x7_1.length : Int) - 1)) - 1)) = j_ := ⟨_, rfl⟩
            replace H : (if 0 ≤ (ji39) then (if (ji39) < (x7_1.length : Int) then (if 0 ≤ (wrap64 ((x7_1.length : Int) - 1)) then (if (wrap64 ((x7_1.length : Int) - 1)) < (x7_1.length : Int) then (if (ji39) ≤ (x7_1.length : Int) then ((some (x7_1.take ((ji39) : Int).toNat : List Int)).bind fun y411 => ((impl_apply.f kj8 a0 ((rd_T80 l1 x14_1).f0) (rd x7_1 (ji39)) (rd x7_1 (wrap64 ((x7_1.length : Int) - 1)))).bind fun t414 => (if y411.length < 17592186044416 then (impl_valueOf.l0 kj8 a0 l2 (y411 ++ [t414]) l1 (l1.length : Int) (wrap64 (x14_1 + 1))) else (none)))) else (none)) else (none)) else (none)) else (none)) else (none)) = some r := by first | (rw [hj3] at H; exact H) | (simp only [hj3] at H ⊢; exact H)
            have hji39w : (IntKind.i64.wrap ((wrap64 ((x7_1.length : Int) - 1)) - 1)) = ji39 := (i64_w _).trans hj3
            by_cases c40 : 0 ≤ (ji39)
            ·rw [if_pos c40] at H
             have c40b0 : decide (0 ≤ (ji39)) = true := decide_eq_true c40
             clear c40
             by_cases c41 : (ji39) < (x7_1.length : Int)
             ·rw [if_pos c41] at H
              have c41b0 : decide ((ji39) < (x7_1.length : Int)) = true := decide_eq_true c41
              clear c41
              obtain ⟨ji42, hj4⟩ : ∃ j_ : Int, (wrap64 ((x7_1.length : Int) - 1)) = j_ := ⟨_, rfl⟩
              have hj5 := hj3; (try rw [hj4] at hj5)
              replace H : (if 0 ≤ (ji42) then (if (ji42) < (x7_1.length : Int) then (if (ji39) ≤ (x7_1.length : Int) then ((some (x7_1.take ((ji39) : Int).toNat : List Int)).bind fun y411 => ((impl_apply.f kj8 a0 ((rd_T80 l1 x14_1).f0) (rd x7_1 (ji39)) (rd x7_1 (ji42))).bind fun t414 => (if y411.length < 17592186044416 then (impl_valueOf.l0 kj8 a0 l2 (y411 ++ [t414]) l1 (l1.length : Int) (wrap64 (x14_1 + 1))) else (none)))) else (none)) else (none)) else (none)) = some r := by first | (rw [hj4] at H; exact H) | (simp only [hj4] at H ⊢; exact H)
              have hji42w : (IntKind.i64.wrap ((x7_1.length : Int) - 1)) = ji42 := (i64_w _).trans hj4
              by_cases c43 : 0 ≤ (ji42)
              ·rw [if_pos c43] at H
               have c43b0 : decide (0 ≤ (ji42)) = true := decide_eq_true c43
               clear c43
               by_cases c44 : (ji42) < (x7_1.length : Int)
               ·rw [if_pos c44] at H
                have c44b0 : decide ((ji42) < (x7_1.length : Int)) = true := decide_eq_true c44
                clear c44
                by_cases c45 : (ji39) ≤ (x7_1.length : Int)
                ·rw [if_pos c45] at H
                 have c45b0 := eq_true c45
                 have c45b1 : decide ((ji39) ≤ (x7_1.length : Int)) = true := decide_eq_true c45
                 clear c45
                 obtain ⟨y411, hy411⟩ : ∃ y_ : List Int, y_ = (x7_1.take ((ji39) : Int).toNat) := ⟨_, rfl⟩
                 replace H : ((impl_apply.f kj8 a0 ((rd_T80 l1 x14_1).f0) (rd x7_1 (ji39)) (rd x7_1 (ji42))).bind fun t414 => (if y411.length < 17592186044416 then (impl_valueOf.l0 kj8 a0 l2 (y411 ++ [t414]) l1 (l1.length : Int) (wrap64 (x14_1 + 1))) else (none))) = some r := by first | (rw [hy411]; with_reducible exact H) | (have H2_ := (Option.bind_some _ _).symm.trans H; rw [hy411]; with_reducible exact H2_) | (have H2_ := (Option.bind_some _ _).symm.trans H; with_reducible exact H2_) | with_reducible exact H | (rw [hy411]; exact H) | exact H
                 have Ny411 := am_ hy411
                 clear hy411
                 obtain ⟨t414, A460, H⟩ := Sh.bd H
                 have A46 := am_ A460
                 clear A460
                 by_cases c47 : y411.length < 17592186044416
                 ·rw [if_pos c47] at H
                  have LMc47 := am_ c47
                  clear c47
                  obtain ⟨y415, hy415⟩ : ∃ y_ : List Int, y_ = (y411 ++ [t414]) := ⟨_, rfl⟩
                  replace H : (impl_valueOf.l0 kj8 a0 l2 y415 l1 (l1.length : Int) (wrap64 (x14_1 + 1))) = some r := by first | (rw [hy415]; with_reducible exact H) | (have H2_ := (Option.bind_some _ _).symm.trans H; rw [hy415]; with_reducible exact H2_) | (have H2_ := (Option.bind_some _ _).symm.trans H; with_reducible exact H2_) | with_reducible exact H | (rw [hy415]; exact H) | exact H
                  have Ny415 := am_ hy415
                  clear hy415
                  have H' := am_ H
                  clear H
                  try go_wp2
                  replace HO_7 := am_ (Kd.R_drew HO_7.out)
                  replace BK396 := am_ (blk_drew BK396.out)
                  replace HB := am_ (below_drew1 HB.out)
                  have p409 : 0 ≤ ((ji39) : Int) := Sh.od
                  have q409 : (ji39) < (x7_1.length : Int) := Sh.od
                  obtain ⟨ad409, e409, hx409_0⟩ := Kd.at_int (Kd.R_reads' HO_7.out).2.2 (ji39) p409 q409
                  cases e409
                  replace p409 := eq_true p409
                  replace q409 := eq_true q409
                  have p410 : 0 ≤ ((ji42) : Int) := Sh.od
                  have q410 : (ji42) < (x7_1.length : Int) := Sh.od
                  obtain ⟨ad410, e410, hx410_0⟩ := Kd.at_int (Kd.R_reads' HO_7.out).2.2 (ji42) p410 q410
                  obtain rfl : ad409 = ad410 := (by injection e410)
                  replace p410 := eq_true p410
                  replace q410 := eq_true q410
                  have q49 : ((ji39) : Int) ≤ ((x7_1.length : Int) : Int) := Sh.od
                  obtain ⟨i049, hi049, _, hsz49, _⟩ := info_parts info61
                  have hcut49 := cut_to (P := Try.prog) 26 61 .i64 Try.underlying26 hi049 (some ad409) x7_1.length co12 (ji39) (of_decide_eq_true (by first | (with_reducible assumption) | assumption)) q49 (Kd.R_reads' HO_7.out).2.1
                  have hr49 := Kd.R_take (m := ((ji39) : Int).toNat) HO_7.out (by omega)
                  have hy49 : y411.length = ((ji39) : Int).toNat := (by rw [Ny411.out, List.length_take]; omega)
                  rw [← Ny411.out] at hr49
                  rw [← hy49] at hr49 hcut49
                  clear hy49 hi049 hsz49 HO_7
                  have HO413 := am_ hr49
                  clear hr49
                  replace q49 := eq_true q49
                  refine start_ (n := 20) (S := fun w' => w'.cell? ⟨gb396, 0, none⟩ = some (.int .i64 ((rd_T80 l1 x14_1).f0)) ∧ w'.cell? ⟨gb396, 1, none⟩ = some (.int .u64 ((rd_T80 l1 x14_1).f1)) ∧ w'.cell? (ad409.add ((ji39)).toNat) = some (.int .u64 (rd x7_1 (ji39))) ∧ w'.cell? (ad409.add ((ji42)).toNat) = some (.int .u64 (rd x7_1 (ji42)))) (ds := [17, 18]) (Sh.nm 20 0) (by kernel_rfl) rfl rfl ⟨(blk_cell BK396.out 0).trans rfl, (blk_cell BK396.out 1).trans rfl, hx409_0, hx410_0⟩ (fun hHeld => ?_); refine with_tabW impl_valueOf.tab7 impl_valueOf.bits7 (fun HT_ HW_ => ?_)
                  generalize wc.drew = w48 at HO_7 BK396 HB HO413 hx409_0 hx410_0 hHeld ⊢
                  refine Sh.qA 0 ?_; refine Sh.qA 1 ?_; refine Sh.qA 2 ?_; refine Sh.qA 3 ?_; refine Sh.qA 4 ?_; refine Sh.qA 5 ?_; refine Sh.qA 7 ?_; refine Sh.qA 8 ?_; refine Sh.qA 9 ?_; refine Sh.qA 10 ?_; refine Sh.qA 12 ?_; refine Sh.qA 13 ?_; refine Sh.qA 14 ?_; refine Sh.qT 6 hHeld ?_; refine Sh.qT 11 hHeld ?_; refine Sh.qT 15 hHeld ?_
                  refine one_ (i := 16) (N := some 39) (Sh.nm 20 131071) rfl rfl (one_of HT_.out (by kernel_rfl)) (by decide) (fun K hK => ?_)
                  refine goes_ Try.func91 (by kernel_rfl) rfl #[.int .i64 a0, .int .i64 ((rd_T80 l1 x14_1).f0), .int .u64 (rd x7_1 (ji39)), .int .u64 (rd x7_1 (ji42))] (by rfl) rfl rfl (by (try simp only [List.map_toArray, List.map_cons, List.map_nil]); first | done | (simp only [hj3, hj4]; rfl) | rfl | (simp only [List.length_drop, List.length_take]; rfl)) ?_
                  with_reducible refine (impl_apply.calls kj8 a0 ((rd_T80 l1 x14_1).f0) (rd x7_1 (ji39)) (rd x7_1 (ji42)) t414 _ A46.out).mono ?_
                  rintro e w' ⟨rfl, ⟨nd, rfl⟩⟩
                  refine ⟨_, rfl, ?_⟩
                  refine Sh.kN hK ⟨(blk_cell BK396.out 0).trans rfl, (blk_cell BK396.out 1).trans rfl, hHeld.2.2.1, hHeld.2.2.2⟩ fun hHeld => ?_
                  clear hK K
                  refine last_ (i := 17) (N := some 40) (Sh.nm 20 262143) rfl rfl (one_of HT_.out (by kernel_rfl)) (by decide) (fun K hK => ?_)
                  refine value_ (w1 := ?_) (v := ?_) (by rfl) rfl ?_ ?_
                  rotate_left 2
                  ·go_simp
                   constructor
                   ·rfl
                   ·rfl
                  refine Sh.kM hK ?_
                  clear hK K
                  refine last_ (i := 18) (N := some 41) (Sh.nm 20 524287) rfl rfl (one_of HT_.out (by kernel_rfl)) (by decide) (fun K hK => ?_)
                  refine Kd.R_append_step (Kd.int .u64) (w0 := w) w.heap.size (by rfl) (.tmp 26) (.tmp 40) 26 61 (.int .u64 0) 8 rfl Try.underlying26 info61 rfl (by decide) (by omega) (.slice (some ad409) y411.length co12) y411 t414 [.int .u64 t414] (fun _ => True) (fun _ => False) rfl rfl ?aP (fun _ hk => hk.elim) ?aF ?aO ?aB ?aS ?aL ?_
                  (case aP => exact rfl)
                  (case aB => exact Sh.bw)
                  (case aF => exact (fun _ _ => trivial))
                  (case aO => exact (by (with_reducible repeat (first | apply Kd.R_alloc | apply Kd.R_drewN | apply Kd.R_drew)); exact HO413.out))
                  (case aS => exact (below_size Sh.bw))
                  (case aL => have := LMc47.out; omega)
                  intro v416 w50 ho hb hg hat
                  rw [← Ny415.out] at ho
                  have n0_ := am_ (blk_grown (g := gb396) (o := .cells #[.int .i64 ((rd_T80 l1 x14_1).f0), .int .u64 ((rd_T80 l1 x14_1).f1)] 80 (0, 0)) (by (with_reducible repeat (first | refine blk_drewN ?_ _ | refine blk_drew ?_ | refine blk_alloc ?_ _)); exact BK396.out) hg (Kd.R_ne HO413.out BK396.out (by decide)))
                  have n1_ := am_ hb
                  have n2_ := am_ ho
                  clear BK396
                  clear HB
                  clear HO413
                  have BK396 := n0_
                  have HB := n1_
                  have HO417 := n2_
                  clear n0_ n1_ n2_
                  clear ho hb hg hat
                  refine Sh.kM hK ?_
                  clear hK K
                  refine Sh.qA 19 ?_
                  refine done_ (done_of HT_.out (by kernel_rfl)) ?_
                  try go_wp2
                  go_roundg kj8
                  case measure => have := HK1.out; have := HJ8.out; omega
                  case rel => exact ⟨(y415), (wrap64 (x14_1 + 1)), (Sh.es), H', ⟨by have := HK1.out; have := HJ8.out; omega⟩, ⟨by (with_reducible repeat (first | apply Kd.R_alloc | apply Kd.R_drewN | apply Kd.R_drew)); exact HO417.out⟩, ⟨Sh.bw⟩⟩
                 ·rw [if_neg c47] at H
                  exact absurd H (by simp)
                ·rw [if_neg c45] at H
                 exact absurd H (by simp)
               ·rw [if_neg c44] at H
                exact absurd H (by simp)
              ·rw [if_neg c43] at H
               exact absurd H (by simp)
             ·rw [if_neg c41] at H
              exact absurd H (by simp)
            ·rw [if_neg c40] at H
             exact absurd H (by simp)
     ·rw [if_neg c8] at H
      exact absurd H (by simp)
    ·rw [if_neg c7] at H
     exact absurd H (by simp)
   ·rw [if_neg c6] at H
    have c6b0 : decide (x14_1 < (l1.length : Int)) = false := decide_eq_false c6
    clear c6
    by_cases c51 : 0 < (x7_1.length : Int)
    ·rw [if_pos c51] at H
     have c51b0 : decide (0 < (x7_1.length : Int)) = true := decide_eq_true c51
     have c51b1 : decide (0 < x7_1.length) = true := decide_eq_true (by omega)
     clear c51
     obtain rfl := Option.some.inj H
     obtain ⟨Ao52, co52, eo52⟩ := Kd.R_slice HO_7.out
     subst eo52
     have p394 : 0 ≤ (0 : Int) := (by omega)
     have q394 : 0 < (x7_1.length : Int) := Sh.od
     obtain ⟨ad394, e394, hx394_0⟩ := Kd.at_int (Kd.R_reads' HO_7.out).2.2 0 p394 q394
     cases e394
     have qi394 : (0 < x7_1.length) = True := eq_true (by omega)
     (try rw [show ((0 : Int)).toNat = 0 from rfl] at hx394_0)
     (try rw [Addr.add_zero'] at hx394_0)
     replace p394 := eq_true p394
     replace q394 := eq_true q394
     go_wp2
     go_ret
     exact ⟨Sh.eR, Sh.bw⟩
    ·rw [if_neg c51] at H
     exact absurd H (by simp)
def impl_Program_holds.f (k : Nat) (a0_0 : Int) (a0_1 : Int) (l0_2 : List (S80)) (l0_3 : List (S71)) (l1 : List (S80)) (l2 : List Int) : Option (Bool) := (impl_valueOf.f k a0_0 l1 l2).bind fun t419 => (some (t419 == 1))
theorem impl_Program_holds.mono : ∀ a0 a1 a2 a3 a4 a5 k, LeO (impl_Program_holds.f k a0 a1 a2 a3 a4 a5) (impl_Program_holds.f (k + 1) a0 a1 a2 a3 a4 a5) := by
 intro a0 a1 a2 a3 a4 a5 k
 unfold impl_Program_holds.f
 repeat' with_reducible first | apply impl_valueOf.mono | exact LeO.refl _ | exact LeO.none _ | apply LeO.ite | refine LeO.bind ?_ fun _ => ?_
set_option maxHeartbeats 8000000 in
set_option maxRecDepth 100000 in
theorem impl_Program_holds.calls (k : Nat) (a0_0 : Int) (a0_1 : Int) (A0_2 : Option Addr) (c0_2 : Nat) (l0_2 : List (S80)) (A0_3 : Option Addr) (c0_3 : Nat) (l0_3 : List (S71)) (A1 : Option Addr) (c1 : Nat) (l1 : List (S80)) (A2 : Option Addr) (c2 : Nat) (l2 : List Int) (r : Bool) (w : World) (hr0_2 : Kd.C k80 w A0_2 l0_2.length l0_2) (hc0_2 : l0_2.length ≤ c0_2) (hr0_3 : Kd.C k71 w A0_3 l0_3.length l0_3) (hc0_3 : l0_3.length ≤ c0_3) (hr1 : Kd.C k80 w A1 l1.length l1) (hc1 : l1.length ≤ c1) (hr2 : Kd.C (Kd.int .u64) w A2 l2.length l2) (hc2 : l2.length ≤ c2) (h : impl_Program_holds.f k a0_0 a0_1 l0_2 l0_3 l1 l2 = some r) :
  Calls Try.prog 38 #[.agg #[.int .i64 a0_0, .int .i64 a0_1, .slice A0_2 l0_2.length c0_2, .slice A0_3 l0_3.length c0_3], .slice A1 l1.length c1, .slice A2 l2.length c2] w fun e w' => e = .returned (.bool r) ∧ Below w.heap.size w w' := by
 have hu33 := Try.underlying33
 have HR0_2 := am_ hr0_2
 have HC0_2 := am_ hc0_2
 clear hr0_2 hc0_2
 have HR0_3 := am_ hr0_3
 have HC0_3 := am_ hc0_3
 clear hr0_3 hc0_3
 have HR1 := am_ hr1
 have HC1 := am_ hc1
 clear hr1 hc1
 have HR2 := am_ hr2
 have HC2 := am_ hc2
 clear hr2 hc2
 have HB := am_ (Below.refl w.heap.size w)
 have H := h
 clear h
 unfold impl_Program_holds.f at H
 obtain ⟨t419, A40, H⟩ := Sh.bd H
 have A4 := am_ A40
 clear A40
 obtain rfl := Option.some.inj H
 go_enter Try.func38, Try.ntmps38
 go_wp2_with (first | ((with_reducible refine gate_dst (N := 3) rfl ?_); refine Sh.bx (N := 3) (cs := #[.int .i64 a0_0, .int .i64 a0_1, .slice A0_2 l0_2.length c0_2, .slice A0_3 l0_3.length c0_3]) (t := 33) (h := ?_); intro gb418 hg w5 hbox hb; have BK418 := am_ hbox; have GW418 := am_ (Sh.gw (w := w) hg); have GE418 := am_ (Sh.gw (w := w) hg); replace HB := am_ (below_step Sh.bw hb); clear hb hbox hg; obtain ⟨hcz6_0, hcz6_1, hcz6_2, hcz6_3, hfz6_0, hfz6_1, hfz6_2, hfz6_3⟩ := Sh.b4 BK418.out) | ((with_reducible refine gate_callee (f := 67) rfl ?_); refine Sh.gL (some 11) Try.func67 #[.int .i64 a0_0, .slice A1 l1.length c1, .slice A2 l2.length c2] (h := ?_); (with_reducible refine (impl_valueOf.calls k a0_0 _ _ l1 _ _ l2 t419 _ (Sh.cB HR1.out) HC1.out (Sh.cB HR2.out) HC2.out A4.out).mono ?_); rintro e w7 ⟨rfl, hb⟩; refine ⟨_, rfl, ?_⟩; replace BK418 := am_ (Sh.bb BK418.out hb); replace HB := am_ (below_step Sh.bw hb); (try clear hb); (try clear hb2); (try clear hk); (try clear hi)))
 go_ret
 exact ⟨Sh.eR, Sh.bw⟩
def impl_Enabled.l0 : Nat → List Int → List Int → List (S71) → Int → Int → Int → Int → List (S80) → List (S71) → Option (List Int × Bool)
 | 0, _, _, _, _, _, _, _, _, _ => none
 | k + 1, x1, x6, x15, x16, x17, x421000, x421001, x421002, x421003 => if x17 < x16 then (if 0 ≤ x17 then (if x17 < (x15.length : Int) then ((impl_Program_holds.f k x421000 x421001 x421002 x421003 ((rd_T71 x15 x17).f0) x1).bind fun t427 => (if t427 = true then (if x6.length < 17592186044416 then (impl_Enabled.l0 k x1 (x6 ++ [x17]) x15 x16 (wrap64 (x17 + 1)) x421000 x421001 x421002 x421003) else (none)) else (impl_Enabled.l0 k x1 x6 x15 x16 (wrap64 (x17 + 1)) x421000 x421001 x421002 x421003))) else (none)) else (none)) else (some (x6, true))
def impl_Enabled.f (k : Nat) (a0_0 : Int) (a0_1 : Int) (l0_2 : List (S80)) (l0_3 : List (S71)) (l1 : List Int) : Option (List Int × Bool) := (impl_isStateOf.f k a0_0 a0_1 l0_2 l0_3 l1).bind fun t421 => (if t421 = true then (impl_Enabled.l0 k l1 (([] : List Int)) l0_3 (l0_3.length : Int) 0 a0_0 a0_1 l0_2 l0_3) else (some (([] : List Int), false)))
theorem impl_Enabled.mono_l : ∀ k, (∀ y0 y1 y2 y3 y4 y5 y6 y7 y8, LeO (impl_Enabled.l0 k y0 y1 y2 y3 y4 y5 y6 y7 y8) (impl_Enabled.l0 (k + 1) y0 y1 y2 y3 y4 y5 y6 y7 y8))
 | 0 => fun _ _ _ _ _ _ _ _ _ r h => by simp [impl_Enabled.l0] at h
 | k + 1 => by
  have ih0 := impl_Enabled.mono_l k
  ·intro y0 y1 y2 y3 y4 y5 y6 y7 y8
   unfold impl_Enabled.l0
   repeat' with_reducible first | apply ih0 | apply impl_Program_holds.mono | apply impl_isStateOf.mono | exact LeO.refl _ | exact LeO.none _ | apply LeO.ite | refine LeO.bind ?_ fun _ => ?_
theorem impl_Enabled.mono : ∀ a0 a1 a2 a3 a4 k, LeO (impl_Enabled.f k a0 a1 a2 a3 a4) (impl_Enabled.f (k + 1) a0 a1 a2 a3 a4) := by
 intro a0 a1 a2 a3 a4 k
 have ih0 := impl_Enabled.mono_l k
 unfold impl_Enabled.f
 repeat' with_reducible first | apply ih0 | apply impl_Program_holds.mono | apply impl_isStateOf.mono | exact LeO.refl _ | exact LeO.none _ | apply LeO.ite | refine LeO.bind ?_ fun _ => ?_
set_option maxHeartbeats 8000000 in
set_option maxRecDepth 100000 in
theorem impl_Enabled.calls (k : Nat) (a0_0 : Int) (a0_1 : Int) (A0_2 : Option Addr) (c0_2 : Nat) (l0_2 : List (S80)) (A0_3 : Option Addr) (c0_3 : Nat) (l0_3 : List (S71)) (A1 : Option Addr) (c1 : Nat) (l1 : List Int) (r1 : List Int) (r2 : Bool) (w : World) (hr0_2 : Kd.C k80 w A0_2 l0_2.length l0_2) (hc0_2 : l0_2.length ≤ c0_2) (hr0_3 : Kd.C k71 w A0_3 l0_3.length l0_3) (hc0_3 : l0_3.length ≤ c0_3) (hr1 : Kd.C (Kd.int .u64) w A1 l1.length l1) (hc1 : l1.length ≤ c1) (h : impl_Enabled.f k a0_0 a0_1 l0_2 l0_3 l1 = some (r1, r2)) :
  Calls Try.prog 22 #[.agg #[.int .i64 a0_0, .int .i64 a0_1, .slice A0_2 l0_2.length c0_2, .slice A0_3 l0_3.length c0_3], .slice A1 l1.length c1] w fun e w' => ∃ v0_ : Value, e = .returned (.tuple #[v0_, .bool r2]) ∧ Kd.R (Kd.int .i64) 3 w' w.heap.size (fun _ => True) v0_ r1 ∧ Below w.heap.size w w' := by
 have hu33 := Try.underlying33
 have hu71 := Try.underlying71
 have HR0_2 := am_ hr0_2
 have HC0_2 := am_ hc0_2
 clear hr0_2 hc0_2
 have HR0_3 := am_ hr0_3
 have HC0_3 := am_ hc0_3
 clear hr0_3 hc0_3
 have HR1 := am_ hr1
 have HC1 := am_ hc1
 clear hr1 hc1
 have HB := am_ (Below.refl w.heap.size w)
 have H := h
 clear h
 unfold impl_Enabled.f at H
 obtain ⟨t421, A30, H⟩ := Sh.bd H
 have A3 := am_ A30
 clear A30
 by_cases c4 : t421 = true
 ·subst c4
  rw [if_pos rfl] at H
  obtain ⟨y422, hy422⟩ : ∃ y_ : List Int, y_ = (([] : List Int)) := ⟨_, rfl⟩
  replace H : (impl_Enabled.l0 k l1 y422 l0_3 (l0_3.length : Int) 0 a0_0 a0_1 l0_2 l0_3) = some (r1, r2) := by first | (rw [hy422]; with_reducible exact H) | (have H2_ := (Option.bind_some _ _).symm.trans H; rw [hy422]; with_reducible exact H2_) | (have H2_ := (Option.bind_some _ _).symm.trans H; with_reducible exact H2_) | with_reducible exact H | (rw [hy422]; exact H) | exact H
  have Ny422 := am_ hy422
  clear hy422
  have H' := am_ H
  clear H
  go_enter Try.func22, Try.ntmps22
  go_wp2_with (first | ((with_reducible refine gate_dst (N := 2) rfl ?_); refine Sh.bx (N := 2) (cs := #[.int .i64 a0_0, .int .i64 a0_1, .slice A0_2 l0_2.length c0_2, .slice A0_3 l0_3.length c0_3]) (t := 33) (h := ?_); intro gb420 hg w5 hbox hb; have BK420 := am_ hbox; have GW420 := am_ (Sh.gw (w := w) hg); have GE420 := am_ (Sh.gw (w := w) hg); replace HB := am_ (below_step Sh.bw hb); clear hb hbox hg; obtain ⟨hcz6_0, hcz6_1, hcz6_2, hcz6_3, hfz6_0, hfz6_1, hfz6_2, hfz6_3⟩ := Sh.b4 BK420.out) | ((with_reducible refine gate_callee (f := 37) rfl ?_); refine Sh.gL (some 11) Try.func37 #[.agg #[.int .i64 a0_0, .int .i64 a0_1, .slice A0_2 l0_2.length c0_2, .slice A0_3 l0_3.length c0_3], .slice A1 l1.length c1] (h := ?_); (with_reducible refine (impl_isStateOf.calls k a0_0 a0_1 _ _ l0_2 _ _ l0_3 _ _ l1 true _ (Sh.cB HR0_2.out) HC0_2.out (Sh.cB HR0_3.out) HC0_3.out (Sh.cB HR1.out) HC1.out A3.out).mono ?_); rintro e w7 ⟨rfl, hb⟩; refine ⟨_, rfl, ?_⟩; replace BK420 := am_ (Sh.bb BK420.out hb); replace HB := am_ (below_step Sh.bw hb); (try clear hb); (try clear hb2); (try clear hk); (try clear hi)) | ((with_reducible refine gate_dst (N := 13) rfl ?_); refine Kd.R_lit (Kd.int .i64) _ 3 ?hg (N := 13) ?hd (xs := ([] : List Int)) (inner := []) (ok := fun _ => True) (okp := fun _ => True) ?hr ?hp (fun _ hk => hk) trivial (Below.refl _ _) (Nat.le_refl _) (by simp) ?_; (case hd => rfl); (case hg => rfl); (case hr => first | (go_simp; done) | (go_simp; rfl)); (case hp => exact (Reps.none _ _)); intro v423 w8 ho9 hb hg_ hnew_; clear hg_ hnew_; (first | rw [← Ny422.out] at ho9 | (simp only [Int.reduceToNat] at ho9; rw [← Ny422.out] at ho9)); have HO424 := am_ (Kd.R_lower ho9 (below_size Sh.bw)); replace BK420 := am_ (Sh.bb BK420.out hb); replace HB := am_ (below_step Sh.bw hb); clear hb ho9; obtain ⟨hcz10_0, hcz10_1, hcz10_2, hcz10_3, hfz10_0, hfz10_1, hfz10_2, hfz10_3⟩ := Sh.b4 BK420.out))
  go_loopg [6, 17] k (fun kq v6 v17 w' => ∃ (x6_1 : List Int) (x17_1 : Int), v17 = .int .i64 x17_1 ∧ Aside0 (impl_Enabled.l0 kq l1 x6_1 l0_3 (l0_3.length : Int) x17_1 a0_0 a0_1 l0_2 l0_3 = some (r1, r2)) ∧ Aside0 (kq ≤ k) ∧ Aside0 (Kd.R (Kd.int .i64) 3 w' w.heap.size (fun _ => True) v6 x6_1) ∧ Aside0 (w'.heap[gb420]? = some (.cells #[.int .i64 a0_0, .int .i64 a0_1, (.slice A0_2 l0_2.length c0_2), (.slice A0_3 l0_3.length c0_3)] 33 (0, 0))) ∧ Aside0 (Below w.heap.size w w'))
  case atStart => exact ⟨(y422), (0), (Sh.es), H', ⟨Nat.le_refl _⟩, ⟨by (with_reducible repeat (first | apply Kd.R_alloc | apply Kd.R_drewN | apply Kd.R_drew)); exact HO424.out⟩, ⟨by (with_reducible repeat (first | refine blk_drewN ?_ _ | refine blk_drew ?_ | refine blk_alloc ?_ _)); exact BK420.out⟩, ⟨Sh.bw⟩⟩
  case round =>
   clear H'
   try clear c1
   try clear c2
   try clear p2
   try clear c3
   try clear c4
   try clear hcz10_0
   try clear hcz10_1
   try clear hcz10_2
   try clear hcz10_3
   try clear hcz6_0
   try clear hcz6_1
   try clear hcz6_2
   try clear hcz6_3
   try clear hfz10_0
   try clear hfz10_1
   try clear hfz10_2
   try clear hfz10_3
   try clear hfz6_0
   try clear hfz6_1
   try clear hfz6_2
   try clear hfz6_3
   obtain ⟨x6_1, x17_1, rfl, HA, HK1, HO_6, BK420, HB⟩ := hrel
   cases gk with
   | zero => exact absurd HA.out (by simp [impl_Enabled.l0])
   | succ k1 =>
    have H := HA.out
    clear HA
    simp only [impl_Enabled.l0] at H
    by_cases c11 : x17_1 < (l0_3.length : Int)
    ·rw [if_pos c11] at H
     have c11b0 : decide (x17_1 < (l0_3.length : Int)) = true := decide_eq_true c11
     clear c11
     by_cases c12 : 0 ≤ x17_1
     ·rw [if_pos c12] at H
      have c12b0 : decide (0 ≤ x17_1) = true := decide_eq_true c12
      clear c12
      by_cases c13 : x17_1 < (l0_3.length : Int)
      ·rw [if_pos c13] at H
       have c13b0 : decide (x17_1 < (l0_3.length : Int)) = true := decide_eq_true c13
       clear c13
       obtain ⟨t427, A140, H⟩ := Sh.bd H
       have A14 := am_ A140
       clear A140
       by_cases c15 : t427 = true
       ·subst c15
        rw [if_pos rfl] at H
        by_cases c16 : x6_1.length < 17592186044416
        ·rw [if_pos c16] at H
         have LMc16 := am_ c16
         clear c16
         obtain ⟨y428, hy428⟩ : ∃ y_ : List Int, y_ = (x6_1 ++ [x17_1]) := ⟨_, rfl⟩
         replace H : (impl_Enabled.l0 k1 l1 y428 l0_3 (l0_3.length : Int) (wrap64 (x17_1 + 1)) a0_0 a0_1 l0_2 l0_3) = some (r1, r2) := by first | (rw [hy428]; with_reducible exact H) | (have H2_ := (Option.bind_some _ _).symm.trans H; rw [hy428]; with_reducible exact H2_) | (have H2_ := (Option.bind_some _ _).symm.trans H; with_reducible exact H2_) | with_reducible exact H | (rw [hy428]; exact H) | exact H
         have Ny428 := am_ hy428
         clear hy428
         have H' := am_ H
         clear H
         have p425 : 0 ≤ (x17_1 : Int) := Sh.od
         have q425 : x17_1 < (l0_3.length : Int) := Sh.od
         obtain ⟨ad425, A425_0, c425_0, A425_1, c425_1, e425, hx425_0, hx425_1, hl425_0, hi425_0, hl425_1, hi425_1⟩ := at_T71 HR0_3.out x17_1 p425 q425
         cases e425
         (try replace hx425_0 := (HB.out.cell (World.block_lt_of_cell? w _ hx425_0)).trans hx425_0)
         (try replace hx425_1 := (HB.out.cell (World.block_lt_of_cell? w _ hx425_1)).trans hx425_1)
         have HR425_0 := am_ hi425_0
         have HC425_0 := am_ hl425_0
         clear hi425_0 hl425_0
         have HR425_1 := am_ hi425_1
         have HC425_1 := am_ hl425_1
         clear hi425_1 hl425_1
         replace p425 := eq_true p425
         replace q425 := eq_true q425
         go_wp2_with (first | ((with_reducible refine gate_dst (N := 8) rfl ?_); refine Sh.bx (N := 8) (cs := #[.slice none 0 0, .slice none 0 0]) (t := 71) (h := ?_); intro gb426 hg w17 hbox hb; replace HO_6 := am_ (Kd.R_below (by (with_reducible repeat (first | apply Kd.R_alloc | apply Kd.R_drewN | apply Kd.R_drew)); exact HO_6.out) hb); have BK426 := am_ hbox; have GW426 := am_ (Sh.gw (w := w) hg); have GE426 := am_ (Sh.gw (w := w) hg); replace HB := am_ (below_step Sh.bw hb); have NB420_426 := am_ (Sh.nl hg BK420.out); have NB426_420 := am_ (Sh.ng hg BK420.out); replace BK420 := am_ (Sh.bb BK420.out hb); clear hb hbox hg; have hnb18 := NB426_420.out; have hnc18 := NB420_426.out; obtain ⟨hcz19_0, hcz19_1, hfz19_0, hfz19_1⟩ := Sh.b2 BK426.out; obtain ⟨hcz20_0, hcz20_1, hcz20_2, hcz20_3, hfz20_0, hfz20_1, hfz20_2, hfz20_3⟩ := Sh.b4 BK420.out) | ((with_reducible refine gate_callee (f := 38) rfl ?_); refine Sh.gL (some 26) Try.func38 #[.agg #[.int .i64 a0_0, .int .i64 a0_1, .slice A0_2 l0_2.length c0_2, .slice (some ad425) l0_3.length c0_3], .slice A425_0 ((rd_T71 l0_3 x17_1).f0).length c425_0, .slice A1 l1.length c1] (h := ?_); (with_reducible refine (impl_Program_holds.calls k1 a0_0 a0_1 _ _ l0_2 _ _ l0_3 _ _ ((rd_T71 l0_3 x17_1).f0) _ _ l1 true _ (Sh.cB HR0_2.out) HC0_2.out (Sh.cB HR0_3.out) HC0_3.out (Sh.cB HR425_0.out) HC425_0.out (Sh.cB HR1.out) HC1.out A14.out).mono ?_); rintro e w21 ⟨rfl, hb⟩; refine ⟨_, rfl, ?_⟩; have n0_ := am_ (Kd.R_below (by (with_reducible repeat (first | apply Kd.R_alloc | apply Kd.R_drewN | apply Kd.R_drew)); exact (Kd.R_mono (Kd.R_far (p := ⟨gb426, 1, none⟩) (Kd.R_far (p := ⟨gb426, 0, none⟩) (Kd.R_types HO_6.out BK426.out (by decide)) (fun _ hk => hk.2) (.slice A425_0 ((rd_T71 l0_3 x17_1).f0).length c425_0)) (fun _ hk => hk.2) (.slice A425_1 ((rd_T71 l0_3 x17_1).f1).length c425_1)) (fun _ h_ => h_.1))) hb); have n1_ := am_ (blk_below (g := gb420) (o := .cells #[.int .i64 a0_0, .int .i64 a0_1, .slice A0_2 l0_2.length c0_2, .slice (some ad425) l0_3.length c0_3] 33 (0, 0)) (by (with_reducible repeat (first | refine blk_drewN ?_ _ | refine blk_drew ?_ | refine blk_alloc ?_ _)); refine blk_far ?_ NB420_426.out _; (with_reducible repeat (first | refine blk_drewN ?_ _ | refine blk_drew ?_ | refine blk_alloc ?_ _)); refine blk_far ?_ NB420_426.out _; (with_reducible repeat (first | refine blk_drewN ?_ _ | refine blk_drew ?_ | refine blk_alloc ?_ _)); exact BK420.out) hb); have n2_ := am_ (blk_below (g := gb426) (o := .cells #[.slice A425_0 ((rd_T71 l0_3 x17_1).f0).length c425_0, .slice A425_1 ((rd_T71 l0_3 x17_1).f1).length c425_1] 71 (0, 0)) (by (with_reducible repeat (first | refine blk_drewN ?_ _ | refine blk_drew ?_ | refine blk_alloc ?_ _)); refine blk_put (cs := #[.slice A425_0 ((rd_T71 l0_3 x17_1).f0).length c425_0, .slice none 0 0]) ?_ 1 _ rfl; (with_reducible repeat (first | refine blk_drewN ?_ _ | refine blk_drew ?_ | refine blk_alloc ?_ _)); refine blk_put (cs := #[.slice none 0 0, .slice none 0 0]) ?_ 0 _ rfl; (with_reducible repeat (first | refine blk_drewN ?_ _ | refine blk_drew ?_ | refine blk_alloc ?_ _)); exact BK426.out) hb); have n3_ := am_ (below_step Sh.bw hb); clear HO_6; clear BK420; clear BK426; clear HB; have HO_6 := n0_; have BK420 := n1_; have BK426 := n2_; have HB := n3_; clear n0_ n1_ n2_ n3_; (try clear hb); (try clear hb2); (try clear hk); (try clear hi)) | ((with_reducible refine gate_builtin (b := .append) (xs := #[.tmp 27, .tmp 29]) rfl ?_); at_builtin; refine Kd.R_append (Kd.int .i64) (w0 := w) w.heap.size rfl (.tmp 27) (.tmp 29) 39 3 (.int .i64 0) 8 rfl Try.underlying39 info3 rfl (by decide) (by omega) u6 x6_1 x17_1 [.int .i64 x17_1] (fun _ => True) (fun _ => False) rfl rfl ?aP (fun _ hk => hk.elim) ?aF ?aO ?aB ?aS ?aL ?_; (case aP => exact rfl); (case aB => exact Sh.bw); (case aF => exact (fun _ _ => trivial)); (case aO => exact (by (with_reducible repeat (first | apply Kd.R_alloc | apply Kd.R_drewN | apply Kd.R_drew)); exact HO_6.out)); (case aS => exact (below_size Sh.bw)); (case aL => have := LMc16.out; omega); intro v429 w22 ho hb hg hat; rw [← Ny428.out] at ho; have n0_ := am_ (blk_grown (g := gb420) (o := .cells #[.int .i64 a0_0, .int .i64 a0_1, .slice A0_2 l0_2.length c0_2, .slice (some ad425) l0_3.length c0_3] 33 (0, 0)) (by (with_reducible repeat (first | refine blk_drewN ?_ _ | refine blk_drew ?_ | refine blk_alloc ?_ _)); exact BK420.out) hg (Kd.R_ne HO_6.out BK420.out (by decide))); have n1_ := am_ (blk_grown (g := gb426) (o := .cells #[.slice A425_0 ((rd_T71 l0_3 x17_1).f0).length c425_0, .slice A425_1 ((rd_T71 l0_3 x17_1).f1).length c425_1] 71 (0, 0)) (by (with_reducible repeat (first | refine blk_drewN ?_ _ | refine blk_drew ?_ | refine blk_alloc ?_ _)); exact BK426.out) hg (Kd.R_ne HO_6.out BK426.out (by decide))); have n2_ := am_ hb; have n3_ := am_ ho; clear BK420; clear BK426; clear HB; clear HO_6; have BK420 := n0_; have BK426 := n1_; have HB := n2_; have HO430 := n3_; clear n0_ n1_ n2_ n3_; clear ho hb hg hat))
         go_roundg k1
         case measure => have := HK1.out; omega
         case rel => exact ⟨(y428), (wrap64 (x17_1 + 1)), (Sh.es), H', ⟨by have := HK1.out; omega⟩, ⟨by (with_reducible repeat (first | apply Kd.R_alloc | apply Kd.R_drewN | apply Kd.R_drew)); exact HO430.out⟩, ⟨by (with_reducible repeat (first | refine blk_drewN ?_ _ | refine blk_drew ?_ | refine blk_alloc ?_ _)); exact BK420.out⟩, ⟨Sh.bw⟩⟩
        ·rw [if_neg c16] at H
         exact absurd H (by simp)
       ·replace c15 := Bool.eq_false_iff.mpr c15
        subst c15
        rw [Sh.nf] at H
        have H' := am_ H
        clear H
        have p425 : 0 ≤ (x17_1 : Int) := Sh.od
        have q425 : x17_1 < (l0_3.length : Int) := Sh.od
        obtain ⟨ad425, A425_0, c425_0, A425_1, c425_1, e425, hx425_0, hx425_1, hl425_0, hi425_0, hl425_1, hi425_1⟩ := at_T71 HR0_3.out x17_1 p425 q425
        cases e425
        (try replace hx425_0 := (HB.out.cell (World.block_lt_of_cell? w _ hx425_0)).trans hx425_0)
        (try replace hx425_1 := (HB.out.cell (World.block_lt_of_cell? w _ hx425_1)).trans hx425_1)
        have HR425_0 := am_ hi425_0
        have HC425_0 := am_ hl425_0
        clear hi425_0 hl425_0
        have HR425_1 := am_ hi425_1
        have HC425_1 := am_ hl425_1
        clear hi425_1 hl425_1
        replace p425 := eq_true p425
        replace q425 := eq_true q425
        go_wp2_with (first | ((with_reducible refine gate_dst (N := 8) rfl ?_); refine Sh.bx (N := 8) (cs := #[.slice none 0 0, .slice none 0 0]) (t := 71) (h := ?_); intro gb426 hg w23 hbox hb; replace HO_6 := am_ (Kd.R_below (by (with_reducible repeat (first | apply Kd.R_alloc | apply Kd.R_drewN | apply Kd.R_drew)); exact HO_6.out) hb); have BK426 := am_ hbox; have GW426 := am_ (Sh.gw (w := w) hg); have GE426 := am_ (Sh.gw (w := w) hg); replace HB := am_ (below_step Sh.bw hb); have NB420_426 := am_ (Sh.nl hg BK420.out); have NB426_420 := am_ (Sh.ng hg BK420.out); replace BK420 := am_ (Sh.bb BK420.out hb); clear hb hbox hg; have hnb24 := NB426_420.out; have hnc24 := NB420_426.out; obtain ⟨hcz25_0, hcz25_1, hfz25_0, hfz25_1⟩ := Sh.b2 BK426.out; obtain ⟨hcz26_0, hcz26_1, hcz26_2, hcz26_3, hfz26_0, hfz26_1, hfz26_2, hfz26_3⟩ := Sh.b4 BK420.out) | ((with_reducible refine gate_callee (f := 38) rfl ?_); refine Sh.gL (some 26) Try.func38 #[.agg #[.int .i64 a0_0, .int .i64 a0_1, .slice A0_2 l0_2.length c0_2, .slice (some ad425) l0_3.length c0_3], .slice A425_0 ((rd_T71 l0_3 x17_1).f0).length c425_0, .slice A1 l1.length c1] (h := ?_); (with_reducible refine (impl_Program_holds.calls k1 a0_0 a0_1 _ _ l0_2 _ _ l0_3 _ _ ((rd_T71 l0_3 x17_1).f0) _ _ l1 false _ (Sh.cB HR0_2.out) HC0_2.out (Sh.cB HR0_3.out) HC0_3.out (Sh.cB HR425_0.out) HC425_0.out (Sh.cB HR1.out) HC1.out A14.out).mono ?_); rintro e w27 ⟨rfl, hb⟩; refine ⟨_, rfl, ?_⟩; have n0_ := am_ (Kd.R_below (by (with_reducible repeat (first | apply Kd.R_alloc | apply Kd.R_drewN | apply Kd.R_drew)); exact (Kd.R_mono (Kd.R_far (p := ⟨gb426, 1, none⟩) (Kd.R_far (p := ⟨gb426, 0, none⟩) (Kd.R_types HO_6.out BK426.out (by decide)) (fun _ hk => hk.2) (.slice A425_0 ((rd_T71 l0_3 x17_1).f0).length c425_0)) (fun _ hk => hk.2) (.slice A425_1 ((rd_T71 l0_3 x17_1).f1).length c425_1)) (fun _ h_ => h_.1))) hb); have n1_ := am_ (blk_below (g := gb420) (o := .cells #[.int .i64 a0_0, .int .i64 a0_1, .slice A0_2 l0_2.length c0_2, .slice (some ad425) l0_3.length c0_3] 33 (0, 0)) (by (with_reducible repeat (first | refine blk_drewN ?_ _ | refine blk_drew ?_ | refine blk_alloc ?_ _)); refine blk_far ?_ NB420_426.out _; (with_reducible repeat (first | refine blk_drewN ?_ _ | refine blk_drew ?_ | refine blk_alloc ?_ _)); refine blk_far ?_ NB420_426.out _; (with_reducible repeat (first | refine blk_drewN ?_ _ | refine blk_drew ?_ | refine blk_alloc ?_ _)); exact BK420.out) hb); have n2_ := am_ (blk_below (g := gb426) (o := .cells #[.slice A425_0 ((rd_T71 l0_3 x17_1).f0).length c425_0, .slice A425_1 ((rd_T71 l0_3 x17_1).f1).length c425_1] 71 (0, 0)) (by (with_reducible repeat (first | refine blk_drewN ?_ _ | refine blk_drew ?_ | refine blk_alloc ?_ _)); refine blk_put (cs := #[.slice A425_0 ((rd_T71 l0_3 x17_1).f0).length c425_0, .slice none 0 0]) ?_ 1 _ rfl; (with_reducible repeat (first | refine blk_drewN ?_ _ | refine blk_drew ?_ | refine blk_alloc ?_ _)); refine blk_put (cs := #[.slice none 0 0, .slice none 0 0]) ?_ 0 _ rfl; (with_reducible repeat (first | refine blk_drewN ?_ _ | refine blk_drew ?_ | refine blk_alloc ?_ _)); exact BK426.out) hb); have n3_ := am_ (below_step Sh.bw hb); clear HO_6; clear BK420; clear BK426; clear HB; have HO_6 := n0_; have BK420 := n1_; have BK426 := n2_; have HB := n3_; clear n0_ n1_ n2_ n3_; (try clear hb); (try clear hb2); (try clear hk); (try clear hi)))
        go_roundg k1
        case measure => have := HK1.out; omega
        case rel => exact ⟨(x6_1), (wrap64 (x17_1 + 1)), (Sh.es), H', ⟨by have := HK1.out; omega⟩, ⟨by (with_reducible repeat (first | apply Kd.R_alloc | apply Kd.R_drewN | apply Kd.R_drew)); exact HO_6.out⟩, ⟨by (with_reducible repeat (first | refine blk_drewN ?_ _ | refine blk_drew ?_ | refine blk_alloc ?_ _)); exact BK420.out⟩, ⟨Sh.bw⟩⟩
      ·rw [if_neg c13] at H
       exact absurd H (by simp)
     ·rw [if_neg c12] at H
      exact absurd H (by simp)
    ·rw [if_neg c11] at H
     have c11b0 : decide (x17_1 < (l0_3.length : Int)) = false := decide_eq_false c11
     clear c11
     simp only [Option.some.injEq, Prod.mk.injEq] at H
     obtain ⟨rfl, rfl⟩ := H
     go_wp2
     go_ret2
     exact ⟨_, Sh.eR, by (with_reducible repeat (first | apply Kd.R_alloc | apply Kd.R_drewN | apply Kd.R_drew)); exact HO_6.out, Sh.bw⟩
 ·replace c4 := Bool.eq_false_iff.mpr c4
  subst c4
  rw [Sh.nf] at H
  simp only [Option.some.injEq, Prod.mk.injEq] at H
  obtain ⟨rfl, rfl⟩ := H
  go_enter Try.func22, Try.ntmps22
  go_wp2_with (first | ((with_reducible refine gate_dst (N := 2) rfl ?_); refine Sh.bx (N := 2) (cs := #[.int .i64 a0_0, .int .i64 a0_1, .slice A0_2 l0_2.length c0_2, .slice A0_3 l0_3.length c0_3]) (t := 33) (h := ?_); intro gb420 hg w28 hbox hb; have BK420 := am_ hbox; have GW420 := am_ (Sh.gw (w := w) hg); have GE420 := am_ (Sh.gw (w := w) hg); replace HB := am_ (below_step Sh.bw hb); clear hb hbox hg; obtain ⟨hcz29_0, hcz29_1, hcz29_2, hcz29_3, hfz29_0, hfz29_1, hfz29_2, hfz29_3⟩ := Sh.b4 BK420.out) | ((with_reducible refine gate_callee (f := 37) rfl ?_); refine Sh.gL (some 11) Try.func37 #[.agg #[.int .i64 a0_0, .int .i64 a0_1, .slice A0_2 l0_2.length c0_2, .slice A0_3 l0_3.length c0_3], .slice A1 l1.length c1] (h := ?_); (with_reducible refine (impl_isStateOf.calls k a0_0 a0_1 _ _ l0_2 _ _ l0_3 _ _ l1 false _ (Sh.cB HR0_2.out) HC0_2.out (Sh.cB HR0_3.out) HC0_3.out (Sh.cB HR1.out) HC1.out A3.out).mono ?_); rintro e w30 ⟨rfl, hb⟩; refine ⟨_, rfl, ?_⟩; replace BK420 := am_ (Sh.bb BK420.out hb); replace HB := am_ (below_step Sh.bw hb); (try clear hb); (try clear hb2); (try clear hk); (try clear hi)))
  go_ret2
  exact ⟨_, Sh.eR, by first | exact Kd.R_nil _ _ _ _ _ | exact Kd.N_nil _ _ _ _ _ | exact Kd.V_nil _ _ _ _ _ | exact Kd.Q_nil _ _ _ _ _ | exact Kd.S_nil _ _ _ _ _, Sh.bw⟩
def laws_markUint64S.l0 : Nat → List Int → Int → Int → Option (Int × List Int)
 | 0, _, _, _ => none
 | k + 1, x0, x1, x5 => if x5 < (x0.length : Int) then (if 0 ≤ x5 then (laws_markUint64S.l0 k (x0.set (x5 : Int).toNat (IntKind.u64.wrap (x1))) (wrap64 (x1 + 1)) (wrap64 (x5 + 1))) else (none)) else (some (x1, x0))
def laws_markUint64S.f (k : Nat) (l0 : List Int) (a1 : Int) : Option (Int × List Int) := laws_markUint64S.l0 k l0 a1 0
theorem laws_markUint64S.mono_l : ∀ k, (∀ y0 y1 y2, LeO (laws_markUint64S.l0 k y0 y1 y2) (laws_markUint64S.l0 (k + 1) y0 y1 y2))
 | 0 => fun _ _ _ r h => by simp [laws_markUint64S.l0] at h
 | k + 1 => by
  have ih0 := laws_markUint64S.mono_l k
  ·intro y0 y1 y2
   unfold laws_markUint64S.l0
   repeat' with_reducible first | apply ih0 | exact LeO.refl _ | exact LeO.none _ | apply LeO.ite | refine LeO.bind ?_ fun _ => ?_
theorem laws_markUint64S.mono : ∀ a0 a1 k, LeO (laws_markUint64S.f k a0 a1) (laws_markUint64S.f (k + 1) a0 a1) := by
 intro a0 a1 k
 have ih0 := laws_markUint64S.mono_l k
 unfold laws_markUint64S.f
 repeat' with_reducible first | apply ih0 | exact LeO.refl _ | exact LeO.none _ | apply LeO.ite | refine LeO.bind ?_ fun _ => ?_
set_option maxHeartbeats 8000000 in
set_option maxRecDepth 100000 in
theorem laws_markUint64S.calls (k : Nat) (P0_ : Nat → Prop) (u9000_ : Value) (l0 : List Int) (a1 : Int) (r1 : Int) (r2 : List Int) (w0 w : World) (hB : Below w0.heap.size w0 w) (ho0 : Kd.R (Kd.int .u64) 61 w w0.heap.size P0_ u9000_ l0) (h : laws_markUint64S.f k l0 a1 = some (r1, r2)) :
  Calls Try.prog 23 #[u9000_, .int .i64 a1] w fun e w' => e = .returned (.int .i64 r1) ∧ Kd.R (Kd.int .u64) 61 w' w0.heap.size (fun k_ => (P0_ k_ ∨ w.heap.size ≤ k_)) u9000_ r2 ∧ Below w0.heap.size w0 w' ∧ Kept w w' (fun k_ => P0_ k_) := by
 have HO0 := am_ (show Kd.R (Kd.int .u64) 61 w w0.heap.size (fun k_ => (P0_ k_ ∨ w.heap.size ≤ k_)) u9000_ l0 from Kd.R_mono ho0 (fun k_ hk => (.inl hk)))
 have HK := am_ (Kept.refl w (fun k_ => P0_ k_))
 have HW0 := am_ hB.size
 have HB := am_ hB
 clear hB
 have H := h
 clear h
 unfold laws_markUint64S.f at H
 have H' := am_ H
 clear H
 go_enter Try.func23, Try.ntmps23
 go_wp2
 go_loopg [1, 5] k (fun kq v1 v5 w' => ∃ (x0_1 : List Int) (x1_1 : Int) (x5_1 : Int), v1 = .int .i64 x1_1 ∧ v5 = .int .i64 x5_1 ∧ Aside0 (laws_markUint64S.l0 kq x0_1 x1_1 x5_1 = some (r1, r2)) ∧ Aside0 (kq ≤ k) ∧ Aside0 (Kd.R (Kd.int .u64) 61 w' w0.heap.size (fun k_ => (P0_ k_ ∨ w.heap.size ≤ k_)) u9000_ x0_1) ∧ Aside0 (Kept w w' (fun k_ => P0_ k_)) ∧ Aside0 (Below w0.heap.size w0 w'))
 case atStart => exact ⟨(l0), (a1), (0), (Sh.es), (Sh.es), H', ⟨Nat.le_refl _⟩, ⟨by (with_reducible repeat (first | apply Kd.R_alloc | apply Kd.R_drewN | apply Kd.R_drew)); exact HO0.out⟩, ⟨by repeat (first | (with_reducible first | exact HK.out | apply Kept.alloc | apply Kept.drewN | apply Kept.drew) | exact HK.out)⟩, ⟨Sh.bw⟩⟩
 case round =>
  clear H'
  try clear c2
  try clear p2
  obtain ⟨x0_1, x1_1, x5_1, rfl, rfl, HA, HK1, HO_0, HK, HB⟩ := hrel
  cases gk with
  | zero => exact absurd HA.out (by simp [laws_markUint64S.l0])
  | succ k1 =>
   have H := HA.out
   clear HA
   simp only [laws_markUint64S.l0] at H
   by_cases c3 : x5_1 < (x0_1.length : Int)
   ·rw [if_pos c3] at H
    have c3b0 : decide (x5_1 < (x0_1.length : Int)) = true := decide_eq_true c3
    clear c3
    by_cases c4 : 0 ≤ x5_1
    ·rw [if_pos c4] at H
     have c4b0 : decide (0 ≤ x5_1) = true := decide_eq_true c4
     clear c4
     obtain ⟨y431, hy431⟩ : ∃ y_ : List Int, y_ = (x0_1.set (x5_1 : Int).toNat (IntKind.u64.wrap (x1_1))) := ⟨_, rfl⟩
     replace H : (laws_markUint64S.l0 k1 y431 (wrap64 (x1_1 + 1)) (wrap64 (x5_1 + 1))) = some (r1, r2) := by first | (rw [hy431]; with_reducible exact H) | (have H2_ := (Option.bind_some _ _).symm.trans H; rw [hy431]; with_reducible exact H2_) | (have H2_ := (Option.bind_some _ _).symm.trans H; with_reducible exact H2_) | with_reducible exact H | (rw [hy431]; exact H) | exact H
     have Ny431 := am_ hy431
     clear hy431
     have H' := am_ H
     clear H
     obtain ⟨Ao6, co6, eo6⟩ := Kd.R_slice HO_0.out
     subst eo6
     have p5 : 0 ≤ (x5_1 : Int) := Sh.od
     have q5 : (x5_1 : Int) < ((x0_1.length : Int) : Int) := Sh.od
     obtain ⟨go5, co5, eo5, gb5, gl5, cl5, HG5⟩ := Kd.R_form HO_0.out (by omega)
     (first | cases eo5 | (injection eo5 with ea_ en_ ec_; (first | subst ea_ | (injection ea_ with ea_; subst ea_)); subst ec_; clear en_))
     have GB5 := am_ gb5
     have GG5 := am_ HG5
     clear gb5 gl5 HG5
     have HMgo5 := am_ (show (P0_ go5 ∨ w.heap.size ≤ go5) from (HO_0.out.1 _ rfl))
     obtain ⟨hx5_0, hf5_0⟩ := Kd.R_celln 0 HO_0.out (x5_1 : Int) p5 q5
     replace p5 := eq_true p5
     replace q5 := eq_true q5
     have HP7 := Kd.R_putg HO_0.out (x5_1 : Int) (IntKind.u64.wrap (x1_1))
     go_wp2_with (first | ((with_reducible refine gate_store (t := 61) (p := 16) rfl ?_); refine store_event (t := 61) (p := 16) (v := ?vo_w8) (w1 := (wr.setCell ⟨go5, (x5_1 : Int).toNat, none⟩ (.int .u64 (IntKind.u64.wrap (x1_1))))) ?hg ?ho ?hn ?hr ?_; (case ho => rfl); (case hg => rfl); (case hn => rfl); (case hr => first | (go_simp; done) | (go_simp; rfl)); intro w8 hw; have hg : wr.grownBy w8 (some go5) := (by rw [hw]; exact HP7.2); have hp_ : Kd.R (Kd.int .u64) 61 w8 w0.heap.size (fun k_ => (P0_ k_ ∨ w.heap.size ≤ k_)) (.slice (some ⟨go5, 0, none⟩) x0_1.length co6) y431 := (by rw [hw, Ny431.out]; exact HP7.1); clear HP7; replace HB := am_ ((by rw [hw]; exact below_set (HB.out) GB5.out : Below w0.heap.size w0 w8)); replace HK := am_ (Kept.of_grown (S := (fun k_ => P0_ k_)) hg (by repeat (first | (with_reducible first | exact HK.out | apply Kept.alloc | apply Kept.drewN | apply Kept.drew) | exact HK.out)) (fun k_ e_ => (HO_0.out.1 k_ e_))); replace HO_0 := am_ hp_; clear hg hw hp_))
     go_roundg k1
     case measure => have := HK1.out; omega
     case rel => exact ⟨(y431), (wrap64 (x1_1 + 1)), (wrap64 (x5_1 + 1)), (Sh.es), (Sh.es), H', ⟨by have := HK1.out; omega⟩, ⟨by (with_reducible repeat (first | apply Kd.R_alloc | apply Kd.R_drewN | apply Kd.R_drew)); exact HO_0.out⟩, ⟨by repeat (first | (with_reducible first | exact HK.out | apply Kept.alloc | apply Kept.drewN | apply Kept.drew) | exact HK.out)⟩, ⟨Sh.bw⟩⟩
    ·rw [if_neg c4] at H
     exact absurd H (by simp)
   ·rw [if_neg c3] at H
    have c3b0 : decide (x5_1 < (x0_1.length : Int)) = false := decide_eq_false c3
    clear c3
    simp only [Option.some.injEq, Prod.mk.injEq] at H
    obtain ⟨rfl, rfl⟩ := H
    obtain ⟨Ao9, co9, eo9⟩ := Kd.R_slice HO_0.out
    subst eo9
    go_wp2
    go_ret
    exact ⟨Sh.eR, by (with_reducible repeat (first | apply Kd.R_alloc | apply Kd.R_drewN | apply Kd.R_drew)); exact HO_0.out, Sh.bw, by repeat (first | (with_reducible first | exact HK.out | apply Kept.alloc | apply Kept.drewN | apply Kept.drew) | exact HK.out)⟩
open Go.Proofs.Ytjnolbjaagmooaa.Lw
def laws_FnExactEnabled.Holds (k : Nat) (a0_0 : Int) (a0_1 : Int) (l0_2 : List (S82)) (l0_3 : List (S89)) (l1 : List Int) : Prop :=
 (1048576 < (l1.length : Int)) ∨ (¬ (1048576 < (l1.length : Int))) ∧ (∃ s6 : Int, laws_szProgram.f k a0_0 a0_1 l0_2 l0_3 1048576 = some s6 ∧ ((s6 < 0) ∨ (¬ (s6 < 0)) ∧ (∃ (y9 : List (S80)) (y10 : List (S71)) (y33 : List Int) (y34 : Bool) (m109 : Int) (m111 : Int) (y112 : List Int) (m115 : Int) (y116 : List Int), laws_toProgram.f k a0_0 a0_1 l0_2 l0_3 = some (a0_0, a0_1, y9, y10) ∧ laws_toUint64S.f k l1 = some l1 ∧ spec_Enabled.f k a0_0 a0_1 y9 y10 l1 = some (y33, y34) ∧ impl_Enabled.f k a0_0 a0_1 y9 y10 l1 = some (y33, y34) ∧ laws_eqIntS.f k y33 y33 = some true ∧ laws_eqProgram.f k a0_0 a0_1 y9 y10 a0_0 a0_1 y9 y10 = some true ∧ laws_eqUint64S.f k l1 l1 = some true ∧ laws_markProgram.f k a0_0 a0_1 y9 y10 1 = some m109 ∧ laws_markUint64S.f k l1 m109 = some (m111, y112) ∧ laws_markIntS.f k y33 1 = some (m115, y116) ∧ laws_heldIntS.f k y116 1 = some m115 ∧ ¬ m111 < 0 ∧ ¬ m115 < 0)))
set_option maxHeartbeats 40000000 in
set_option maxRecDepth 100000 in
theorem laws_FnExactEnabled.calls (k : Nat) (a0_0 : Int) (a0_1 : Int) (A0_2 : Option Addr) (c0_2 : Nat) (l0_2 : List (S82)) (A0_3 : Option Addr) (c0_3 : Nat) (l0_3 : List (S89)) (A1 : Option Addr) (c1 : Nat) (l1 : List Int) (w : World) (hr0_2 : Kd.C k82 w A0_2 l0_2.length l0_2) (hc0_2 : l0_2.length ≤ c0_2) (hr0_3 : Kd.C k89 w A0_3 l0_3.length l0_3) (hc0_3 : l0_3.length ≤ c0_3) (hr1 : Kd.C (Kd.int .u64) w A1 l1.length l1) (hc1 : l1.length ≤ c1) (h : laws_FnExactEnabled.Holds k a0_0 a0_1 l0_2 l0_3 l1) :
  Calls Try.prog 5 #[.agg #[.int .i64 a0_0, .int .i64 a0_1, .slice A0_2 l0_2.length c0_2, .slice A0_3 l0_3.length c0_3], .slice A1 l1.length c1] w fun e w' => e = .returned (.bool true) ∧ Below w.heap.size w w' := by
 have hu25 := Try.underlying25
 have hu33 := Try.underlying33
 have HR0_2 := am_ hr0_2
 have HC0_2 := am_ hc0_2
 clear hr0_2 hc0_2
 have HR0_3 := am_ hr0_3
 have HC0_3 := am_ hc0_3
 clear hr0_3 hc0_3
 have HR1 := am_ hr1
 have HC1 := am_ hc1
 clear hr1 hc1
 have HB := am_ (Below.refl w.heap.size w)
 have NW : 0 ≤ w.heap.size := Nat.zero_le _
 rcases h with c | ⟨c, h⟩
 ·have cb : decide (1048576 < (l1.length : Int)) = true := decide_eq_true c
  clear c
  go_enter Try.func5, Try.ntmps5
  go_wp2_with (first | ((with_reducible refine gate_dst (N := 2) rfl ?_); refine Sh.bx (N := 2) (cs := #[.int .i64 a0_0, .int .i64 a0_1, .slice A0_2 l0_2.length c0_2, .slice A0_3 l0_3.length c0_3]) (t := 25) (h := ?_); intro g1 hg w3 hbox hb; have BK2 := box_new (w := w) (W := w) HB.out hg hbox; have oa4 := new_g (W := w) hg NW; replace HB := am_ (below_step HB.out hb); replace NW := Nat.le_trans NW hb.size; replace NW := BK2.lt; clear hb hbox hg; have hczq5_0 : w3.cell? ⟨g1, 0, none⟩ = some (.int .i64 a0_0) := (blk_cell BK2.b 0).trans rfl; have hfzq5_0 := blk_frozen BK2.b 0; have hczq5_1 : w3.cell? ⟨g1, 1, none⟩ = some (.int .i64 a0_1) := (blk_cell BK2.b 1).trans rfl; have hfzq5_1 := blk_frozen BK2.b 1; have hczq5_2 : w3.cell? ⟨g1, 2, none⟩ = some (.slice A0_2 l0_2.length c0_2) := (blk_cell BK2.b 2).trans rfl; have hfzq5_2 := blk_frozen BK2.b 2; have hczq5_3 : w3.cell? ⟨g1, 3, none⟩ = some (.slice A0_3 l0_3.length c0_3) := (blk_cell BK2.b 3).trans rfl; have hfzq5_3 := blk_frozen BK2.b 3))
  go_ret
  exact ⟨rfl, HB.out⟩
 have cb0 : decide (1048576 < (l1.length : Int)) = false := decide_eq_false c
 clear c
 obtain ⟨s6, ESs6, h⟩ := h
 replace ESs6 := am_ ESs6
 rcases h with c | ⟨c, h⟩
 ·have cb : decide (s6 < 0) = true := decide_eq_true c
  clear c
  go_enter Try.func5, Try.ntmps5
  go_wp2_with (first | ((with_reducible refine gate_dst (N := 2) rfl ?_); refine Sh.bx (N := 2) (cs := #[.int .i64 a0_0, .int .i64 a0_1, .slice A0_2 l0_2.length c0_2, .slice A0_3 l0_3.length c0_3]) (t := 25) (h := ?_); intro g1 hg w3 hbox hb; have BK2 := box_new (w := w) (W := w) HB.out hg hbox; have oa4 := new_g (W := w) hg NW; replace HB := am_ (below_step HB.out hb); replace NW := Nat.le_trans NW hb.size; replace NW := BK2.lt; clear hb hbox hg; have hczq5_0 : w3.cell? ⟨g1, 0, none⟩ = some (.int .i64 a0_0) := (blk_cell BK2.b 0).trans rfl; have hfzq5_0 := blk_frozen BK2.b 0; have hczq5_1 : w3.cell? ⟨g1, 1, none⟩ = some (.int .i64 a0_1) := (blk_cell BK2.b 1).trans rfl; have hfzq5_1 := blk_frozen BK2.b 1; have hczq5_2 : w3.cell? ⟨g1, 2, none⟩ = some (.slice A0_2 l0_2.length c0_2) := (blk_cell BK2.b 2).trans rfl; have hfzq5_2 := blk_frozen BK2.b 2; have hczq5_3 : w3.cell? ⟨g1, 3, none⟩ = some (.slice A0_3 l0_3.length c0_3) := (blk_cell BK2.b 3).trans rfl; have hfzq5_3 := blk_frozen BK2.b 3) | ((with_reducible refine gate_callee (f := 8) rfl ?_); refine Sh.gL (some 22) Try.func8 #[.agg #[.int .i64 a0_0, .int .i64 a0_1, .slice A0_2 l0_2.length c0_2, .slice A0_3 l0_3.length c0_3], .int .i64 1048576] (h := ?_); (with_reducible refine (laws_szProgram.calls k a0_0 a0_1 _ _ l0_2 _ _ l0_3 1048576 s6 _ (Kd.C_below HR0_2.out HB.out) HC0_2.out (Kd.C_below HR0_3.out HB.out) HC0_3.out ESs6.out).mono ?_); rintro e w7 ⟨rfl, hb⟩; refine ⟨_, rfl, ?_⟩; replace BK2 := BK2.same hb; replace HB := am_ (below_step HB.out hb); replace NW := Nat.le_trans NW hb.size; clear hb; have hczq8_0 : w7.cell? ⟨g1, 0, none⟩ = some (.int .i64 a0_0) := (blk_cell BK2.b 0).trans rfl; have hfzq8_0 := blk_frozen BK2.b 0; have hczq8_1 : w7.cell? ⟨g1, 1, none⟩ = some (.int .i64 a0_1) := (blk_cell BK2.b 1).trans rfl; have hfzq8_1 := blk_frozen BK2.b 1; have hczq8_2 : w7.cell? ⟨g1, 2, none⟩ = some (.slice A0_2 l0_2.length c0_2) := (blk_cell BK2.b 2).trans rfl; have hfzq8_2 := blk_frozen BK2.b 2; have hczq8_3 : w7.cell? ⟨g1, 3, none⟩ = some (.slice A0_3 l0_3.length c0_3) := (blk_cell BK2.b 3).trans rfl; have hfzq8_3 := blk_frozen BK2.b 3))
  go_ret
  exact ⟨rfl, HB.out⟩
 have cb1 : decide (s6 < 0) = false := decide_eq_false c
 clear c
 obtain ⟨y9, y10, y33, y34, m109, m111, y112, m115, y116, E1, E2, E3, E4, E5, E6, E7, E8, E9, E10, E11, cd0, cd1⟩ := h
 replace E1 := am_ E1
 replace E2 := am_ E2
 replace E3 := am_ E3
 replace E4 := am_ E4
 replace E5 := am_ E5
 replace E6 := am_ E6
 replace E7 := am_ E7
 replace E8 := am_ E8
 replace E9 := am_ E9
 replace E10 := am_ E10
 replace E11 := am_ E11
 have ce0 : decide (m111 < 0) = false := decide_eq_false cd0
 clear cd0
 have ce1 : decide (m115 < 0) = false := decide_eq_false cd1
 clear cd1
 have cr0 : (y34 != y34) = false := bne_self_eq_false _
 go_enter Try.func5, Try.ntmps5
 go_upto_region 13 with (first | ((with_reducible refine gate_dst (N := 2) rfl ?_); refine Sh.bx (N := 2) (cs := #[.int .i64 a0_0, .int .i64 a0_1, .slice A0_2 l0_2.length c0_2, .slice A0_3 l0_3.length c0_3]) (t := 25) (h := ?_); intro g1 hg w3 hbox hb; have BK2 := box_new (w := w) (W := w) HB.out hg hbox; have oa4 := new_g (W := w) hg NW; replace HB := am_ (below_step HB.out hb); replace NW := Nat.le_trans NW hb.size; replace NW := BK2.lt; clear hb hbox hg; have hczq5_0 : w3.cell? ⟨g1, 0, none⟩ = some (.int .i64 a0_0) := (blk_cell BK2.b 0).trans rfl; have hfzq5_0 := blk_frozen BK2.b 0; have hczq5_1 : w3.cell? ⟨g1, 1, none⟩ = some (.int .i64 a0_1) := (blk_cell BK2.b 1).trans rfl; have hfzq5_1 := blk_frozen BK2.b 1; have hczq5_2 : w3.cell? ⟨g1, 2, none⟩ = some (.slice A0_2 l0_2.length c0_2) := (blk_cell BK2.b 2).trans rfl; have hfzq5_2 := blk_frozen BK2.b 2; have hczq5_3 : w3.cell? ⟨g1, 3, none⟩ = some (.slice A0_3 l0_3.length c0_3) := (blk_cell BK2.b 3).trans rfl; have hfzq5_3 := blk_frozen BK2.b 3) | ((with_reducible refine gate_callee (f := 8) rfl ?_); refine Sh.gL (some 22) Try.func8 #[.agg #[.int .i64 a0_0, .int .i64 a0_1, .slice A0_2 l0_2.length c0_2, .slice A0_3 l0_3.length c0_3], .int .i64 1048576] (h := ?_); (with_reducible refine (laws_szProgram.calls k a0_0 a0_1 _ _ l0_2 _ _ l0_3 1048576 s6 _ (Kd.C_below HR0_2.out HB.out) HC0_2.out (Kd.C_below HR0_3.out HB.out) HC0_3.out ESs6.out).mono ?_); rintro e w7 ⟨rfl, hb⟩; refine ⟨_, rfl, ?_⟩; replace BK2 := BK2.same hb; replace HB := am_ (below_step HB.out hb); replace NW := Nat.le_trans NW hb.size; clear hb; have hczq8_0 : w7.cell? ⟨g1, 0, none⟩ = some (.int .i64 a0_0) := (blk_cell BK2.b 0).trans rfl; have hfzq8_0 := blk_frozen BK2.b 0; have hczq8_1 : w7.cell? ⟨g1, 1, none⟩ = some (.int .i64 a0_1) := (blk_cell BK2.b 1).trans rfl; have hfzq8_1 := blk_frozen BK2.b 1; have hczq8_2 : w7.cell? ⟨g1, 2, none⟩ = some (.slice A0_2 l0_2.length c0_2) := (blk_cell BK2.b 2).trans rfl; have hfzq8_2 := blk_frozen BK2.b 2; have hczq8_3 : w7.cell? ⟨g1, 3, none⟩ = some (.slice A0_3 l0_3.length c0_3) := (blk_cell BK2.b 3).trans rfl; have hfzq8_3 := blk_frozen BK2.b 3) | ((with_reducible refine gate_callee (f := 10) rfl ?_); refine Sh.gL (some 27) Try.func10 #[.agg #[.int .i64 a0_0, .int .i64 a0_1, .slice A0_2 l0_2.length c0_2, .slice A0_3 l0_3.length c0_3]] (h := ?_); (with_reducible refine (laws_toProgram.calls k a0_0 a0_1 _ _ l0_2 _ _ l0_3 a0_0 a0_1 y9 y10 _ (Kd.C_below HR0_2.out HB.out) HC0_2.out (Kd.C_below HR0_3.out HB.out) HC0_3.out E1.out).mono ?_); rintro e w11 ⟨v2_, v3_, rfl, ho0, ho1, hb⟩; refine ⟨_, rfl, ?_⟩; obtain ⟨lo14, hi15, ⟨HO12, HO13⟩, oa16, ob17, NW2⟩ := new1 (F := fun lo_ hi_ => Held k80 80 w11 w.heap.size lo_ hi_ v2_ y9 ∧ Held k71 71 w11 w.heap.size lo_ hi_ v3_ y10) ⟨held_new ho0 hb HB.out, held_new ho1 hb HB.out⟩ hb NW; replace BK2 := BK2.same hb; replace HB := am_ (below_step HB.out hb); replace NW := Nat.le_trans NW hb.size; replace NW := NW2; skip; obtain ⟨A18, c19, e20⟩ := HO12.slice; subst e20; obtain ⟨A21, c22, e23⟩ := HO13.slice; subst e23; clear hb ho0 ho1) | ((with_reducible refine gate_callee (f := 11) rfl ?_); refine Sh.gL (some 29) Try.func11 #[.slice A1 l1.length c1] (h := ?_); (with_reducible refine (laws_toUint64S.calls k _ _ l1 l1 _ (Kd.C_below HR1.out HB.out) HC1.out E2.out).mono ?_); rintro e w24 ⟨v0_, rfl, ho0, hb⟩; refine ⟨_, rfl, ?_⟩; obtain ⟨lo26, hi27, HO25, oa28, ob29, NW2⟩ := new1 (F := fun lo_ hi_ => Held (Kd.int .u64) 61 w24 w.heap.size lo_ hi_ v0_ l1) (held_new ho0 hb HB.out) hb NW; replace BK2 := BK2.same hb; replace HO12 := HO12.same hb; replace HO13 := HO13.same hb; replace HB := am_ (below_step HB.out hb); replace NW := Nat.le_trans NW hb.size; replace NW := NW2; skip; obtain ⟨A30, c31, e32⟩ := HO25.slice; subst e32; clear hb ho0) | ((with_reducible refine gate_callee (f := 21) rfl ?_); refine Sh.gL (some 30) Try.func21 #[.agg #[.int .i64 a0_0, .int .i64 a0_1, .slice A18 y9.length c19, .slice A21 y10.length c22], .slice A30 l1.length c31] (h := ?_); (with_reducible refine (spec_Enabled.calls k a0_0 a0_1 _ _ y9 _ _ y10 _ _ l1 y33 y34 _ HO12.C HO12.c HO13.C HO13.c HO25.C HO25.c E3.out).mono ?_); rintro e w35 ⟨v0_, rfl, ho0, hb⟩; refine ⟨_, rfl, ?_⟩; obtain ⟨lo37, hi38, HO36, oa39, ob40, NW2⟩ := new1 (F := fun lo_ hi_ => Held (Kd.int .i64) 3 w35 w.heap.size lo_ hi_ v0_ y33) (held_new ho0 hb HB.out) hb NW; replace BK2 := BK2.same hb; replace HO12 := HO12.same hb; replace HO13 := HO13.same hb; replace HO25 := HO25.same hb; replace HB := am_ (below_step HB.out hb); replace NW := Nat.le_trans NW hb.size; replace NW := NW2; skip; obtain ⟨A41, c42, e43⟩ := HO36.slice; subst e43; clear hb ho0; have hczq44_0 : w35.cell? ⟨g1, 0, none⟩ = some (.int .i64 a0_0) := (blk_cell BK2.b 0).trans rfl; have hfzq44_0 := blk_frozen BK2.b 0; have hczq44_1 : w35.cell? ⟨g1, 1, none⟩ = some (.int .i64 a0_1) := (blk_cell BK2.b 1).trans rfl; have hfzq44_1 := blk_frozen BK2.b 1; have hczq44_2 : w35.cell? ⟨g1, 2, none⟩ = some (.slice A0_2 l0_2.length c0_2) := (blk_cell BK2.b 2).trans rfl; have hfzq44_2 := blk_frozen BK2.b 2; have hczq44_3 : w35.cell? ⟨g1, 3, none⟩ = some (.slice A0_3 l0_3.length c0_3) := (blk_cell BK2.b 3).trans rfl; have hfzq44_3 := blk_frozen BK2.b 3) | ((with_reducible refine gate_callee (f := 10) rfl ?_); refine Sh.gL (some 34) Try.func10 #[.agg #[.int .i64 a0_0, .int .i64 a0_1, .slice A0_2 l0_2.length c0_2, .slice A0_3 l0_3.length c0_3]] (h := ?_); (with_reducible refine (laws_toProgram.calls k a0_0 a0_1 _ _ l0_2 _ _ l0_3 a0_0 a0_1 y9 y10 _ (Kd.C_below HR0_2.out HB.out) HC0_2.out (Kd.C_below HR0_3.out HB.out) HC0_3.out E1.out).mono ?_); rintro e w45 ⟨v2_, v3_, rfl, ho0, ho1, hb⟩; refine ⟨_, rfl, ?_⟩; obtain ⟨lo48, hi49, ⟨HO46, HO47⟩, oa50, ob51, NW2⟩ := new1 (F := fun lo_ hi_ => Held k80 80 w45 w.heap.size lo_ hi_ v2_ y9 ∧ Held k71 71 w45 w.heap.size lo_ hi_ v3_ y10) ⟨held_new ho0 hb HB.out, held_new ho1 hb HB.out⟩ hb NW; replace BK2 := BK2.same hb; replace HO12 := HO12.same hb; replace HO13 := HO13.same hb; replace HO25 := HO25.same hb; replace HO36 := HO36.same hb; replace HB := am_ (below_step HB.out hb); replace NW := Nat.le_trans NW hb.size; replace NW := NW2; skip; obtain ⟨A52, c53, e54⟩ := HO46.slice; subst e54; obtain ⟨A55, c56, e57⟩ := HO47.slice; subst e57; clear hb ho0 ho1) | ((with_reducible refine gate_dst (N := 8) rfl ?_); refine Sh.bx (N := 8) (cs := #[.int .i64 0, .int .i64 0, .slice none 0 0, .slice none 0 0]) (t := 33) (h := ?_); intro g58 hg w60 hbox hb; have BK59 := box_new (w := w) (W := w45) HB.out hg hbox; have oa61 := new_g (W := w45) hg NW; replace BK2 := BK2.same hb; replace HO12 := HO12.same hb; replace HO13 := HO13.same hb; replace HO25 := HO25.same hb; replace HO36 := HO36.same hb; replace HO46 := HO46.same hb; replace HO47 := HO47.same hb; replace HB := am_ (below_step HB.out hb); replace NW := Nat.le_trans NW hb.size; replace NW := BK59.lt; clear hb hbox hg) | ((with_reducible refine gate_ (.store 33 (.tmp 8) (.tmp 34)) rfl ?_); refine store_event 8 (.tmp 34) rfl rfl rfl BK59 rfl [.int .i64 a0_0, .int .i64 a0_1, .slice A52 y9.length c53, .slice A55 y10.length c56] rfl rfl ?hs rfl ?h1 ?_; (case hs => kernel_rfl); (case h1 => (simp only [List.mem_cons, List.not_mem_nil, or_false]; intro q_ h_; rcases h_ with h_ | h_ | h_ | h_ <;> (subst h_; rfl))); intro w62 hbx hb hk; replace BK2 := BK2.move hk (by omega); replace HO12 := HO12.move hk (by omega); replace HO13 := HO13.move hk (by omega); replace HO25 := HO25.move hk (by omega); replace HO36 := HO36.move hk (by omega); replace HO46 := HO46.move hk (by omega); replace HO47 := HO47.move hk (by omega); replace BK59 := hbx; replace NW := Nat.le_trans NW hk.1; replace HB := am_ (HB.out.trans hb); clear hk hb) | ((with_reducible refine gate_callee (f := 11) rfl ?_); refine Sh.gL (some 36) Try.func11 #[.slice A1 l1.length c1] (h := ?_); (with_reducible refine (laws_toUint64S.calls k _ _ l1 l1 _ (Kd.C_below HR1.out HB.out) HC1.out E2.out).mono ?_); rintro e w63 ⟨v0_, rfl, ho0, hb⟩; refine ⟨_, rfl, ?_⟩; obtain ⟨lo65, hi66, HO64, oa67, ob68, NW2⟩ := new1 (F := fun lo_ hi_ => Held (Kd.int .u64) 61 w63 w.heap.size lo_ hi_ v0_ l1) (held_new ho0 hb HB.out) hb NW; replace BK2 := BK2.same hb; replace HO12 := HO12.same hb; replace HO13 := HO13.same hb; replace HO25 := HO25.same hb; replace HO36 := HO36.same hb; replace HO46 := HO46.same hb; replace HO47 := HO47.same hb; replace BK59 := BK59.same hb; replace HB := am_ (below_step HB.out hb); replace NW := Nat.le_trans NW hb.size; replace NW := NW2; skip; obtain ⟨A69, c70, e71⟩ := HO64.slice; subst e71; clear hb ho0; have hczq72_0 : w63.cell? ⟨g58, 0, none⟩ = some (.int .i64 a0_0) := (blk_cell BK59.b 0).trans rfl; have hfzq72_0 := blk_frozen BK59.b 0; have hczq72_1 : w63.cell? ⟨g58, 1, none⟩ = some (.int .i64 a0_1) := (blk_cell BK59.b 1).trans rfl; have hfzq72_1 := blk_frozen BK59.b 1; have hczq72_2 : w63.cell? ⟨g58, 2, none⟩ = some (.slice A52 y9.length c53) := (blk_cell BK59.b 2).trans rfl; have hfzq72_2 := blk_frozen BK59.b 2; have hczq72_3 : w63.cell? ⟨g58, 3, none⟩ = some (.slice A55 y10.length c56) := (blk_cell BK59.b 3).trans rfl; have hfzq72_3 := blk_frozen BK59.b 3) | ((with_reducible refine gate_callee (f := 22) rfl ?_); refine Sh.gL (some 40) Try.func22 #[.agg #[.int .i64 a0_0, .int .i64 a0_1, .slice A52 y9.length c53, .slice A55 y10.length c56], .slice A69 l1.length c70] (h := ?_); (with_reducible refine (impl_Enabled.calls k a0_0 a0_1 _ _ y9 _ _ y10 _ _ l1 y33 y34 _ HO46.C HO46.c HO47.C HO47.c HO64.C HO64.c E4.out).mono ?_); rintro e w73 ⟨v0_, rfl, ho0, hb⟩; refine ⟨_, rfl, ?_⟩; obtain ⟨lo75, hi76, HO74, oa77, ob78, NW2⟩ := new1 (F := fun lo_ hi_ => Held (Kd.int .i64) 3 w73 w.heap.size lo_ hi_ v0_ y33) (held_new ho0 hb HB.out) hb NW; replace BK2 := BK2.same hb; replace HO12 := HO12.same hb; replace HO13 := HO13.same hb; replace HO25 := HO25.same hb; replace HO36 := HO36.same hb; replace HO46 := HO46.same hb; replace HO47 := HO47.same hb; replace BK59 := BK59.same hb; replace HO64 := HO64.same hb; replace HB := am_ (below_step HB.out hb); replace NW := Nat.le_trans NW hb.size; replace NW := NW2; skip; obtain ⟨A79, c80, e81⟩ := HO74.slice; subst e81; clear hb ho0) | ((with_reducible refine gate_callee (f := 17) rfl ?_); refine Sh.gL (some 45) Try.func17 #[.slice A79 y33.length c80, .slice A41 y33.length c42] (h := ?_); (with_reducible refine (laws_eqIntS.calls k _ _ y33 _ _ y33 true _ HO74.C HO74.c HO36.C HO36.c E5.out).mono ?_); rintro e w82 ⟨rfl, hb⟩; refine ⟨_, rfl, ?_⟩; replace hb := hb.below; replace BK2 := BK2.same hb; replace HO12 := HO12.same hb; replace HO13 := HO13.same hb; replace HO25 := HO25.same hb; replace HO36 := HO36.same hb; replace HO46 := HO46.same hb; replace HO47 := HO47.same hb; replace BK59 := BK59.same hb; replace HO64 := HO64.same hb; replace HO74 := HO74.same hb; replace HB := am_ (below_step HB.out hb); replace NW := Nat.le_trans NW hb.size; clear hb))
 (try simp only [Act.put, List.setIfInBounds_toArray, List.set_cons_zero, List.set_cons_succ])
 try go_wp2
 have hb : Below w82.heap.size w82 w82.drew := below_drew (Below.refl _ _)
 replace BK2 := BK2.same hb
 replace HO12 := HO12.same hb
 replace HO13 := HO13.same hb
 replace HO25 := HO25.same hb
 replace HO36 := HO36.same hb
 replace HO46 := HO46.same hb
 replace HO47 := HO47.same hb
 replace BK59 := BK59.same hb
 replace HO64 := HO64.same hb
 replace HO74 := HO74.same hb
 replace HB := am_ (below_step HB.out hb)
 replace NW := Nat.le_trans NW hb.size
 clear hb
 have hL_ : 0 ≤ 0 := Nat.le_refl 0
 refine start_ (n := 5) (S := fun w' => w'.cell? ⟨g58, 0, none⟩ = some (.int .i64 a0_0) ∧ w'.cell? ⟨g58, 1, none⟩ = some (.int .i64 a0_1) ∧ w'.cell? ⟨g58, 2, none⟩ = some (.slice A52 y9.length c53) ∧ w'.cell? ⟨g58, 3, none⟩ = some (.slice A55 y10.length c56) ∧ w'.cell? ⟨g1, 0, none⟩ = some (.int .i64 a0_0) ∧ w'.cell? ⟨g1, 1, none⟩ = some (.int .i64 a0_1) ∧ w'.cell? ⟨g1, 2, none⟩ = some (.slice A0_2 l0_2.length c0_2) ∧ w'.cell? ⟨g1, 3, none⟩ = some (.slice A0_3 l0_3.length c0_3)) (ds := []) (Sh.nm 5 0) (by kernel_rfl) rfl rfl ⟨(blk_cell BK59.b 0).trans rfl, (blk_cell BK59.b 1).trans rfl, (blk_cell BK59.b 2).trans rfl, (blk_cell BK59.b 3).trans rfl, (blk_cell BK2.b 0).trans rfl, (blk_cell BK2.b 1).trans rfl, (blk_cell BK2.b 2).trans rfl, (blk_cell BK2.b 3).trans rfl⟩ (fun hHeld => ?_)
 generalize w82.drew = w83 at BK2 HO12 HO13 HO25 HO36 HO46 HO47 BK59 HO64 HO74 HB NW hHeld ⊢
 clear hL_
 refine Sh.tA 0 52 (Sh.nm 5 1) (by kernel_rfl) hHeld ?_ (hy := by rintro w' ⟨s0, s1, s2, s3, s4, s5, s6, s7⟩; go_simp; with_reducible rfl)
 refine Sh.tA 1 53 (Sh.nm 5 3) (by kernel_rfl) hHeld ?_ (hy := by rintro w' ⟨s0, s1, s2, s3, s4, s5, s6, s7⟩; go_simp; with_reducible rfl)
 refine one_ (i := 2) (N := some 54) (Sh.nm 5 7) rfl rfl (by kernel_rfl) (by decide) (fun K hK => ?_)
 refine goes_ Try.func10 (by kernel_rfl) rfl #[.agg #[.int .i64 a0_0, .int .i64 a0_1, .slice A0_2 l0_2.length c0_2, .slice A0_3 l0_3.length c0_3]] (by rfl) rfl rfl (by (try simp only [List.map_toArray, List.map_cons, List.map_nil]); first | done | rfl | (simp only [List.length_drop, List.length_take]; rfl)) ?_
 with_reducible refine (laws_toProgram.calls k a0_0 a0_1 _ _ l0_2 _ _ l0_3 a0_0 a0_1 y9 y10 _ (Kd.C_below HR0_2.out HB.out) HC0_2.out (Kd.C_below HR0_3.out HB.out) HC0_3.out E1.out).mono ?_
 rintro e w84 ⟨v2_, v3_, rfl, ho0, ho1, hb⟩
 refine ⟨_, rfl, ?_⟩
 obtain ⟨lo87, hi88, ⟨HO85, HO86⟩, oa89, ob90, NW2⟩ := new1 (F := fun lo_ hi_ => Held k80 80 w84 w.heap.size lo_ hi_ v2_ y9 ∧ Held k71 71 w84 w.heap.size lo_ hi_ v3_ y10) ⟨held_new ho0 hb HB.out, held_new ho1 hb HB.out⟩ hb NW
 replace BK2 := BK2.same hb
 replace HO12 := HO12.same hb
 replace HO13 := HO13.same hb
 replace HO25 := HO25.same hb
 replace HO36 := HO36.same hb
 replace HO46 := HO46.same hb
 replace HO47 := HO47.same hb
 replace BK59 := BK59.same hb
 replace HO64 := HO64.same hb
 replace HO74 := HO74.same hb
 replace HB := am_ (below_step HB.out hb)
 replace NW := Nat.le_trans NW hb.size
 replace NW := NW2
 skip
 obtain ⟨A91, c92, e93⟩ := HO85.slice
 subst e93
 obtain ⟨A94, c95, e96⟩ := HO86.slice
 subst e96
 clear hb ho0 ho1
 refine Sh.kN hK ⟨(blk_cell BK59.b 0).trans rfl, (blk_cell BK59.b 1).trans rfl, (blk_cell BK59.b 2).trans rfl, (blk_cell BK59.b 3).trans rfl, (blk_cell BK2.b 0).trans rfl, (blk_cell BK2.b 1).trans rfl, (blk_cell BK2.b 2).trans rfl, (blk_cell BK2.b 3).trans rfl⟩ fun hHeld => ?_
 clear hK K
 refine one_ (i := 3) (N := some 55) (Sh.nm 5 15) rfl rfl (by kernel_rfl) (by decide) (fun K hK => ?_)
 refine goes_ Try.func13 (by kernel_rfl) rfl #[.agg #[.int .i64 a0_0, .int .i64 a0_1, .slice A52 y9.length c53, .slice A55 y10.length c56], .agg #[.int .i64 a0_0, .int .i64 a0_1, .slice A91 y9.length c92, .slice A94 y10.length c95]] (by rfl) rfl rfl (by (try simp only [List.map_toArray, List.map_cons, List.map_nil]); first | done | rfl | (simp only [List.length_drop, List.length_take]; rfl)) ?_
 with_reducible refine (laws_eqProgram.calls k a0_0 a0_1 _ _ y9 _ _ y10 a0_0 a0_1 _ _ y9 _ _ y10 true _ HO46.C HO46.c HO47.C HO47.c HO85.C HO85.c HO86.C HO86.c E6.out).mono ?_
 rintro e w97 ⟨rfl, hb⟩
 refine ⟨_, rfl, ?_⟩
 replace BK2 := BK2.same hb
 replace HO12 := HO12.same hb
 replace HO13 := HO13.same hb
 replace HO25 := HO25.same hb
 replace HO36 := HO36.same hb
 replace HO46 := HO46.same hb
 replace HO47 := HO47.same hb
 replace BK59 := BK59.same hb
 replace HO64 := HO64.same hb
 replace HO74 := HO74.same hb
 replace HO85 := HO85.same hb
 replace HO86 := HO86.same hb
 replace HB := am_ (below_step HB.out hb)
 replace NW := Nat.le_trans NW hb.size
 clear hb
 refine Sh.kN hK ⟨(blk_cell BK59.b 0).trans rfl, (blk_cell BK59.b 1).trans rfl, (blk_cell BK59.b 2).trans rfl, (blk_cell BK59.b 3).trans rfl, (blk_cell BK2.b 0).trans rfl, (blk_cell BK2.b 1).trans rfl, (blk_cell BK2.b 2).trans rfl, (blk_cell BK2.b 3).trans rfl⟩ fun hHeld => ?_
 clear hK K
 refine Sh.pA 4 56 (Sh.nm 5 31) (by kernel_rfl) ?_
 refine done_ (by kernel_rfl) ?_
 go_wp2_with (first | ((with_reducible refine gate_callee (f := 11) rfl ?_); refine Sh.gL (some 59) Try.func11 #[.slice A1 l1.length c1] (h := ?_); (with_reducible refine (laws_toUint64S.calls k _ _ l1 l1 _ (Kd.C_below HR1.out HB.out) HC1.out E2.out).mono ?_); rintro e w98 ⟨v0_, rfl, ho0, hb⟩; refine ⟨_, rfl, ?_⟩; obtain ⟨lo100, hi101, HO99, oa102, ob103, NW2⟩ := new1 (F := fun lo_ hi_ => Held (Kd.int .u64) 61 w98 w.heap.size lo_ hi_ v0_ l1) (held_new ho0 hb HB.out) hb NW; replace BK2 := BK2.same hb; replace HO12 := HO12.same hb; replace HO13 := HO13.same hb; replace HO25 := HO25.same hb; replace HO36 := HO36.same hb; replace HO46 := HO46.same hb; replace HO47 := HO47.same hb; replace BK59 := BK59.same hb; replace HO64 := HO64.same hb; replace HO74 := HO74.same hb; replace HO85 := HO85.same hb; replace HO86 := HO86.same hb; replace HB := am_ (below_step HB.out hb); replace NW := Nat.le_trans NW hb.size; replace NW := NW2; skip; obtain ⟨A104, c105, e106⟩ := HO99.slice; subst e106; clear hb ho0) | ((with_reducible refine gate_callee (f := 14) rfl ?_); refine Sh.gL (some 60) Try.func14 #[.slice A69 l1.length c70, .slice A104 l1.length c105] (h := ?_); (with_reducible refine (laws_eqUint64S.calls k _ _ l1 _ _ l1 true _ HO64.C HO64.c HO99.C HO99.c E7.out).mono ?_); rintro e w107 ⟨rfl, hb⟩; refine ⟨_, rfl, ?_⟩; replace hb := hb.below; replace BK2 := BK2.same hb; replace HO12 := HO12.same hb; replace HO13 := HO13.same hb; replace HO25 := HO25.same hb; replace HO36 := HO36.same hb; replace HO46 := HO46.same hb; replace HO47 := HO47.same hb; replace BK59 := BK59.same hb; replace HO64 := HO64.same hb; replace HO74 := HO74.same hb; replace HO85 := HO85.same hb; replace HO86 := HO86.same hb; replace HO99 := HO99.same hb; replace HB := am_ (below_step HB.out hb); replace NW := Nat.le_trans NW hb.size; clear hb; have hczq108_0 : w107.cell? ⟨g58, 0, none⟩ = some (.int .i64 a0_0) := (blk_cell BK59.b 0).trans rfl; have hfzq108_0 := blk_frozen BK59.b 0; have hczq108_1 : w107.cell? ⟨g58, 1, none⟩ = some (.int .i64 a0_1) := (blk_cell BK59.b 1).trans rfl; have hfzq108_1 := blk_frozen BK59.b 1; have hczq108_2 : w107.cell? ⟨g58, 2, none⟩ = some (.slice A52 y9.length c53) := (blk_cell BK59.b 2).trans rfl; have hfzq108_2 := blk_frozen BK59.b 2; have hczq108_3 : w107.cell? ⟨g58, 3, none⟩ = some (.slice A55 y10.length c56) := (blk_cell BK59.b 3).trans rfl; have hfzq108_3 := blk_frozen BK59.b 3) | ((with_reducible refine gate_callee (f := 18) rfl ?_); refine Sh.gL (some 64) Try.func18 #[.agg #[.int .i64 a0_0, .int .i64 a0_1, .slice A52 y9.length c53, .slice A55 y10.length c56], .int .i64 1] (h := ?_); (with_reducible refine (laws_markProgram.calls k (fun k_ => lo48 ≤ k_ ∧ k_ < hi49) a0_0 a0_1 _ y9 _ y10 1 m109 w _ HB.out HO46.r HO47.r E8.out).mono ?_); rintro e w110 ⟨rfl, hb, hk⟩; refine ⟨_, rfl, ?_⟩; replace hk : Kept w107 w110 (fun k_ => lo48 ≤ k_ ∧ k_ < hi49) := hk; replace BK2 := BK2.move hk (by omega); replace HO12 := HO12.move hk (by omega); replace HO13 := HO13.move hk (by omega); replace HO25 := HO25.move hk (by omega); replace HO36 := HO36.move hk (by omega); replace BK59 := BK59.move hk (by omega); replace HO64 := HO64.move hk (by omega); replace HO74 := HO74.move hk (by omega); replace HO85 := HO85.move hk (by omega); replace HO86 := HO86.move hk (by omega); replace HO99 := HO99.move hk (by omega); clear HO46 HO47; replace NW := Nat.le_trans NW hk.1; replace HB := am_ hb; clear hk hb) | ((with_reducible refine gate_callee (f := 23) rfl ?_); refine Sh.gL (some 67) Try.func23 #[.slice A69 l1.length c70, .int .i64 m109] (h := ?_); (with_reducible refine (laws_markUint64S.calls k (fun k_ => lo65 ≤ k_ ∧ k_ < hi66) _ l1 m109 m111 y112 w _ HB.out HO64.r E9.out).mono ?_); rintro e w113 ⟨rfl, hm0, hb, hk⟩; refine ⟨_, rfl, ?_⟩; replace hk : Kept w110 w113 (fun k_ => lo65 ≤ k_ ∧ k_ < hi66) := hk; replace BK2 := BK2.move hk (by omega); replace HO12 := HO12.move hk (by omega); replace HO13 := HO13.move hk (by omega); replace HO25 := HO25.move hk (by omega); replace HO36 := HO36.move hk (by omega); replace BK59 := BK59.move hk (by omega); replace HO74 := HO74.move hk (by omega); replace HO85 := HO85.move hk (by omega); replace HO86 := HO86.move hk (by omega); replace HO99 := HO99.move hk (by omega); replace HO64 := HO64.marked rfl hm0 hk; replace NW := Nat.le_trans NW hk.1; replace HB := am_ hb; clear hk hb hm0) | ((with_reducible refine gate_callee (f := 17) rfl ?_); (with_reducible refine gate_dst (N := 73) rfl ?_); (try simp only [ce0, ce1, cr0]); refine gate_guard (by rfl) ?_; dsimp only; refine Sh.gL (some 73) Try.func17 #[.slice A79 y33.length c80, .slice A41 y33.length c42] (h := ?_); (with_reducible refine (laws_eqIntS.calls k _ _ y33 _ _ y33 true _ HO74.C HO74.c HO36.C HO36.c E5.out).mono ?_); rintro e w114 ⟨rfl, hb⟩; refine ⟨_, rfl, ?_⟩; replace hb := hb.below; replace BK2 := BK2.same hb; replace HO12 := HO12.same hb; replace HO13 := HO13.same hb; replace HO25 := HO25.same hb; replace HO36 := HO36.same hb; replace BK59 := BK59.same hb; replace HO64 := HO64.same hb; replace HO74 := HO74.same hb; replace HO85 := HO85.same hb; replace HO86 := HO86.same hb; replace HO99 := HO99.same hb; replace HB := am_ (below_step HB.out hb); replace NW := Nat.le_trans NW hb.size; clear hb) | ((with_reducible refine gate_callee (f := 19) rfl ?_); refine Sh.gL (some 83) Try.func19 #[.slice A79 y33.length c80, .int .i64 1] (h := ?_); (with_reducible refine (laws_markIntS.calls k (fun k_ => lo75 ≤ k_ ∧ k_ < hi76) _ y33 1 m115 y116 w _ HB.out HO74.r E10.out).mono ?_); rintro e w117 ⟨rfl, hm0, hb, hk⟩; refine ⟨_, rfl, ?_⟩; replace hk : Kept w114 w117 (fun k_ => lo75 ≤ k_ ∧ k_ < hi76) := hk; replace BK2 := BK2.move hk (by omega); replace HO12 := HO12.move hk (by omega); replace HO13 := HO13.move hk (by omega); replace HO25 := HO25.move hk (by omega); replace HO36 := HO36.move hk (by omega); replace BK59 := BK59.move hk (by omega); replace HO64 := HO64.move hk (by omega); replace HO85 := HO85.move hk (by omega); replace HO86 := HO86.move hk (by omega); replace HO99 := HO99.move hk (by omega); replace HO74 := HO74.marked rfl hm0 hk; replace NW := Nat.le_trans NW hk.1; replace HB := am_ hb; clear hk hb hm0) | ((with_reducible refine gate_callee (f := 20) rfl ?_); refine Sh.gL (some 86) Try.func20 #[.slice A79 y33.length c80, .int .i64 1] (h := ?_); refine calls_of_args (args' := #[.slice A79 y116.length c80, .int .i64 1]) (by rw [← HO74.n]) ?_; (with_reducible refine (laws_heldIntS.calls k _ _ y116 1 m115 _ HO74.C HO74.c E11.out).mono ?_); rintro e w118 ⟨rfl, hb⟩; refine ⟨_, rfl, ?_⟩; replace hb := hb.below; replace BK2 := BK2.same hb; replace HO12 := HO12.same hb; replace HO13 := HO13.same hb; replace HO25 := HO25.same hb; replace HO36 := HO36.same hb; replace BK59 := BK59.same hb; replace HO64 := HO64.same hb; replace HO74 := HO74.same hb; replace HO85 := HO85.same hb; replace HO86 := HO86.same hb; replace HO99 := HO99.same hb; replace HB := am_ (below_step HB.out hb); replace NW := Nat.le_trans NW hb.size; clear hb; have hczq119_0 : w118.cell? ⟨g1, 0, none⟩ = some (.int .i64 a0_0) := (blk_cell BK2.b 0).trans rfl; have hfzq119_0 := blk_frozen BK2.b 0; have hczq119_1 : w118.cell? ⟨g1, 1, none⟩ = some (.int .i64 a0_1) := (blk_cell BK2.b 1).trans rfl; have hfzq119_1 := blk_frozen BK2.b 1; have hczq119_2 : w118.cell? ⟨g1, 2, none⟩ = some (.slice A0_2 l0_2.length c0_2) := (blk_cell BK2.b 2).trans rfl; have hfzq119_2 := blk_frozen BK2.b 2; have hczq119_3 : w118.cell? ⟨g1, 3, none⟩ = some (.slice A0_3 l0_3.length c0_3) := (blk_cell BK2.b 3).trans rfl; have hfzq119_3 := blk_frozen BK2.b 3) | ((with_reducible refine gate_callee (f := 10) rfl ?_); refine Sh.gL (some 94) Try.func10 #[.agg #[.int .i64 a0_0, .int .i64 a0_1, .slice A0_2 l0_2.length c0_2, .slice A0_3 l0_3.length c0_3]] (h := ?_); (with_reducible refine (laws_toProgram.calls k a0_0 a0_1 _ _ l0_2 _ _ l0_3 a0_0 a0_1 y9 y10 _ (Kd.C_below HR0_2.out HB.out) HC0_2.out (Kd.C_below HR0_3.out HB.out) HC0_3.out E1.out).mono ?_); rintro e w120 ⟨v2_, v3_, rfl, ho0, ho1, hb⟩; refine ⟨_, rfl, ?_⟩; obtain ⟨lo123, hi124, ⟨HO121, HO122⟩, oa125, ob126, NW2⟩ := new1 (F := fun lo_ hi_ => Held k80 80 w120 w.heap.size lo_ hi_ v2_ y9 ∧ Held k71 71 w120 w.heap.size lo_ hi_ v3_ y10) ⟨held_new ho0 hb HB.out, held_new ho1 hb HB.out⟩ hb NW; replace BK2 := BK2.same hb; replace HO12 := HO12.same hb; replace HO13 := HO13.same hb; replace HO25 := HO25.same hb; replace HO36 := HO36.same hb; replace BK59 := BK59.same hb; replace HO64 := HO64.same hb; replace HO74 := HO74.same hb; replace HO85 := HO85.same hb; replace HO86 := HO86.same hb; replace HO99 := HO99.same hb; replace HB := am_ (below_step HB.out hb); replace NW := Nat.le_trans NW hb.size; replace NW := NW2; skip; obtain ⟨A127, c128, e129⟩ := HO121.slice; subst e129; obtain ⟨A130, c131, e132⟩ := HO122.slice; subst e132; clear hb ho0 ho1) | ((with_reducible refine gate_callee (f := 11) rfl ?_); refine Sh.gL (some 96) Try.func11 #[.slice A1 l1.length c1] (h := ?_); (with_reducible refine (laws_toUint64S.calls k _ _ l1 l1 _ (Kd.C_below HR1.out HB.out) HC1.out E2.out).mono ?_); rintro e w133 ⟨v0_, rfl, ho0, hb⟩; refine ⟨_, rfl, ?_⟩; obtain ⟨lo135, hi136, HO134, oa137, ob138, NW2⟩ := new1 (F := fun lo_ hi_ => Held (Kd.int .u64) 61 w133 w.heap.size lo_ hi_ v0_ l1) (held_new ho0 hb HB.out) hb NW; replace BK2 := BK2.same hb; replace HO12 := HO12.same hb; replace HO13 := HO13.same hb; replace HO25 := HO25.same hb; replace HO36 := HO36.same hb; replace BK59 := BK59.same hb; replace HO64 := HO64.same hb; replace HO74 := HO74.same hb; replace HO85 := HO85.same hb; replace HO86 := HO86.same hb; replace HO99 := HO99.same hb; replace HO121 := HO121.same hb; replace HO122 := HO122.same hb; replace HB := am_ (below_step HB.out hb); replace NW := Nat.le_trans NW hb.size; replace NW := NW2; skip; obtain ⟨A139, c140, e141⟩ := HO134.slice; subst e141; clear hb ho0) | ((with_reducible refine gate_callee (f := 22) rfl ?_); refine Sh.gL (some 97) Try.func22 #[.agg #[.int .i64 a0_0, .int .i64 a0_1, .slice A127 y9.length c128, .slice A130 y10.length c131], .slice A139 l1.length c140] (h := ?_); (with_reducible refine (impl_Enabled.calls k a0_0 a0_1 _ _ y9 _ _ y10 _ _ l1 y33 y34 _ HO121.C HO121.c HO122.C HO122.c HO134.C HO134.c E4.out).mono ?_); rintro e w142 ⟨v0_, rfl, ho0, hb⟩; refine ⟨_, rfl, ?_⟩; obtain ⟨lo144, hi145, HO143, oa146, ob147, NW2⟩ := new1 (F := fun lo_ hi_ => Held (Kd.int .i64) 3 w142 w.heap.size lo_ hi_ v0_ y33) (held_new ho0 hb HB.out) hb NW; replace BK2 := BK2.same hb; replace HO12 := HO12.same hb; replace HO13 := HO13.same hb; replace HO25 := HO25.same hb; replace HO36 := HO36.same hb; replace BK59 := BK59.same hb; replace HO64 := HO64.same hb; replace HO74 := HO74.same hb; replace HO85 := HO85.same hb; replace HO86 := HO86.same hb; replace HO99 := HO99.same hb; replace HO121 := HO121.same hb; replace HO122 := HO122.same hb; replace HO134 := HO134.same hb; replace HB := am_ (below_step HB.out hb); replace NW := Nat.le_trans NW hb.size; replace NW := NW2; skip; obtain ⟨A148, c149, e150⟩ := HO143.slice; subst e150; clear hb ho0) | ((with_reducible refine gate_callee (f := 17) rfl ?_); refine Sh.gL (some 102) Try.func17 #[.slice A148 y33.length c149, .slice A41 y33.length c42] (h := ?_); (with_reducible refine (laws_eqIntS.calls k _ _ y33 _ _ y33 true _ HO143.C HO143.c HO36.C HO36.c E5.out).mono ?_); rintro e w151 ⟨rfl, hb⟩; refine ⟨_, rfl, ?_⟩; replace hb := hb.below; replace BK2 := BK2.same hb; replace HO12 := HO12.same hb; replace HO13 := HO13.same hb; replace HO25 := HO25.same hb; replace HO36 := HO36.same hb; replace BK59 := BK59.same hb; replace HO64 := HO64.same hb; replace HO74 := HO74.same hb; replace HO85 := HO85.same hb; replace HO86 := HO86.same hb; replace HO99 := HO99.same hb; replace HO121 := HO121.same hb; replace HO122 := HO122.same hb; replace HO134 := HO134.same hb; replace HO143 := HO143.same hb; replace HB := am_ (below_step HB.out hb); replace NW := Nat.le_trans NW hb.size; clear hb) | ((with_reducible refine gate_callee (f := 20) rfl ?_); refine Sh.gL (some 111) Try.func20 #[.slice A79 y33.length c80, .int .i64 1] (h := ?_); refine calls_of_args (args' := #[.slice A79 y116.length c80, .int .i64 1]) (by rw [← HO74.n]) ?_; (with_reducible refine (laws_heldIntS.calls k _ _ y116 1 m115 _ HO74.C HO74.c E11.out).mono ?_); rintro e w152 ⟨rfl, hb⟩; refine ⟨_, rfl, ?_⟩; replace hb := hb.below; replace BK2 := BK2.same hb; replace HO12 := HO12.same hb; replace HO13 := HO13.same hb; replace HO25 := HO25.same hb; replace HO36 := HO36.same hb; replace BK59 := BK59.same hb; replace HO64 := HO64.same hb; replace HO74 := HO74.same hb; replace HO85 := HO85.same hb; replace HO86 := HO86.same hb; replace HO99 := HO99.same hb; replace HO121 := HO121.same hb; replace HO122 := HO122.same hb; replace HO134 := HO134.same hb; replace HO143 := HO143.same hb; replace HB := am_ (below_step HB.out hb); replace NW := Nat.le_trans NW hb.size; clear hb))
 go_ret
 exact ⟨rfl, HB.out⟩
end Go.Proofs.Ytjnolbjaagmooaa.P
