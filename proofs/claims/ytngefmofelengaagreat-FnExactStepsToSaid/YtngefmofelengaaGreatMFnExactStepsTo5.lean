/- Go functions of this seat as Lean functions, and the proofs that the calls come to what these say; printed by a program of this session. No condition. -/
import Derived.Test.YtngefmofelengaaGreatP0
import Derived.Test.YtngefmofelengaaGreatMFnExactStepsTo3
import Derived.Test.YtngefmofelengaaGreatMFnExactStepsTo4
import Derived.Test.YtngefmofelengaaGreatMFnExactStepsTo2
import Derived.Test.YtngefmofelengaaGreatMFnExactStepsTo1
set_option linter.unusedVariables false
set_option linter.unusedSimpArgs false
set_option maxHeartbeats 40000000
set_option maxRecDepth 100000
namespace Go.Proofs.YtngefmofelengaaGreat.P
open Go.RowKit Go.Proofs.YtngefmofelengaaGreatW.PrintWords Go.Proofs.YtngefmofelengaaGreatW.PrintLast Go.Proofs.YtngefmofelengaaGreatW.PrintMore Go.Proofs.YtngefmofelengaaGreat.Hof
attribute [local go_sem] max2_int min2_int max_two min_two max_three min_three max_four min_four
def impl_isNo.f (k : Nat) (a0_0 : Int) (a0_1 : Int) (l0_2 : List (S79)) (l0_3 : List (S95)) (a1 : Int) : Option (Bool) := (impl_isSmall.f k a0_0 a0_1 l0_2 l0_3).bind fun t852 => (if t852 = true then (if a1 ≥ 0 then ((impl_Program_states.f a0_0 a0_1 l0_2 l0_3).bind fun t853 => (some (decide (a1 < t853)))) else (some false)) else (some false))
theorem impl_isNo.mono : ∀ a0 a1 a2 a3 a4 k, LeO (impl_isNo.f k a0 a1 a2 a3 a4) (impl_isNo.f (k + 1) a0 a1 a2 a3 a4) := by
 intro a0 a1 a2 a3 a4 k
 unfold impl_isNo.f
 repeat' with_reducible first | apply impl_isSmall.mono | exact LeO.refl _ | exact LeO.none _ | apply LeO.ite | refine LeO.bind ?_ fun _ => ?_
theorem impl_isNo.calls (k : Nat) (a0_0 : Int) (a0_1 : Int) (A0_2 : Option Addr) (c0_2 : Nat) (l0_2 : List (S79)) (A0_3 : Option Addr) (c0_3 : Nat) (l0_3 : List (S95)) (a1 : Int) (r : Bool) (w : World) (hr0_2 : Kd.C k79 w A0_2 l0_2.length l0_2) (hc0_2 : l0_2.length ≤ c0_2) (hr0_3 : Kd.C k95 w A0_3 l0_3.length l0_3) (hc0_3 : l0_3.length ≤ c0_3) (h : impl_isNo.f k a0_0 a0_1 l0_2 l0_3 a1 = some r) :
  Calls Tryz.prog 42 #[.agg #[.int .i64 a0_0, .int .i64 a0_1, .slice A0_2 l0_2.length c0_2, .slice A0_3 l0_3.length c0_3], .int .i64 a1] w fun e w' => e = .returned (.bool r) ∧ Below w.heap.size w w' := by
 have hu33 := Tryz.underlying33
 have HR0_2 := am_ hr0_2
 have HC0_2 := am_ hc0_2
 clear hr0_2 hc0_2
 have HR0_3 := am_ hr0_3
 have HC0_3 := am_ hc0_3
 clear hr0_3 hc0_3
 have HB := am_ (Below.refl w.heap.size w)
 have H := h
 clear h
 unfold impl_isNo.f at H
 obtain ⟨t852, A3, H⟩ := Sh.ba H
 by_cases c4 : t852 = true
 ·subst c4
  rw [if_pos rfl] at H
  by_cases c5 : a1 ≥ 0
  ·rw [if_pos c5] at H
   have c5b0 : decide (0 ≤ a1) = true := decide_eq_true c5
   clear c5
   obtain ⟨t853, A6, H⟩ := Sh.ba H
   obtain rfl := Option.some.inj H
   go_enter Tryz.func42, Tryz.ntmps42
   go_wp2_with (first | ((with_reducible refine Sh.d 2 ?_); refine Sh.bz w (N := 2) (cs := #[.int .i64 a0_0, .int .i64 a0_1, .slice A0_2 l0_2.length c0_2, .slice A0_3 l0_3.length c0_3]) (t := 33) (h := ?_); clear HB; intro gb851 w7 BK851 GE851 HB; obtain ⟨hcz8_0, hcz8_1, hcz8_2, hcz8_3, hfz8_0, hfz8_1, hfz8_2, hfz8_3⟩ := Sh.b4 BK851.out) | ((with_reducible refine Sh.k 63 ?_); refine Sh.gB (some 6) Tryz.func63 #[.agg #[.int .i64 a0_0, .int .i64 a0_1, .slice A0_2 l0_2.length c0_2, .slice A0_3 l0_3.length c0_3]] (impl_isSmall.calls k a0_0 a0_1 _ _ l0_2 _ _ l0_3 true _ (Sh.cB HR0_2.out) HC0_2.out (Sh.cB HR0_3.out) HC0_3.out A3.out) fun w9 hb => ?_; replace BK851 := Sh.ab BK851 hb; replace HB := Sh.hb hb; (try clear hb); (try clear hb2); (try clear hk); (try clear hi); obtain ⟨hcz10_0, hcz10_1, hcz10_2, hcz10_3, hfz10_0, hfz10_1, hfz10_2, hfz10_3⟩ := Sh.b4 BK851.out) | (go_at_call 79; (with_reducible refine (impl_Program_states.calls a0_0 a0_1 _ _ l0_2 _ _ l0_3 t853 _ (Sh.cB HR0_2.out) HC0_2.out (Sh.cB HR0_3.out) HC0_3.out A6.out).mono ?_); rintro e w11 ⟨rfl, hb⟩; replace BK851 := Sh.ab BK851 hb; replace HB := Sh.hb hb; (try clear hb); (try clear hb2); (try clear hk); (try clear hi)))
   go_ret
   exact ⟨Sh.eR, Sh.bw⟩
  ·rw [if_neg c5] at H
   have c5b0 : decide (0 ≤ a1) = false := decide_eq_false c5
   clear c5
   obtain rfl := Option.some.inj H
   go_enter Tryz.func42, Tryz.ntmps42
   go_wp2_with (first | ((with_reducible refine Sh.d 2 ?_); refine Sh.bz w (N := 2) (cs := #[.int .i64 a0_0, .int .i64 a0_1, .slice A0_2 l0_2.length c0_2, .slice A0_3 l0_3.length c0_3]) (t := 33) (h := ?_); clear HB; intro gb851 w12 BK851 GE851 HB; obtain ⟨hcz13_0, hcz13_1, hcz13_2, hcz13_3, hfz13_0, hfz13_1, hfz13_2, hfz13_3⟩ := Sh.b4 BK851.out) | ((with_reducible refine Sh.k 63 ?_); refine Sh.gB (some 6) Tryz.func63 #[.agg #[.int .i64 a0_0, .int .i64 a0_1, .slice A0_2 l0_2.length c0_2, .slice A0_3 l0_3.length c0_3]] (impl_isSmall.calls k a0_0 a0_1 _ _ l0_2 _ _ l0_3 true _ (Sh.cB HR0_2.out) HC0_2.out (Sh.cB HR0_3.out) HC0_3.out A3.out) fun w14 hb => ?_; replace BK851 := Sh.ab BK851 hb; replace HB := Sh.hb hb; (try clear hb); (try clear hb2); (try clear hk); (try clear hi)))
   go_ret
   exact ⟨Sh.eR, Sh.bw⟩
 ·replace c4 := Bool.eq_false_iff.mpr c4
  subst c4
  rw [Sh.nf] at H
  obtain rfl := Option.some.inj H
  go_enter Tryz.func42, Tryz.ntmps42
  go_wp2_with (first | ((with_reducible refine Sh.d 2 ?_); refine Sh.bz w (N := 2) (cs := #[.int .i64 a0_0, .int .i64 a0_1, .slice A0_2 l0_2.length c0_2, .slice A0_3 l0_3.length c0_3]) (t := 33) (h := ?_); clear HB; intro gb851 w15 BK851 GE851 HB; obtain ⟨hcz16_0, hcz16_1, hcz16_2, hcz16_3, hfz16_0, hfz16_1, hfz16_2, hfz16_3⟩ := Sh.b4 BK851.out) | ((with_reducible refine Sh.k 63 ?_); refine Sh.gB (some 6) Tryz.func63 #[.agg #[.int .i64 a0_0, .int .i64 a0_1, .slice A0_2 l0_2.length c0_2, .slice A0_3 l0_3.length c0_3]] (impl_isSmall.calls k a0_0 a0_1 _ _ l0_2 _ _ l0_3 false _ (Sh.cB HR0_2.out) HC0_2.out (Sh.cB HR0_3.out) HC0_3.out A3.out) fun w17 hb => ?_; replace BK851 := Sh.ab BK851 hb; replace HB := Sh.hb hb; (try clear hb); (try clear hb2); (try clear hk); (try clear hi)))
  go_ret
  exact ⟨Sh.eR, Sh.bw⟩
mutual
def spec_StepsTo.j0 : Nat → Int → Bool → Int → Int → List (S79) → List (S95) → Option (Int × Bool)
 | 0, _, _, _, _, _, _ => none
 | k + 1, x1, x17, x885000, x885001, x885002, x885003 => if x17 = true then (some (0, false)) else ((spec_l8Those.f k x885000 x885001 x885002 x885003 x885002).bind fun t890 => (spec_StepsTo.l0 k x1 t890 0 x885000 x885001 x885002 x885003))
def spec_StepsTo.l0 : Nat → Int → List Int → Int → Int → Int → List (S79) → List (S95) → Option (Int × Bool)
 | 0, _, _, _, _, _, _, _ => none
 | k + 1, x1, x6, x7, x885000, x885001, x885002, x885003 => (spec_l1Has.f k x6 x1).bind fun t893 => (if t893 = true then (some (x7, true)) else ((spec_l8After.f k x885000 x885001 x885002 x885003 x6).bind fun t894 => ((spec_l8Union.f k x6 t894).bind fun t897 => (spec_StepsTo.l0 k x1 t897 (wrap64 (x7 + 1)) x885000 x885001 x885002 x885003))))
end
def spec_StepsTo.f (k : Nat) (a0_0 : Int) (a0_1 : Int) (l0_2 : List (S79)) (l0_3 : List (S95)) (a1 : Int) : Option (Int × Bool) := (spec_l7Small.f k a0_0 a0_1 l0_2 l0_3).bind fun t885 => (if t885 = true then ((spec_l8Reach.f k a0_0 a0_1 l0_2 l0_3).bind fun t886 => ((spec_l1Has.f k t886 a1).bind fun t889 => (spec_StepsTo.j0 k a1 (!t889) a0_0 a0_1 l0_2 l0_3))) else (spec_StepsTo.j0 k a1 true a0_0 a0_1 l0_2 l0_3))
theorem spec_StepsTo.mono_l : ∀ k, (∀ y0 y1 y2 y3 y4 y5, LeO (spec_StepsTo.j0 k y0 y1 y2 y3 y4 y5) (spec_StepsTo.j0 (k + 1) y0 y1 y2 y3 y4 y5)) ∧ (∀ y0 y1 y2 y3 y4 y5 y6, LeO (spec_StepsTo.l0 k y0 y1 y2 y3 y4 y5 y6) (spec_StepsTo.l0 (k + 1) y0 y1 y2 y3 y4 y5 y6))
 | 0 => ⟨fun _ _ _ _ _ _ r h => by simp [spec_StepsTo.j0] at h, fun _ _ _ _ _ _ _ r h => by simp [spec_StepsTo.l0] at h⟩
 | k + 1 => by
  obtain ⟨ih0, ih1⟩ := spec_StepsTo.mono_l k
  and_intros <;> intros
  all_goals (first | unfold spec_StepsTo.j0 | unfold spec_StepsTo.l0)
  all_goals repeat' with_reducible first | apply ih0 | apply ih1 | apply spec_l1Has.mono | apply spec_l7Small.mono | apply spec_l8After.mono | apply spec_l8Reach.mono | apply spec_l8Those.mono | apply spec_l8Union.mono | exact LeO.refl _ | exact LeO.none _ | apply LeO.ite | refine LeO.bind ?_ fun _ => ?_
theorem spec_StepsTo.mono : ∀ a0 a1 a2 a3 a4 k, LeO (spec_StepsTo.f k a0 a1 a2 a3 a4) (spec_StepsTo.f (k + 1) a0 a1 a2 a3 a4) := by
 intro a0 a1 a2 a3 a4 k
 obtain ⟨ih0, ih1⟩ := spec_StepsTo.mono_l k
 unfold spec_StepsTo.f
 repeat' with_reducible first | apply ih0 | apply ih1 | apply spec_l1Has.mono | apply spec_l7Small.mono | apply spec_l8After.mono | apply spec_l8Reach.mono | apply spec_l8Those.mono | apply spec_l8Union.mono | exact LeO.refl _ | exact LeO.none _ | apply LeO.ite | refine LeO.bind ?_ fun _ => ?_
theorem spec_StepsTo.calls (k : Nat) (a0_0 : Int) (a0_1 : Int) (A0_2 : Option Addr) (c0_2 : Nat) (l0_2 : List (S79)) (A0_3 : Option Addr) (c0_3 : Nat) (l0_3 : List (S95)) (a1 : Int) (r1 : Int) (r2 : Bool) (w : World) (hr0_2 : Kd.C k79 w A0_2 l0_2.length l0_2) (hc0_2 : l0_2.length ≤ c0_2) (hr0_3 : Kd.C k95 w A0_3 l0_3.length l0_3) (hc0_3 : l0_3.length ≤ c0_3) (h : spec_StepsTo.f k a0_0 a0_1 l0_2 l0_3 a1 = some (r1, r2)) :
  Calls Tryz.prog 28 #[.agg #[.int .i64 a0_0, .int .i64 a0_1, .slice A0_2 l0_2.length c0_2, .slice A0_3 l0_3.length c0_3], .int .i64 a1] w fun e w' => e = .returned (.tuple #[.int .i64 r1, .bool r2]) ∧ Below w.heap.size w w' := by
 have hu33 := Tryz.underlying33
 have HR0_2 := am_ hr0_2
 have HC0_2 := am_ hc0_2
 clear hr0_2 hc0_2
 have HR0_3 := am_ hr0_3
 have HC0_3 := am_ hc0_3
 clear hr0_3 hc0_3
 have HB := am_ (Below.refl w.heap.size w)
 have H := h
 clear h
 unfold spec_StepsTo.f at H
 have HC3 := am_ H
 clear H
 go_enter Tryz.func28, Tryz.ntmps28
 go_upto_region 1 with (first | ((with_reducible refine Sh.d 2 ?_); refine Sh.bz w (N := 2) (cs := #[.int .i64 a0_0, .int .i64 a0_1, .slice A0_2 l0_2.length c0_2, .slice A0_3 l0_3.length c0_3]) (t := 33) (h := ?_); clear HB; intro gb884 w4 BK884 GE884 HB))
 (try simp only [Act.put, List.setIfInBounds_toArray, List.set_cons_zero, List.set_cons_succ])
 go_cut [17] (fun v17 wc => ∃ (kq : Nat) (x17_2 : Bool), v17 = .bool x17_2 ∧ Aside0 (spec_StepsTo.j0 kq a1 x17_2 a0_0 a0_1 l0_2 l0_3 = some (r1, r2)) ∧ Aside0 (kq ≤ k) ∧ Aside0 (wc.heap[gb884]? = some (.cells #[.int .i64 a0_0, .int .i64 a0_1, (.slice A0_2 l0_2.length c0_2), (.slice A0_3 l0_3.length c0_3)] 33 (0, 0))) ∧ Aside0 (Below w.heap.size w wc))
 case first =>
  have H := HC3.out
  clear HC3
  obtain ⟨t885, A5, H⟩ := Sh.ba H
  by_cases c6 : t885 = true
  ·subst c6
   rw [if_pos rfl] at H
   obtain ⟨t886, A7, H⟩ := Sh.ba H
   obtain ⟨t889, A8, H⟩ := Sh.ba H
   have H' := am_ H
   clear H
   have hcz9_0 := Sh.bc BK884.out 0
   have hcz9_1 := Sh.bc BK884.out 1
   have hcz9_2 := Sh.bc BK884.out 2
   have hcz9_3 := Sh.bc BK884.out 3
   have hfz9_0 := blk_frozen BK884.out 0
   have hfz9_1 := blk_frozen BK884.out 1
   have hfz9_2 := blk_frozen BK884.out 2
   have hfz9_3 := blk_frozen BK884.out 3
   go_wp2_with (first | ((with_reducible refine Sh.k 47 ?_); refine Sh.gB (some 9) Tryz.func47 #[.agg #[.int .i64 a0_0, .int .i64 a0_1, .slice A0_2 l0_2.length c0_2, .slice A0_3 l0_3.length c0_3]] (spec_l7Small.calls k a0_0 a0_1 _ _ l0_2 _ _ l0_3 true _ (Sh.cB HR0_2.out) HC0_2.out (Sh.cB HR0_3.out) HC0_3.out A5.out) fun w10 hb => ?_; replace BK884 := Sh.ab BK884 hb; replace HB := Sh.hb hb; (try clear hb); (try clear hb2); (try clear hk); (try clear hi); obtain ⟨hcz11_0, hcz11_1, hcz11_2, hcz11_3, hfz11_0, hfz11_1, hfz11_2, hfz11_3⟩ := Sh.b4 BK884.out) | (go_at_call 59; (with_reducible refine (spec_l8Reach.calls k a0_0 a0_1 _ _ l0_2 _ _ l0_3 t886 _ (Sh.cB HR0_2.out) HC0_2.out (Sh.cB HR0_3.out) HC0_3.out A7.out).mono ?_); rintro e w12 ⟨v887, rfl, ho0, hb⟩; have HO888 := am_ (Kd.R_lower ho0 (below_size Sh.bw)); replace BK884 := Sh.ab BK884 hb; replace HB := Sh.hb hb; (try clear hb); (try clear hb2); (try clear hk); (try clear hi); (try clear ho0); obtain ⟨Ao13, co13, eo13⟩ := Kd.R_slice HO888.out; subst eo13) | (go_at_call 51; (with_reducible refine (spec_l1Has.calls k _ _ t886 a1 t889 _ (Sh.cR (Kd.R_reads' HO888.out).2.2) (Kd.R_reads' HO888.out).2.1 A8.out).mono ?_); rintro e w' ⟨rfl, ⟨nd, rfl⟩⟩))
   go_meet
   case rel => exact ⟨_, (!t889), (Sh.es), H', ⟨Sh.om⟩, ⟨by refine Sh.pl ?_; exact BK884.out⟩, ⟨Sh.bw⟩⟩
  ·replace c6 := Bool.eq_false_iff.mpr c6
   subst c6
   rw [Sh.nf] at H
   have H' := am_ H
   clear H
   have hcz14_0 := Sh.bc BK884.out 0
   have hcz14_1 := Sh.bc BK884.out 1
   have hcz14_2 := Sh.bc BK884.out 2
   have hcz14_3 := Sh.bc BK884.out 3
   have hfz14_0 := blk_frozen BK884.out 0
   have hfz14_1 := blk_frozen BK884.out 1
   have hfz14_2 := blk_frozen BK884.out 2
   have hfz14_3 := blk_frozen BK884.out 3
   go_wp2_with (first | ((with_reducible refine Sh.k 47 ?_); refine Sh.gB (some 9) Tryz.func47 #[.agg #[.int .i64 a0_0, .int .i64 a0_1, .slice A0_2 l0_2.length c0_2, .slice A0_3 l0_3.length c0_3]] (spec_l7Small.calls k a0_0 a0_1 _ _ l0_2 _ _ l0_3 false _ (Sh.cB HR0_2.out) HC0_2.out (Sh.cB HR0_3.out) HC0_3.out A5.out) fun w15 hb => ?_; replace BK884 := Sh.ab BK884 hb; replace HB := Sh.hb hb; (try clear hb); (try clear hb2); (try clear hk); (try clear hi)))
   go_meet
   case rel => exact ⟨_, (true), (Sh.es), H', ⟨Sh.om⟩, ⟨by refine Sh.pl ?_; exact BK884.out⟩, ⟨Sh.bw⟩⟩
 case rest =>
  clear HC3
  try clear hcz11_0
  try clear hcz11_1
  try clear hcz11_2
  try clear hcz11_3
  try clear hcz14_0
  try clear hcz14_1
  try clear hcz14_2
  try clear hcz14_3
  try clear hcz9_0
  try clear hcz9_1
  try clear hcz9_2
  try clear hcz9_3
  try clear hfz11_0
  try clear hfz11_1
  try clear hfz11_2
  try clear hfz11_3
  try clear hfz14_0
  try clear hfz14_1
  try clear hfz14_2
  try clear hfz14_3
  try clear hfz9_0
  try clear hfz9_1
  try clear hfz9_2
  try clear hfz9_3
  obtain ⟨kq, x17_2, rfl, HA, HJ2, BK884, HB⟩ := hcut
  cases kq with
  | zero => exact absurd HA.out (by simp [spec_StepsTo.j0])
  | succ kj2 =>
   have H := HA.out
   clear HA
   simp only [spec_StepsTo.j0] at H
   by_cases c16 : x17_2 = true
   ·subst c16
    rw [if_pos rfl] at H
    simp only [Option.some.injEq, Prod.mk.injEq] at H
    obtain ⟨rfl, rfl⟩ := H
    go_wp2
    go_ret2
    exact ⟨Sh.eR, Sh.bw⟩
   ·replace c16 := Bool.eq_false_iff.mpr c16
    subst c16
    rw [Sh.nf] at H
    obtain ⟨t890, A17, H⟩ := Sh.ba H
    have H' := am_ H
    clear H
    have hcz18_0 := Sh.bc BK884.out 0
    have hcz18_1 := Sh.bc BK884.out 1
    have hcz18_2 := Sh.bc BK884.out 2
    have hcz18_3 := Sh.bc BK884.out 3
    have hfz18_0 := blk_frozen BK884.out 0
    have hfz18_1 := blk_frozen BK884.out 1
    have hfz18_2 := blk_frozen BK884.out 2
    have hfz18_3 := blk_frozen BK884.out 3
    go_wp2_with (first | ((with_reducible refine Sh.k 52 ?_); refine Sh.gL (some 21) Tryz.func52 #[.agg #[.int .i64 a0_0, .int .i64 a0_1, .slice A0_2 l0_2.length c0_2, .slice A0_3 l0_3.length c0_3], .slice A0_2 l0_2.length c0_2] (h := ?_); (with_reducible refine (spec_l8Those.calls kj2 a0_0 a0_1 _ _ l0_2 _ _ l0_3 _ _ l0_2 t890 _ (Sh.cB HR0_2.out) HC0_2.out (Sh.cB HR0_3.out) HC0_3.out (Sh.cB HR0_2.out) HC0_2.out A17.out).mono ?_); rintro e w19 ⟨v891, rfl, ho0, hb⟩; refine ⟨_, rfl, ?_⟩; have HO892 := am_ (Kd.R_lower ho0 (below_size Sh.bw)); replace BK884 := Sh.ab BK884 hb; replace HB := Sh.hb hb; (try clear hb); (try clear hb2); (try clear hk); (try clear hi); (try clear ho0)))
    go_loopg [6, 7] kj2 (fun kq v6 v7 w' => ∃ (x6_2 : List Int) (x7_2 : Int), v7 = .int .i64 x7_2 ∧ Aside0 (spec_StepsTo.l0 kq a1 x6_2 x7_2 a0_0 a0_1 l0_2 l0_3 = some (r1, r2)) ∧ Aside0 (kq ≤ kj2) ∧ Aside0 (Kd.R (Kd.int .i64) 3 w' w.heap.size (fun _ => True) v6 x6_2) ∧ Aside0 (w'.heap[gb884]? = some (.cells #[.int .i64 a0_0, .int .i64 a0_1, (.slice A0_2 l0_2.length c0_2), (.slice A0_3 l0_3.length c0_3)] 33 (0, 0))) ∧ Aside0 (Below w.heap.size w w'))
    case atStart => exact ⟨(t890), (0), (Sh.es), H', ⟨Nat.le_refl _⟩, ⟨Sh.rl HO892.out⟩, ⟨by refine Sh.pl ?_; exact BK884.out⟩, ⟨Sh.bw⟩⟩
    case round =>
     clear H'
     try clear hcz11_0
     try clear hcz11_1
     try clear hcz11_2
     try clear hcz11_3
     try clear hcz14_0
     try clear hcz14_1
     try clear hcz14_2
     try clear hcz14_3
     try clear hcz18_0
     try clear hcz18_1
     try clear hcz18_2
     try clear hcz18_3
     try clear hcz9_0
     try clear hcz9_1
     try clear hcz9_2
     try clear hcz9_3
     try clear hfz11_0
     try clear hfz11_1
     try clear hfz11_2
     try clear hfz11_3
     try clear hfz14_0
     try clear hfz14_1
     try clear hfz14_2
     try clear hfz14_3
     try clear hfz18_0
     try clear hfz18_1
     try clear hfz18_2
     try clear hfz18_3
     try clear hfz9_0
     try clear hfz9_1
     try clear hfz9_2
     try clear hfz9_3
     obtain ⟨x6_2, x7_2, rfl, HA, HK2, HO_6, BK884, HB⟩ := hrel
     cases gk with
     | zero => exact absurd HA.out (by simp [spec_StepsTo.l0])
     | succ k2 =>
      have H := HA.out
      clear HA
      simp only [spec_StepsTo.l0] at H
      obtain ⟨t893, A20, H⟩ := Sh.ba H
      by_cases c21 : t893 = true
      ·subst c21
       rw [if_pos rfl] at H
       simp only [Option.some.injEq, Prod.mk.injEq] at H
       obtain ⟨rfl, rfl⟩ := H
       obtain ⟨Ao22, co22, eo22⟩ := Kd.R_slice HO_6.out
       subst eo22
       go_wp2_with (first | ((with_reducible refine Sh.k 51 ?_); refine Sh.gD (some 24) Tryz.func51 #[.slice Ao22 x6_2.length co22, .int .i64 a1] (spec_l1Has.calls k2 _ _ x6_2 a1 true _ (Sh.cR (Kd.R_reads' HO_6.out).2.2) (Kd.R_reads' HO_6.out).2.1 A20.out) fun nd => ?_))
       go_ret2
       exact ⟨Sh.eR, Sh.bw⟩
      ·replace c21 := Bool.eq_false_iff.mpr c21
       subst c21
       rw [Sh.nf] at H
       obtain ⟨t894, A23, H⟩ := Sh.ba H
       obtain ⟨t897, A24, H⟩ := Sh.ba H
       have H' := am_ H
       clear H
       obtain ⟨Ao25, co25, eo25⟩ := Kd.R_slice HO_6.out
       subst eo25
       go_wp2_with (first | ((with_reducible refine Sh.k 51 ?_); refine Sh.gD (some 24) Tryz.func51 #[.slice Ao25 x6_2.length co25, .int .i64 a1] (spec_l1Has.calls k2 _ _ x6_2 a1 false _ (Sh.cR (Kd.R_reads' HO_6.out).2.2) (Kd.R_reads' HO_6.out).2.1 A20.out) fun nd => ?_; obtain ⟨hcz26_0, hcz26_1, hcz26_2, hcz26_3, hfz26_0, hfz26_1, hfz26_2, hfz26_3⟩ := Sh.b4 BK884.out) | ((with_reducible refine Sh.k 69 ?_); refine Sh.gL (some 29) Tryz.func69 #[.agg #[.int .i64 a0_0, .int .i64 a0_1, .slice A0_2 l0_2.length c0_2, .slice A0_3 l0_3.length c0_3], .slice Ao25 x6_2.length co25] (h := ?_); (with_reducible refine (spec_l8After.calls k2 a0_0 a0_1 _ _ l0_2 _ _ l0_3 _ _ x6_2 t894 _ (Sh.cB HR0_2.out) HC0_2.out (Sh.cB HR0_3.out) HC0_3.out (Sh.cR (Kd.R_reads' HO_6.out).2.2) ((Kd.R_reads' HO_6.out).2.1) A23.out).mono ?_); rintro e w27 ⟨v895, rfl, ho0, hb⟩; refine ⟨_, rfl, ?_⟩; have HO896 := am_ (Kd.R_lower (Kd.R_new' ho0 (Kd.R_lt (Sh.rl HO_6.out))) (below_size Sh.bw)); replace HO_6 := am_ (Kd.R_elder' (Sh.rl HO_6.out) (Kd.R_base ho0) hb); replace BK884 := Sh.ab BK884 hb; replace HB := Sh.hb hb; (try clear hb); (try clear hb2); (try clear hk); (try clear hi); (try clear ho0); obtain ⟨Ao28, co28, eo28⟩ := Kd.R_slice HO896.out; subst eo28) | ((with_reducible refine Sh.k 68 ?_); refine Sh.gL (some 30) Tryz.func68 #[.slice Ao25 x6_2.length co25, .slice Ao28 t894.length co28] (h := ?_); (with_reducible refine (spec_l8Union.calls k2 _ _ x6_2 _ _ t894 t897 _ (Sh.cR (Kd.R_reads' HO_6.out).2.2) (Kd.R_reads' HO_6.out).2.1 (Sh.cR (Kd.R_reads' HO896.out).2.2) (Kd.R_reads' HO896.out).2.1 A24.out).mono ?_); rintro e w29 ⟨v898, rfl, ho0, hb⟩; refine ⟨_, rfl, ?_⟩; have HO899 := am_ (Kd.R_lower (Kd.R_new' (Kd.R_new' ho0 (Kd.R_lt (Sh.rl HO_6.out))) (Kd.R_lt (Sh.rl HO896.out))) (below_size Sh.bw)); replace HO_6 := am_ (Kd.R_elder' (Sh.rl HO_6.out) (Kd.R_base ho0) hb); replace HO896 := am_ (Kd.R_elder' (Sh.rl HO896.out) (Kd.R_base ho0) hb); replace BK884 := Sh.ab BK884 hb; replace HB := Sh.hb hb; (try clear hb); (try clear hb2); (try clear hk); (try clear hi); (try clear ho0)))
       go_roundg k2
       case measure => have := HJ2.out; have := HK2.out; omega
       case rel => exact ⟨(t897), (wrap64 (x7_2 + 1)), (Sh.es), H', ⟨by have := HJ2.out; have := HK2.out; omega⟩, ⟨Sh.rl (Kd.R_mono HO899.out (fun _ hk => trivial))⟩, ⟨by refine Sh.pl ?_; exact BK884.out⟩, ⟨Sh.bw⟩⟩
def impl_StepsTo.f (k : Nat) (a0_0 : Int) (a0_1 : Int) (l0_2 : List (S79)) (l0_3 : List (S95)) (a1 : Int) : Option (Int × Bool) := (impl_isNo.f k a0_0 a0_1 l0_2 l0_3 a1).bind fun t978 => (if t978 = true then ((impl_Program_graph.f k a0_0 a0_1 l0_2 l0_3).bind fun t979 => ((impl_Program_where.f k a0_0 a0_1 l0_2 l0_3 l0_2).bind fun t982 => ((impl_stepsFrom.f k t979 t982).bind fun t985 => (if 0 ≤ a1 then (if a1 < (t985.length : Int) then (if (rd t985 a1) < 0 then (some (0, false)) else (some (rd t985 a1, true))) else (none)) else (none))))) else (some (0, false)))
theorem impl_StepsTo.mono : ∀ a0 a1 a2 a3 a4 k, LeO (impl_StepsTo.f k a0 a1 a2 a3 a4) (impl_StepsTo.f (k + 1) a0 a1 a2 a3 a4) := by
 intro a0 a1 a2 a3 a4 k
 unfold impl_StepsTo.f
 repeat' with_reducible first | apply impl_Program_graph.mono | apply impl_Program_where.mono | apply impl_isNo.mono | apply impl_stepsFrom.mono | exact LeO.refl _ | exact LeO.none _ | apply LeO.ite | refine LeO.bind ?_ fun _ => ?_
def impl_StepsTo.T3 : Bool × List (List Nat × List Nat) := (true, [([], []), ([0], [0]), ([], []), ([], []), ([3], [3]), ([2, 4, 1], [2, 4]), ([1, 5, 5], [1, 5]), ([], []), ([6, 7], [6, 7]), ([8], [8]), ([9, 6, 0, 1, 2, 3, 4, 5, 6, 7, 8, 9], [9])])
def impl_StepsTo.B3 : List Nat := [0, 1, 0, 0, 8, 31, 63, 0, 255, 511, 1023]
theorem impl_StepsTo.tab3 : rtab .any (opsOf Tryz.f29 3) = impl_StepsTo.T3 := by kernel_rfl
theorem impl_StepsTo.bits3 : waitsOk impl_StepsTo.T3.2 impl_StepsTo.B3 = true := by kernel_rfl
theorem impl_StepsTo.calls (k : Nat) (a0_0 : Int) (a0_1 : Int) (A0_2 : Option Addr) (c0_2 : Nat) (l0_2 : List (S79)) (A0_3 : Option Addr) (c0_3 : Nat) (l0_3 : List (S95)) (a1 : Int) (r1 : Int) (r2 : Bool) (w : World) (hr0_2 : Kd.C k79 w A0_2 l0_2.length l0_2) (hc0_2 : l0_2.length ≤ c0_2) (hr0_3 : Kd.C k95 w A0_3 l0_3.length l0_3) (hc0_3 : l0_3.length ≤ c0_3) (h : impl_StepsTo.f k a0_0 a0_1 l0_2 l0_3 a1 = some (r1, r2)) :
  Calls Tryz.prog 29 #[.agg #[.int .i64 a0_0, .int .i64 a0_1, .slice A0_2 l0_2.length c0_2, .slice A0_3 l0_3.length c0_3], .int .i64 a1] w fun e w' => e = .returned (.tuple #[.int .i64 r1, .bool r2]) ∧ Below w.heap.size w w' := by
 have hu33 := Tryz.underlying33
 have HR0_2 := am_ hr0_2
 have HC0_2 := am_ hc0_2
 clear hr0_2 hc0_2
 have HR0_3 := am_ hr0_3
 have HC0_3 := am_ hc0_3
 clear hr0_3 hc0_3
 have HB := am_ (Below.refl w.heap.size w)
 have H := h
 clear h
 unfold impl_StepsTo.f at H
 obtain ⟨t978, A3, H⟩ := Sh.ba H
 by_cases c4 : t978 = true
 ·subst c4
  rw [if_pos rfl] at H
  obtain ⟨t979, A5, H⟩ := Sh.ba H
  obtain ⟨t982, A6, H⟩ := Sh.ba H
  obtain ⟨t985, A7, H⟩ := Sh.ba H
  by_cases c8 : 0 ≤ a1
  ·rw [if_pos c8] at H
   have c8b0 := decide_eq_true c8
   clear c8
   by_cases c9 : a1 < (t985.length : Int)
   ·rw [if_pos c9] at H
    have c9b0 := decide_eq_true c9
    clear c9
    by_cases c10 : (rd t985 a1) < 0
    ·rw [if_pos c10] at H
     have c10b0 := decide_eq_true c10
     clear c10
     simp only [Option.some.injEq, Prod.mk.injEq] at H
     obtain ⟨rfl, rfl⟩ := H
     go_enter Tryz.func29, Tryz.ntmps29
     try go_wp2_with (first | ((with_reducible refine Sh.d 2 ?_); refine Sh.bz w (N := 2) (cs := #[.int .i64 a0_0, .int .i64 a0_1, .slice A0_2 l0_2.length c0_2, .slice A0_3 l0_3.length c0_3]) (t := 33) (h := ?_); clear HB; intro gb977 w11 BK977 GE977 HB; obtain ⟨hcz12_0, hcz12_1, hcz12_2, hcz12_3, hfz12_0, hfz12_1, hfz12_2, hfz12_3⟩ := Sh.b4 BK977.out) | ((with_reducible refine Sh.k 42 ?_); refine Sh.gB (some 9) Tryz.func42 #[.agg #[.int .i64 a0_0, .int .i64 a0_1, .slice A0_2 l0_2.length c0_2, .slice A0_3 l0_3.length c0_3], .int .i64 a1] (impl_isNo.calls k a0_0 a0_1 _ _ l0_2 _ _ l0_3 a1 true _ (Sh.cB HR0_2.out) HC0_2.out (Sh.cB HR0_3.out) HC0_3.out A3.out) fun w13 hb => ?_; replace BK977 := Sh.ab BK977 hb; replace HB := Sh.hb hb; (try clear hb); (try clear hb2); (try clear hk); (try clear hi)))
     replace BK977 := am_ (blk_drew BK977.out)
     replace HB := am_ (below_drew1 HB.out)
     refine start_ (n := 11) (S := fun w' => w'.cell? ⟨gb977, 0, none⟩ = some (.int .i64 a0_0) ∧ w'.cell? ⟨gb977, 1, none⟩ = some (.int .i64 a0_1) ∧ w'.cell? ⟨gb977, 2, none⟩ = some (.slice A0_2 l0_2.length c0_2) ∧ w'.cell? ⟨gb977, 3, none⟩ = some (.slice A0_3 l0_3.length c0_3)) (ds := []) (Sh.nm 11 0) (by kernel_rfl) rfl rfl ⟨(blk_cell BK977.out 0).trans rfl, (blk_cell BK977.out 1).trans rfl, (blk_cell BK977.out 2).trans rfl, (blk_cell BK977.out 3).trans rfl⟩ (fun hHeld => ?_); refine with_tabW impl_StepsTo.tab3 impl_StepsTo.bits3 (fun HT_ HW_ => ?_)
     generalize w13.drew = w14 at BK977 HB hHeld ⊢
     refine Sh.qA 3 ?_; refine Sh.qA 7 ?_; refine Sh.qT 0 hHeld ?_; refine Sh.qT 2 hHeld ?_; refine Sh.qT 4 hHeld ?_
     refine Sh.oC 1 Tryz.func71 #[.agg #[.int .i64 a0_0, .int .i64 a0_1, .slice A0_2 l0_2.length c0_2, .slice A0_3 l0_3.length c0_3]] fun K hK => ?_
     with_reducible refine (impl_Program_graph.calls k a0_0 a0_1 _ _ l0_2 _ _ l0_3 t979 _ (Sh.cB HR0_2.out) HC0_2.out (Sh.cB HR0_3.out) HC0_3.out A5.out).mono ?_
     rintro e w15 ⟨v980, rfl, ho0, hb⟩
     refine ⟨_, rfl, ?_⟩
     have HO981 := am_ (Kd.S_lower ho0 (below_size Sh.bw))
     replace BK977 := Sh.ab BK977 hb
     replace HB := Sh.hb hb
     (try clear hb)
     (try clear hb2)
     (try clear hk)
     (try clear hi)
     (try clear ho0)
     refine Sh.kN hK ⟨(blk_cell BK977.out 0).trans rfl, (blk_cell BK977.out 1).trans rfl, (blk_cell BK977.out 2).trans rfl, (blk_cell BK977.out 3).trans rfl⟩ fun hHeld => ?_
     clear hK K
     refine Sh.oC 5 Tryz.func72 #[.agg #[.int .i64 a0_0, .int .i64 a0_1, .slice A0_2 l0_2.length c0_2, .slice A0_3 l0_3.length c0_3], .slice A0_2 l0_2.length c0_2] fun K hK => ?_
     with_reducible refine (impl_Program_where.calls k a0_0 a0_1 _ _ l0_2 _ _ l0_3 _ _ l0_2 t982 _ (Sh.cB HR0_2.out) HC0_2.out (Sh.cB HR0_3.out) HC0_3.out (Sh.cB HR0_2.out) HC0_2.out A6.out).mono ?_
     rintro e w16 ⟨v983, rfl, ho0, hb⟩
     refine ⟨_, rfl, ?_⟩
     replace HO981 := am_ (Kd.S_elder' (by (with_reducible repeat (first | apply Kd.S_alloc | apply Kd.S_drewN | apply Kd.S_drew)); exact HO981.out) (Kd.R_base ho0) hb)
     have HO984 := am_ (Kd.R_lower ho0 (below_size Sh.bw))
     replace BK977 := Sh.ab BK977 hb
     replace HB := Sh.hb hb
     (try clear hb)
     (try clear hb2)
     (try clear hk)
     (try clear hi)
     (try clear ho0)
     obtain ⟨Ao17, co17, eo17⟩ := Kd.S_slice HO981.out
     (first | subst eo17 | (injection eo17 with f1_ f2_ f3_; have f4_ := f1_.symm; have f5_ := f3_.symm; clear f1_ f2_ f3_; subst f4_; subst f5_))
     obtain ⟨Ao18, co18, eo18⟩ := Kd.R_slice HO984.out
     (first | subst eo18 | (injection eo18 with f1_ f2_ f3_; have f4_ := f1_.symm; have f5_ := f3_.symm; clear f1_ f2_ f3_; subst f4_; subst f5_))
     refine Sh.kN hK ⟨(blk_cell BK977.out 0).trans rfl, (blk_cell BK977.out 1).trans rfl, (blk_cell BK977.out 2).trans rfl, (blk_cell BK977.out 3).trans rfl⟩ fun hHeld => ?_
     clear hK K
     refine Sh.oC 6 Tryz.func70 #[.slice Ao17 t979.length co17, .slice Ao18 t982.length co18] fun K hK => ?_
     with_reducible refine (impl_stepsFrom.calls k _ _ t979 _ _ t982 t985 _ (Sh.cR (Kd.S_reads' HO981.out).2.2) (Kd.S_reads' HO981.out).2.1 (Sh.cR (Kd.R_reads' HO984.out).2.2) (Kd.R_reads' HO984.out).2.1 A7.out).mono ?_
     rintro e w19 ⟨v986, rfl, ho0, hb⟩
     refine ⟨_, rfl, ?_⟩
     replace HO981 := am_ (Kd.S_elder' (by (with_reducible repeat (first | apply Kd.S_alloc | apply Kd.S_drewN | apply Kd.S_drew)); exact HO981.out) (Kd.R_base ho0) hb)
     have HO987 := am_ (Kd.R_lower (Kd.R_new' ho0 (Kd.R_lt (Sh.rl HO984.out))) (below_size Sh.bw))
     replace HO984 := am_ (Kd.R_elder' (Sh.rl HO984.out) (Kd.R_base ho0) hb)
     replace BK977 := Sh.ab BK977 hb
     replace HB := Sh.hb hb
     (try clear hb)
     (try clear hb2)
     (try clear hk)
     (try clear hi)
     (try clear ho0)
     obtain ⟨Ao20, co20, eo20⟩ := Kd.R_slice HO987.out
     (first | subst eo20 | (injection eo20 with f1_ f2_ f3_; have f4_ := f1_.symm; have f5_ := f3_.symm; clear f1_ f2_ f3_; subst f4_; subst f5_))
     have p988 : 0 ≤ (a1 : Int) := Sh.od
     have q988 : a1 < (t985.length : Int) := Sh.od
     obtain ⟨ad988, e988, hx988_0⟩ := Kd.at_int (Kd.R_reads' HO987.out).2.2 a1 p988 q988
     cases e988
     replace p988 := eq_true p988
     replace q988 := eq_true q988
     refine Sh.kN hK ⟨(blk_cell BK977.out 0).trans rfl, (blk_cell BK977.out 1).trans rfl, (blk_cell BK977.out 2).trans rfl, (blk_cell BK977.out 3).trans rfl⟩ fun hHeld => ?_
     clear hK K
     refine Sh.qA 8 ?_; refine Sh.lO 9 hHeld ?_; refine Sh.qA 10 ?_
     refine done_ (done_of HT_.out (by kernel_rfl)) ?_
     try go_wp2
     go_ret2
     exact ⟨Sh.eR, Sh.bw⟩
    ·rw [if_neg c10] at H
     have c10b0 := decide_eq_false c10
     clear c10
     simp only [Option.some.injEq, Prod.mk.injEq] at H
     obtain ⟨rfl, rfl⟩ := H
     go_enter Tryz.func29, Tryz.ntmps29
     try go_wp2_with (first | ((with_reducible refine Sh.d 2 ?_); refine Sh.bz w (N := 2) (cs := #[.int .i64 a0_0, .int .i64 a0_1, .slice A0_2 l0_2.length c0_2, .slice A0_3 l0_3.length c0_3]) (t := 33) (h := ?_); clear HB; intro gb977 w21 BK977 GE977 HB; obtain ⟨hcz22_0, hcz22_1, hcz22_2, hcz22_3, hfz22_0, hfz22_1, hfz22_2, hfz22_3⟩ := Sh.b4 BK977.out) | ((with_reducible refine Sh.k 42 ?_); refine Sh.gB (some 9) Tryz.func42 #[.agg #[.int .i64 a0_0, .int .i64 a0_1, .slice A0_2 l0_2.length c0_2, .slice A0_3 l0_3.length c0_3], .int .i64 a1] (impl_isNo.calls k a0_0 a0_1 _ _ l0_2 _ _ l0_3 a1 true _ (Sh.cB HR0_2.out) HC0_2.out (Sh.cB HR0_3.out) HC0_3.out A3.out) fun w23 hb => ?_; replace BK977 := Sh.ab BK977 hb; replace HB := Sh.hb hb; (try clear hb); (try clear hb2); (try clear hk); (try clear hi)))
     replace BK977 := am_ (blk_drew BK977.out)
     replace HB := am_ (below_drew1 HB.out)
     refine start_ (n := 11) (S := fun w' => w'.cell? ⟨gb977, 0, none⟩ = some (.int .i64 a0_0) ∧ w'.cell? ⟨gb977, 1, none⟩ = some (.int .i64 a0_1) ∧ w'.cell? ⟨gb977, 2, none⟩ = some (.slice A0_2 l0_2.length c0_2) ∧ w'.cell? ⟨gb977, 3, none⟩ = some (.slice A0_3 l0_3.length c0_3)) (ds := []) (Sh.nm 11 0) (by kernel_rfl) rfl rfl ⟨(blk_cell BK977.out 0).trans rfl, (blk_cell BK977.out 1).trans rfl, (blk_cell BK977.out 2).trans rfl, (blk_cell BK977.out 3).trans rfl⟩ (fun hHeld => ?_); refine with_tabW impl_StepsTo.tab3 impl_StepsTo.bits3 (fun HT_ HW_ => ?_)
     generalize w23.drew = w24 at BK977 HB hHeld ⊢
     refine Sh.qA 3 ?_; refine Sh.qA 7 ?_; refine Sh.qT 0 hHeld ?_; refine Sh.qT 2 hHeld ?_; refine Sh.qT 4 hHeld ?_
     refine Sh.oC 1 Tryz.func71 #[.agg #[.int .i64 a0_0, .int .i64 a0_1, .slice A0_2 l0_2.length c0_2, .slice A0_3 l0_3.length c0_3]] fun K hK => ?_
     with_reducible refine (impl_Program_graph.calls k a0_0 a0_1 _ _ l0_2 _ _ l0_3 t979 _ (Sh.cB HR0_2.out) HC0_2.out (Sh.cB HR0_3.out) HC0_3.out A5.out).mono ?_
     rintro e w25 ⟨v980, rfl, ho0, hb⟩
     refine ⟨_, rfl, ?_⟩
     have HO981 := am_ (Kd.S_lower ho0 (below_size Sh.bw))
     replace BK977 := Sh.ab BK977 hb
     replace HB := Sh.hb hb
     (try clear hb)
     (try clear hb2)
     (try clear hk)
     (try clear hi)
     (try clear ho0)
     refine Sh.kN hK ⟨(blk_cell BK977.out 0).trans rfl, (blk_cell BK977.out 1).trans rfl, (blk_cell BK977.out 2).trans rfl, (blk_cell BK977.out 3).trans rfl⟩ fun hHeld => ?_
     clear hK K
     refine Sh.oC 5 Tryz.func72 #[.agg #[.int .i64 a0_0, .int .i64 a0_1, .slice A0_2 l0_2.length c0_2, .slice A0_3 l0_3.length c0_3], .slice A0_2 l0_2.length c0_2] fun K hK => ?_
     with_reducible refine (impl_Program_where.calls k a0_0 a0_1 _ _ l0_2 _ _ l0_3 _ _ l0_2 t982 _ (Sh.cB HR0_2.out) HC0_2.out (Sh.cB HR0_3.out) HC0_3.out (Sh.cB HR0_2.out) HC0_2.out A6.out).mono ?_
     rintro e w26 ⟨v983, rfl, ho0, hb⟩
     refine ⟨_, rfl, ?_⟩
     replace HO981 := am_ (Kd.S_elder' (by (with_reducible repeat (first | apply Kd.S_alloc | apply Kd.S_drewN | apply Kd.S_drew)); exact HO981.out) (Kd.R_base ho0) hb)
     have HO984 := am_ (Kd.R_lower ho0 (below_size Sh.bw))
     replace BK977 := Sh.ab BK977 hb
     replace HB := Sh.hb hb
     (try clear hb)
     (try clear hb2)
     (try clear hk)
     (try clear hi)
     (try clear ho0)
     obtain ⟨Ao27, co27, eo27⟩ := Kd.S_slice HO981.out
     (first | subst eo27 | (injection eo27 with f1_ f2_ f3_; have f4_ := f1_.symm; have f5_ := f3_.symm; clear f1_ f2_ f3_; subst f4_; subst f5_))
     obtain ⟨Ao28, co28, eo28⟩ := Kd.R_slice HO984.out
     (first | subst eo28 | (injection eo28 with f1_ f2_ f3_; have f4_ := f1_.symm; have f5_ := f3_.symm; clear f1_ f2_ f3_; subst f4_; subst f5_))
     refine Sh.kN hK ⟨(blk_cell BK977.out 0).trans rfl, (blk_cell BK977.out 1).trans rfl, (blk_cell BK977.out 2).trans rfl, (blk_cell BK977.out 3).trans rfl⟩ fun hHeld => ?_
     clear hK K
     refine Sh.oC 6 Tryz.func70 #[.slice Ao27 t979.length co27, .slice Ao28 t982.length co28] fun K hK => ?_
     with_reducible refine (impl_stepsFrom.calls k _ _ t979 _ _ t982 t985 _ (Sh.cR (Kd.S_reads' HO981.out).2.2) (Kd.S_reads' HO981.out).2.1 (Sh.cR (Kd.R_reads' HO984.out).2.2) (Kd.R_reads' HO984.out).2.1 A7.out).mono ?_
     rintro e w29 ⟨v986, rfl, ho0, hb⟩
     refine ⟨_, rfl, ?_⟩
     replace HO981 := am_ (Kd.S_elder' (by (with_reducible repeat (first | apply Kd.S_alloc | apply Kd.S_drewN | apply Kd.S_drew)); exact HO981.out) (Kd.R_base ho0) hb)
     have HO987 := am_ (Kd.R_lower (Kd.R_new' ho0 (Kd.R_lt (Sh.rl HO984.out))) (below_size Sh.bw))
     replace HO984 := am_ (Kd.R_elder' (Sh.rl HO984.out) (Kd.R_base ho0) hb)
     replace BK977 := Sh.ab BK977 hb
     replace HB := Sh.hb hb
     (try clear hb)
     (try clear hb2)
     (try clear hk)
     (try clear hi)
     (try clear ho0)
     obtain ⟨Ao30, co30, eo30⟩ := Kd.R_slice HO987.out
     (first | subst eo30 | (injection eo30 with f1_ f2_ f3_; have f4_ := f1_.symm; have f5_ := f3_.symm; clear f1_ f2_ f3_; subst f4_; subst f5_))
     have p988 : 0 ≤ (a1 : Int) := Sh.od
     have q988 : a1 < (t985.length : Int) := Sh.od
     obtain ⟨ad988, e988, hx988_0⟩ := Kd.at_int (Kd.R_reads' HO987.out).2.2 a1 p988 q988
     cases e988
     replace p988 := eq_true p988
     replace q988 := eq_true q988
     refine Sh.kN hK ⟨(blk_cell BK977.out 0).trans rfl, (blk_cell BK977.out 1).trans rfl, (blk_cell BK977.out 2).trans rfl, (blk_cell BK977.out 3).trans rfl⟩ fun hHeld => ?_
     clear hK K
     refine Sh.qA 8 ?_; refine Sh.lO 9 hHeld ?_; refine Sh.qA 10 ?_
     refine done_ (done_of HT_.out (by kernel_rfl)) ?_
     try go_wp2
     go_ret2
     exact ⟨Sh.eR, Sh.bw⟩
   ·rw [if_neg c9] at H
    exact absurd H (by simp)
  ·rw [if_neg c8] at H
   exact absurd H (by simp)
 ·replace c4 := Bool.eq_false_iff.mpr c4
  subst c4
  rw [Sh.nf] at H
  simp only [Option.some.injEq, Prod.mk.injEq] at H
  obtain ⟨rfl, rfl⟩ := H
  go_enter Tryz.func29, Tryz.ntmps29
  go_wp2_with (first | ((with_reducible refine Sh.d 2 ?_); refine Sh.bz w (N := 2) (cs := #[.int .i64 a0_0, .int .i64 a0_1, .slice A0_2 l0_2.length c0_2, .slice A0_3 l0_3.length c0_3]) (t := 33) (h := ?_); clear HB; intro gb977 w31 BK977 GE977 HB; obtain ⟨hcz32_0, hcz32_1, hcz32_2, hcz32_3, hfz32_0, hfz32_1, hfz32_2, hfz32_3⟩ := Sh.b4 BK977.out) | ((with_reducible refine Sh.k 42 ?_); refine Sh.gB (some 9) Tryz.func42 #[.agg #[.int .i64 a0_0, .int .i64 a0_1, .slice A0_2 l0_2.length c0_2, .slice A0_3 l0_3.length c0_3], .int .i64 a1] (impl_isNo.calls k a0_0 a0_1 _ _ l0_2 _ _ l0_3 a1 false _ (Sh.cB HR0_2.out) HC0_2.out (Sh.cB HR0_3.out) HC0_3.out A3.out) fun w33 hb => ?_; replace BK977 := Sh.ab BK977 hb; replace HB := Sh.hb hb; (try clear hb); (try clear hb2); (try clear hk); (try clear hi)))
  go_ret2
  exact ⟨Sh.eR, Sh.bw⟩
open Go.Proofs.YtngefmofelengaaGreat.Lw
def laws_FnExactStepsTo.Holds (k : Nat) (a0_0 : Int) (a0_1 : Int) (l0_2 : List (S81)) (l0_3 : List (S104)) (a1 : Int) : Prop :=
 ∃ s6 : Int, laws_szProgram.f k a0_0 a0_1 l0_2 l0_3 1048576 = some s6 ∧ ((s6 < 0) ∨ (¬ (s6 < 0)) ∧ (∃ (y9 : List (S79)) (y10 : List (S95)) (y24 : Int) (y25 : Bool), laws_toProgram.f k a0_0 a0_1 l0_2 l0_3 = some (a0_0, a0_1, y9, y10) ∧ spec_StepsTo.f k a0_0 a0_1 y9 y10 a1 = some (y24, y25) ∧ impl_StepsTo.f k a0_0 a0_1 y9 y10 a1 = some (y24, y25) ∧ laws_eqProgram.f k a0_0 a0_1 y9 y10 a0_0 a0_1 y9 y10 = some true))
theorem laws_FnExactStepsTo.calls (k : Nat) (a0_0 : Int) (a0_1 : Int) (A0_2 : Option Addr) (c0_2 : Nat) (l0_2 : List (S81)) (A0_3 : Option Addr) (c0_3 : Nat) (l0_3 : List (S104)) (a1 : Int) (w : World) (hr0_2 : Kd.C k81 w A0_2 l0_2.length l0_2) (hc0_2 : l0_2.length ≤ c0_2) (hr0_3 : Kd.C k104 w A0_3 l0_3.length l0_3) (hc0_3 : l0_3.length ≤ c0_3) (h : laws_FnExactStepsTo.Holds k a0_0 a0_1 l0_2 l0_3 a1) :
  Calls Tryz.prog 6 #[.agg #[.int .i64 a0_0, .int .i64 a0_1, .slice A0_2 l0_2.length c0_2, .slice A0_3 l0_3.length c0_3], .int .i64 a1] w fun e w' => e = .returned (.bool true) ∧ Below w.heap.size w w' := by
 have hu25 := Tryz.underlying25
 have hu33 := Tryz.underlying33
 have HR0_2 := am_ hr0_2
 have HC0_2 := am_ hc0_2
 clear hr0_2 hc0_2
 have HR0_3 := am_ hr0_3
 have HC0_3 := am_ hc0_3
 clear hr0_3 hc0_3
 have HB := am_ (Below.refl w.heap.size w)
 have NW : 0 ≤ w.heap.size := Nat.zero_le _
 obtain ⟨s6, ESs6, h⟩ := h
 replace ESs6 := am_ ESs6
 rcases h with c | ⟨c, h⟩
 ·have cb : decide (s6 < 0) = true := decide_eq_true c
  clear c
  go_enter Tryz.func6, Tryz.ntmps6
  go_wp2_with (first | ((with_reducible refine Sh.d 2 ?_); refine Sh.bx (N := 2) (cs := #[.int .i64 a0_0, .int .i64 a0_1, .slice A0_2 l0_2.length c0_2, .slice A0_3 l0_3.length c0_3]) (t := 25) (h := ?_); intro g1 hg w3 hbox hb; have BK2 := box_new (w := w) (W := w) HB.out hg hbox; have oa4 := new_g (W := w) hg NW; replace HB := am_ (below_step HB.out hb); replace NW := Nat.le_trans NW hb.size; replace NW := BK2.lt; clear hb hbox hg; have hczq5_0 : w3.cell? ⟨g1, 0, none⟩ = some (.int .i64 a0_0) := (blk_cell BK2.b 0).trans rfl; have hfzq5_0 := blk_frozen BK2.b 0; have hczq5_1 : w3.cell? ⟨g1, 1, none⟩ = some (.int .i64 a0_1) := (blk_cell BK2.b 1).trans rfl; have hfzq5_1 := blk_frozen BK2.b 1; have hczq5_2 : w3.cell? ⟨g1, 2, none⟩ = some (.slice A0_2 l0_2.length c0_2) := (blk_cell BK2.b 2).trans rfl; have hfzq5_2 := blk_frozen BK2.b 2; have hczq5_3 : w3.cell? ⟨g1, 3, none⟩ = some (.slice A0_3 l0_3.length c0_3) := (blk_cell BK2.b 3).trans rfl; have hfzq5_3 := blk_frozen BK2.b 3) | ((with_reducible refine Sh.k 11 ?_); refine Sh.gL (some 13) Tryz.func11 #[.agg #[.int .i64 a0_0, .int .i64 a0_1, .slice A0_2 l0_2.length c0_2, .slice A0_3 l0_3.length c0_3], .int .i64 1048576] (h := ?_); (with_reducible refine (laws_szProgram.calls k a0_0 a0_1 _ _ l0_2 _ _ l0_3 1048576 s6 _ (Kd.C_below HR0_2.out HB.out) HC0_2.out (Kd.C_below HR0_3.out HB.out) HC0_3.out ESs6.out).mono ?_); rintro e w7 ⟨rfl, hb⟩; refine ⟨_, rfl, ?_⟩; replace BK2 := BK2.same hb; replace HB := am_ (below_step HB.out hb); replace NW := Nat.le_trans NW hb.size; clear hb; have hczq8_0 : w7.cell? ⟨g1, 0, none⟩ = some (.int .i64 a0_0) := (blk_cell BK2.b 0).trans rfl; have hfzq8_0 := blk_frozen BK2.b 0; have hczq8_1 : w7.cell? ⟨g1, 1, none⟩ = some (.int .i64 a0_1) := (blk_cell BK2.b 1).trans rfl; have hfzq8_1 := blk_frozen BK2.b 1; have hczq8_2 : w7.cell? ⟨g1, 2, none⟩ = some (.slice A0_2 l0_2.length c0_2) := (blk_cell BK2.b 2).trans rfl; have hfzq8_2 := blk_frozen BK2.b 2; have hczq8_3 : w7.cell? ⟨g1, 3, none⟩ = some (.slice A0_3 l0_3.length c0_3) := (blk_cell BK2.b 3).trans rfl; have hfzq8_3 := blk_frozen BK2.b 3))
  go_ret
  exact ⟨rfl, HB.out⟩
 have cb0 : decide (s6 < 0) = false := decide_eq_false c
 clear c
 obtain ⟨y9, y10, y24, y25, E1, E2, E3, E4⟩ := h
 replace E1 := am_ E1
 replace E2 := am_ E2
 replace E3 := am_ E3
 replace E4 := am_ E4
 have cr1 : (y25 != y25) = false := bne_self_eq_false _
 go_enter Tryz.func6, Tryz.ntmps6
 go_upto_region 10 with (first | ((with_reducible refine Sh.d 2 ?_); refine Sh.bx (N := 2) (cs := #[.int .i64 a0_0, .int .i64 a0_1, .slice A0_2 l0_2.length c0_2, .slice A0_3 l0_3.length c0_3]) (t := 25) (h := ?_); intro g1 hg w3 hbox hb; have BK2 := box_new (w := w) (W := w) HB.out hg hbox; have oa4 := new_g (W := w) hg NW; replace HB := am_ (below_step HB.out hb); replace NW := Nat.le_trans NW hb.size; replace NW := BK2.lt; clear hb hbox hg; have hczq5_0 : w3.cell? ⟨g1, 0, none⟩ = some (.int .i64 a0_0) := (blk_cell BK2.b 0).trans rfl; have hfzq5_0 := blk_frozen BK2.b 0; have hczq5_1 : w3.cell? ⟨g1, 1, none⟩ = some (.int .i64 a0_1) := (blk_cell BK2.b 1).trans rfl; have hfzq5_1 := blk_frozen BK2.b 1; have hczq5_2 : w3.cell? ⟨g1, 2, none⟩ = some (.slice A0_2 l0_2.length c0_2) := (blk_cell BK2.b 2).trans rfl; have hfzq5_2 := blk_frozen BK2.b 2; have hczq5_3 : w3.cell? ⟨g1, 3, none⟩ = some (.slice A0_3 l0_3.length c0_3) := (blk_cell BK2.b 3).trans rfl; have hfzq5_3 := blk_frozen BK2.b 3) | ((with_reducible refine Sh.k 11 ?_); refine Sh.gL (some 13) Tryz.func11 #[.agg #[.int .i64 a0_0, .int .i64 a0_1, .slice A0_2 l0_2.length c0_2, .slice A0_3 l0_3.length c0_3], .int .i64 1048576] (h := ?_); (with_reducible refine (laws_szProgram.calls k a0_0 a0_1 _ _ l0_2 _ _ l0_3 1048576 s6 _ (Kd.C_below HR0_2.out HB.out) HC0_2.out (Kd.C_below HR0_3.out HB.out) HC0_3.out ESs6.out).mono ?_); rintro e w7 ⟨rfl, hb⟩; refine ⟨_, rfl, ?_⟩; replace BK2 := BK2.same hb; replace HB := am_ (below_step HB.out hb); replace NW := Nat.le_trans NW hb.size; clear hb; have hczq8_0 : w7.cell? ⟨g1, 0, none⟩ = some (.int .i64 a0_0) := (blk_cell BK2.b 0).trans rfl; have hfzq8_0 := blk_frozen BK2.b 0; have hczq8_1 : w7.cell? ⟨g1, 1, none⟩ = some (.int .i64 a0_1) := (blk_cell BK2.b 1).trans rfl; have hfzq8_1 := blk_frozen BK2.b 1; have hczq8_2 : w7.cell? ⟨g1, 2, none⟩ = some (.slice A0_2 l0_2.length c0_2) := (blk_cell BK2.b 2).trans rfl; have hfzq8_2 := blk_frozen BK2.b 2; have hczq8_3 : w7.cell? ⟨g1, 3, none⟩ = some (.slice A0_3 l0_3.length c0_3) := (blk_cell BK2.b 3).trans rfl; have hfzq8_3 := blk_frozen BK2.b 3) | ((with_reducible refine Sh.k 13 ?_); refine Sh.gL (some 18) Tryz.func13 #[.agg #[.int .i64 a0_0, .int .i64 a0_1, .slice A0_2 l0_2.length c0_2, .slice A0_3 l0_3.length c0_3]] (h := ?_); (with_reducible refine (laws_toProgram.calls k a0_0 a0_1 _ _ l0_2 _ _ l0_3 a0_0 a0_1 y9 y10 _ (Kd.C_below HR0_2.out HB.out) HC0_2.out (Kd.C_below HR0_3.out HB.out) HC0_3.out E1.out).mono ?_); rintro e w11 ⟨v2_, v3_, rfl, ho0, ho1, hb⟩; refine ⟨_, rfl, ?_⟩; obtain ⟨lo14, hi15, ⟨HO12, HO13⟩, oa16, ob17, NW2⟩ := new1 (F := fun lo_ hi_ => Held k79 79 w11 w.heap.size lo_ hi_ v2_ y9 ∧ Held k95 95 w11 w.heap.size lo_ hi_ v3_ y10) ⟨held_new ho0 hb HB.out, held_new ho1 hb HB.out⟩ hb NW; replace BK2 := BK2.same hb; replace HB := am_ (below_step HB.out hb); replace NW := Nat.le_trans NW hb.size; replace NW := NW2; skip; obtain ⟨A18, c19, e20⟩ := HO12.slice; subst e20; obtain ⟨A21, c22, e23⟩ := HO13.slice; subst e23; clear hb ho0 ho1) | ((with_reducible refine Sh.k 28 ?_); refine Sh.gL (some 20) Tryz.func28 #[.agg #[.int .i64 a0_0, .int .i64 a0_1, .slice A18 y9.length c19, .slice A21 y10.length c22], .int .i64 a1] (h := ?_); (with_reducible refine (spec_StepsTo.calls k a0_0 a0_1 _ _ y9 _ _ y10 a1 y24 y25 _ HO12.C HO12.c HO13.C HO13.c E2.out).mono ?_); rintro e w26 ⟨rfl, hb⟩; refine ⟨_, rfl, ?_⟩; replace BK2 := BK2.same hb; replace HO12 := HO12.same hb; replace HO13 := HO13.same hb; replace HB := am_ (below_step HB.out hb); replace NW := Nat.le_trans NW hb.size; clear hb; have hczq27_0 : w26.cell? ⟨g1, 0, none⟩ = some (.int .i64 a0_0) := (blk_cell BK2.b 0).trans rfl; have hfzq27_0 := blk_frozen BK2.b 0; have hczq27_1 : w26.cell? ⟨g1, 1, none⟩ = some (.int .i64 a0_1) := (blk_cell BK2.b 1).trans rfl; have hfzq27_1 := blk_frozen BK2.b 1; have hczq27_2 : w26.cell? ⟨g1, 2, none⟩ = some (.slice A0_2 l0_2.length c0_2) := (blk_cell BK2.b 2).trans rfl; have hfzq27_2 := blk_frozen BK2.b 2; have hczq27_3 : w26.cell? ⟨g1, 3, none⟩ = some (.slice A0_3 l0_3.length c0_3) := (blk_cell BK2.b 3).trans rfl; have hfzq27_3 := blk_frozen BK2.b 3) | ((with_reducible refine Sh.k 13 ?_); refine Sh.gL (some 24) Tryz.func13 #[.agg #[.int .i64 a0_0, .int .i64 a0_1, .slice A0_2 l0_2.length c0_2, .slice A0_3 l0_3.length c0_3]] (h := ?_); (with_reducible refine (laws_toProgram.calls k a0_0 a0_1 _ _ l0_2 _ _ l0_3 a0_0 a0_1 y9 y10 _ (Kd.C_below HR0_2.out HB.out) HC0_2.out (Kd.C_below HR0_3.out HB.out) HC0_3.out E1.out).mono ?_); rintro e w28 ⟨v2_, v3_, rfl, ho0, ho1, hb⟩; refine ⟨_, rfl, ?_⟩; obtain ⟨lo31, hi32, ⟨HO29, HO30⟩, oa33, ob34, NW2⟩ := new1 (F := fun lo_ hi_ => Held k79 79 w28 w.heap.size lo_ hi_ v2_ y9 ∧ Held k95 95 w28 w.heap.size lo_ hi_ v3_ y10) ⟨held_new ho0 hb HB.out, held_new ho1 hb HB.out⟩ hb NW; replace BK2 := BK2.same hb; replace HO12 := HO12.same hb; replace HO13 := HO13.same hb; replace HB := am_ (below_step HB.out hb); replace NW := Nat.le_trans NW hb.size; replace NW := NW2; skip; obtain ⟨A35, c36, e37⟩ := HO29.slice; subst e37; obtain ⟨A38, c39, e40⟩ := HO30.slice; subst e40; clear hb ho0 ho1) | ((with_reducible refine Sh.d 8 ?_); refine Sh.bx (N := 8) (cs := #[.int .i64 0, .int .i64 0, .slice none 0 0, .slice none 0 0]) (t := 33) (h := ?_); intro g41 hg w43 hbox hb; have BK42 := box_new (w := w) (W := w28) HB.out hg hbox; have oa44 := new_g (W := w28) hg NW; replace BK2 := BK2.same hb; replace HO12 := HO12.same hb; replace HO13 := HO13.same hb; replace HO29 := HO29.same hb; replace HO30 := HO30.same hb; replace HB := am_ (below_step HB.out hb); replace NW := Nat.le_trans NW hb.size; replace NW := BK42.lt; clear hb hbox hg) | ((with_reducible refine gate_ (.store 33 (.tmp 8) (.tmp 24)) rfl ?_); refine store_event 8 (.tmp 24) rfl rfl rfl BK42 rfl [.int .i64 a0_0, .int .i64 a0_1, .slice A35 y9.length c36, .slice A38 y10.length c39] rfl rfl ?hs rfl ?h1 ?_; (case hs => kernel_rfl); (case h1 => (simp only [List.mem_cons, List.not_mem_nil, or_false]; intro q_ h_; rcases h_ with h_ | h_ | h_ | h_ <;> (subst h_; rfl))); intro w45 hbx hb hk; replace BK2 := BK2.move hk (by omega); replace HO12 := HO12.move hk (by omega); replace HO13 := HO13.move hk (by omega); replace HO29 := HO29.move hk (by omega); replace HO30 := HO30.move hk (by omega); replace BK42 := hbx; replace NW := Nat.le_trans NW hk.1; replace HB := am_ (HB.out.trans hb); clear hk hb; have hczq46_0 : w45.cell? ⟨g41, 0, none⟩ = some (.int .i64 a0_0) := (blk_cell BK42.b 0).trans rfl; have hfzq46_0 := blk_frozen BK42.b 0; have hczq46_1 : w45.cell? ⟨g41, 1, none⟩ = some (.int .i64 a0_1) := (blk_cell BK42.b 1).trans rfl; have hfzq46_1 := blk_frozen BK42.b 1; have hczq46_2 : w45.cell? ⟨g41, 2, none⟩ = some (.slice A35 y9.length c36) := (blk_cell BK42.b 2).trans rfl; have hfzq46_2 := blk_frozen BK42.b 2; have hczq46_3 : w45.cell? ⟨g41, 3, none⟩ = some (.slice A38 y10.length c39) := (blk_cell BK42.b 3).trans rfl; have hfzq46_3 := blk_frozen BK42.b 3) | ((with_reducible refine Sh.k 29 ?_); refine Sh.gL (some 28) Tryz.func29 #[.agg #[.int .i64 a0_0, .int .i64 a0_1, .slice A35 y9.length c36, .slice A38 y10.length c39], .int .i64 a1] (h := ?_); (with_reducible refine (impl_StepsTo.calls k a0_0 a0_1 _ _ y9 _ _ y10 a1 y24 y25 _ HO29.C HO29.c HO30.C HO30.c E3.out).mono ?_); rintro e w47 ⟨rfl, hb⟩; refine ⟨_, rfl, ?_⟩; replace BK2 := BK2.same hb; replace HO12 := HO12.same hb; replace HO13 := HO13.same hb; replace HO29 := HO29.same hb; replace HO30 := HO30.same hb; replace BK42 := BK42.same hb; replace HB := am_ (below_step HB.out hb); replace NW := Nat.le_trans NW hb.size; clear hb))
 (try simp only [Act.put, List.setIfInBounds_toArray, List.set_cons_zero, List.set_cons_succ])
 try go_wp2
 have hb : Below w47.heap.size w47 w47.drew := below_drew (Below.refl _ _)
 replace BK2 := BK2.same hb
 replace HO12 := HO12.same hb
 replace HO13 := HO13.same hb
 replace HO29 := HO29.same hb
 replace HO30 := HO30.same hb
 replace BK42 := BK42.same hb
 replace HB := am_ (below_step HB.out hb)
 replace NW := Nat.le_trans NW hb.size
 clear hb
 have hL_ : 0 ≤ 0 := Nat.le_refl 0
 refine start_ (n := 5) (S := fun w' => w'.cell? ⟨g41, 0, none⟩ = some (.int .i64 a0_0) ∧ w'.cell? ⟨g41, 1, none⟩ = some (.int .i64 a0_1) ∧ w'.cell? ⟨g41, 2, none⟩ = some (.slice A35 y9.length c36) ∧ w'.cell? ⟨g41, 3, none⟩ = some (.slice A38 y10.length c39) ∧ w'.cell? ⟨g1, 0, none⟩ = some (.int .i64 a0_0) ∧ w'.cell? ⟨g1, 1, none⟩ = some (.int .i64 a0_1) ∧ w'.cell? ⟨g1, 2, none⟩ = some (.slice A0_2 l0_2.length c0_2) ∧ w'.cell? ⟨g1, 3, none⟩ = some (.slice A0_3 l0_3.length c0_3)) (ds := []) (Sh.nm 5 0) (by kernel_rfl) rfl rfl ⟨(blk_cell BK42.b 0).trans rfl, (blk_cell BK42.b 1).trans rfl, (blk_cell BK42.b 2).trans rfl, (blk_cell BK42.b 3).trans rfl, (blk_cell BK2.b 0).trans rfl, (blk_cell BK2.b 1).trans rfl, (blk_cell BK2.b 2).trans rfl, (blk_cell BK2.b 3).trans rfl⟩ (fun hHeld => ?_)
 generalize w47.drew = w48 at BK2 HO12 HO13 HO29 HO30 BK42 HB NW hHeld ⊢
 clear hL_
 refine Sh.tA 0 39 (Sh.nm 5 1) (by kernel_rfl) hHeld ?_ (hy := by rintro w' ⟨s0, s1, s2, s3, s4, s5, s6, s7⟩; go_simp; with_reducible rfl)
 refine Sh.tA 1 40 (Sh.nm 5 3) (by kernel_rfl) hHeld ?_ (hy := by rintro w' ⟨s0, s1, s2, s3, s4, s5, s6, s7⟩; go_simp; with_reducible rfl)
 refine one_ (i := 2) (N := some 41) (Sh.nm 5 7) rfl rfl (by kernel_rfl) (by decide) (fun K hK => ?_)
 refine goes_ Tryz.func13 (by kernel_rfl) rfl #[.agg #[.int .i64 a0_0, .int .i64 a0_1, .slice A0_2 l0_2.length c0_2, .slice A0_3 l0_3.length c0_3]] (by rfl) rfl rfl (by (try simp only [List.map_toArray, List.map_cons, List.map_nil]); first | done | rfl | (simp only [List.length_drop, List.length_take]; rfl)) ?_
 with_reducible refine (laws_toProgram.calls k a0_0 a0_1 _ _ l0_2 _ _ l0_3 a0_0 a0_1 y9 y10 _ (Kd.C_below HR0_2.out HB.out) HC0_2.out (Kd.C_below HR0_3.out HB.out) HC0_3.out E1.out).mono ?_
 rintro e w49 ⟨v2_, v3_, rfl, ho0, ho1, hb⟩
 refine ⟨_, rfl, ?_⟩
 obtain ⟨lo52, hi53, ⟨HO50, HO51⟩, oa54, ob55, NW2⟩ := new1 (F := fun lo_ hi_ => Held k79 79 w49 w.heap.size lo_ hi_ v2_ y9 ∧ Held k95 95 w49 w.heap.size lo_ hi_ v3_ y10) ⟨held_new ho0 hb HB.out, held_new ho1 hb HB.out⟩ hb NW
 replace BK2 := BK2.same hb
 replace HO12 := HO12.same hb
 replace HO13 := HO13.same hb
 replace HO29 := HO29.same hb
 replace HO30 := HO30.same hb
 replace BK42 := BK42.same hb
 replace HB := am_ (below_step HB.out hb)
 replace NW := Nat.le_trans NW hb.size
 replace NW := NW2
 skip
 obtain ⟨A56, c57, e58⟩ := HO50.slice
 subst e58
 obtain ⟨A59, c60, e61⟩ := HO51.slice
 subst e61
 clear hb ho0 ho1
 refine Sh.kN hK ⟨(blk_cell BK42.b 0).trans rfl, (blk_cell BK42.b 1).trans rfl, (blk_cell BK42.b 2).trans rfl, (blk_cell BK42.b 3).trans rfl, (blk_cell BK2.b 0).trans rfl, (blk_cell BK2.b 1).trans rfl, (blk_cell BK2.b 2).trans rfl, (blk_cell BK2.b 3).trans rfl⟩ fun hHeld => ?_
 clear hK K
 refine one_ (i := 3) (N := some 42) (Sh.nm 5 15) rfl rfl (by kernel_rfl) (by decide) (fun K hK => ?_)
 refine goes_ Tryz.func16 (by kernel_rfl) rfl #[.agg #[.int .i64 a0_0, .int .i64 a0_1, .slice A35 y9.length c36, .slice A38 y10.length c39], .agg #[.int .i64 a0_0, .int .i64 a0_1, .slice A56 y9.length c57, .slice A59 y10.length c60]] (by rfl) rfl rfl (by (try simp only [List.map_toArray, List.map_cons, List.map_nil]); first | done | rfl | (simp only [List.length_drop, List.length_take]; rfl)) ?_
 with_reducible refine (laws_eqProgram.calls k a0_0 a0_1 _ _ y9 _ _ y10 a0_0 a0_1 _ _ y9 _ _ y10 true _ HO29.C HO29.c HO30.C HO30.c HO50.C HO50.c HO51.C HO51.c E4.out).mono ?_
 rintro e w62 ⟨rfl, hb⟩
 refine ⟨_, rfl, ?_⟩
 replace BK2 := BK2.same hb
 replace HO12 := HO12.same hb
 replace HO13 := HO13.same hb
 replace HO29 := HO29.same hb
 replace HO30 := HO30.same hb
 replace BK42 := BK42.same hb
 replace HO50 := HO50.same hb
 replace HO51 := HO51.same hb
 replace HB := am_ (below_step HB.out hb)
 replace NW := Nat.le_trans NW hb.size
 clear hb
 refine Sh.kN hK ⟨(blk_cell BK42.b 0).trans rfl, (blk_cell BK42.b 1).trans rfl, (blk_cell BK42.b 2).trans rfl, (blk_cell BK42.b 3).trans rfl, (blk_cell BK2.b 0).trans rfl, (blk_cell BK2.b 1).trans rfl, (blk_cell BK2.b 2).trans rfl, (blk_cell BK2.b 3).trans rfl⟩ fun hHeld => ?_
 clear hK K
 refine Sh.pA 4 43 (Sh.nm 5 31) (by kernel_rfl) ?_
 refine done_ (by kernel_rfl) ?_
 go_wp2
 go_ret
 exact ⟨rfl, HB.out⟩
end Go.Proofs.YtngefmofelengaaGreat.P
