/- Go functions of this seat as Lean functions, and the proofs that the calls come to what these say; printed by a program of this session. No condition. -/
import Derived.Test.YtijgdncmancolaaP0
import Derived.Test.YtijgdncmancolaaMFnExactStepAuto2
namespace Go.Proofs.Ytijgdncmancolaa.P
open Go.RowKit Go.Proofs.YtijgdncmancolaaW.PrintWords Go.Proofs.YtijgdncmancolaaW.PrintLast Go.Proofs.YtijgdncmancolaaW.PrintMore Go.Proofs.Ytijgdncmancolaa.Hof
attribute [local go_sem] max2_int min2_int max_two min_two max_three min_three max_four min_four   -- for this text's walks alone
set_option linter.unusedVariables false
set_option linter.unusedSimpArgs false

/-! ### impl_GoodAuto: function 23 -/
mutual
def impl_GoodAuto.j0 : Nat → Bool → Int → List Int → List (S51) → List (List Int) → Option (Bool)
 | 0, _, _, _, _, _ => none
 | k + 1, x34, x210000, x210001, x210002, x210003 => if x34 = true then (some false) else (impl_GoodAuto.l0 k x210002 (x210002.length : Int) 0 x210000 x210001 x210002 x210003)
def impl_GoodAuto.l0 : Nat → List (S51) → Int → Int → Int → List Int → List (S51) → List (List Int) → Option (Bool)
 | 0, _, _, _, _, _, _, _ => none
 | k + 1, x36, x37, x38, x210000, x210001, x210002, x210003 => if x38 < x37 then (if 0 ≤ x38 then (if x38 < (x36.length : Int) then (if ((rd_T51 x36 x38).f0) < 0 then (some false) else (if ((rd_T51 x36 x38).f0) ≥ x210000 then (some false) else (if ((rd_T51 x36 x38).f2) < 0 then (some false) else (if ((rd_T51 x36 x38).f2) ≥ x210000 then (some false) else (if ((rd_T51 x36 x38).f1) < 0 then (some false) else (if ((rd_T51 x36 x38).f1) ≥ 8 then (some false) else (if x38 > 0 then (if 0 ≤ (wrap64 (x38 - 1)) then (if (wrap64 (x38 - 1)) < (x210002.length : Int) then ((impl_compareEdges.f k ((rd_T51 x210002 (wrap64 (x38 - 1))).f0) ((rd_T51 x210002 (wrap64 (x38 - 1))).f1) ((rd_T51 x210002 (wrap64 (x38 - 1))).f2) ((rd_T51 x36 x38).f0) ((rd_T51 x36 x38).f1) ((rd_T51 x36 x38).f2)).bind fun t215 => (if t215 ≥ 0 then (some false) else (impl_GoodAuto.l0 k x36 x37 (wrap64 (x38 + 1)) x210000 x210001 x210002 x210003))) else (none)) else (none)) else (impl_GoodAuto.l0 k x36 x37 (wrap64 (x38 + 1)) x210000 x210001 x210002 x210003)))))))) else (none)) else (none)) else (some true)
end
def impl_GoodAuto.f (k : Nat) (a0_0 : Int) (l0_1 : List Int) (l0_2 : List (S51)) (l0_3 : List (List Int)) : Option (Bool) := if a0_0 < 1 then (impl_GoodAuto.j0 k true a0_0 l0_1 l0_2 l0_3) else (if a0_0 > 96 then (impl_GoodAuto.j0 k true a0_0 l0_1 l0_2 l0_3) else ((impl_isIncreasing.f k l0_1 a0_0).bind fun t210 => (if t210 = true then (if (l0_2.length : Int) > 2400 then (impl_GoodAuto.j0 k true a0_0 l0_1 l0_2 l0_3) else ((impl_areGoals.f k l0_3 a0_0).bind fun t211 => (impl_GoodAuto.j0 k (!t211) a0_0 l0_1 l0_2 l0_3))) else (impl_GoodAuto.j0 k true a0_0 l0_1 l0_2 l0_3))))
theorem impl_GoodAuto.mono_l : ∀ k, (∀ y0 y1 y2 y3 y4, LeO (impl_GoodAuto.j0 k y0 y1 y2 y3 y4) (impl_GoodAuto.j0 (k + 1) y0 y1 y2 y3 y4)) ∧ (∀ y0 y1 y2 y3 y4 y5 y6, LeO (impl_GoodAuto.l0 k y0 y1 y2 y3 y4 y5 y6) (impl_GoodAuto.l0 (k + 1) y0 y1 y2 y3 y4 y5 y6))
 | 0 => ⟨fun _ _ _ _ _ r h => by simp [impl_GoodAuto.j0] at h, fun _ _ _ _ _ _ _ r h => by simp [impl_GoodAuto.l0] at h⟩
 | k + 1 => by
  obtain ⟨ih0, ih1⟩ := impl_GoodAuto.mono_l k
  refine ⟨?_, ?_⟩
  ·intro y0 y1 y2 y3 y4
   unfold impl_GoodAuto.j0
   repeat' first
   | (with_reducible exact ih0 _ _ _ _ _)
   | (with_reducible exact ih1 _ _ _ _ _ _ _)
   | (with_reducible exact impl_areGoals.mono _ _ _)
   | (with_reducible exact impl_compareEdges.mono _ _ _ _ _ _ _)
   | (with_reducible exact impl_isIncreasing.mono _ _ _)
   | (with_reducible exact LeO.refl _)
   | (with_reducible exact LeO.none _)
   | (with_reducible refine LeO.ite ?_ ?_)
   | (with_reducible refine LeO.bind ?_ (fun _ => ?_))
   | exact ih0 _ _ _ _ _
   | exact ih1 _ _ _ _ _ _ _
   | exact impl_areGoals.mono _ _ _
   | exact impl_compareEdges.mono _ _ _ _ _ _ _
   | exact impl_isIncreasing.mono _ _ _
   | exact LeO.none _
   | refine LeO.ite ?_ ?_
   | refine LeO.bind ?_ (fun _ => ?_)
  ·intro y0 y1 y2 y3 y4 y5 y6
   unfold impl_GoodAuto.l0
   repeat' first
   | (with_reducible exact ih0 _ _ _ _ _)
   | (with_reducible exact ih1 _ _ _ _ _ _ _)
   | (with_reducible exact impl_areGoals.mono _ _ _)
   | (with_reducible exact impl_compareEdges.mono _ _ _ _ _ _ _)
   | (with_reducible exact impl_isIncreasing.mono _ _ _)
   | (with_reducible exact LeO.refl _)
   | (with_reducible exact LeO.none _)
   | (with_reducible refine LeO.ite ?_ ?_)
   | (with_reducible refine LeO.bind ?_ (fun _ => ?_))
   | exact ih0 _ _ _ _ _
   | exact ih1 _ _ _ _ _ _ _
   | exact impl_areGoals.mono _ _ _
   | exact impl_compareEdges.mono _ _ _ _ _ _ _
   | exact impl_isIncreasing.mono _ _ _
   | exact LeO.none _
   | refine LeO.ite ?_ ?_
   | refine LeO.bind ?_ (fun _ => ?_)
theorem impl_GoodAuto.mono : ∀ a0 a1 a2 a3 k, LeO (impl_GoodAuto.f k a0 a1 a2 a3) (impl_GoodAuto.f (k + 1) a0 a1 a2 a3) := by
 intro a0 a1 a2 a3 k
 obtain ⟨ih0, ih1⟩ := impl_GoodAuto.mono_l k
 unfold impl_GoodAuto.f
 repeat' first
   | (with_reducible exact ih0 _ _ _ _ _)
   | (with_reducible exact ih1 _ _ _ _ _ _ _)
   | (with_reducible exact impl_areGoals.mono _ _ _)
   | (with_reducible exact impl_compareEdges.mono _ _ _ _ _ _ _)
   | (with_reducible exact impl_isIncreasing.mono _ _ _)
   | (with_reducible exact LeO.refl _)
   | (with_reducible exact LeO.none _)
   | (with_reducible refine LeO.ite ?_ ?_)
   | (with_reducible refine LeO.bind ?_ (fun _ => ?_))
   | exact ih0 _ _ _ _ _
   | exact ih1 _ _ _ _ _ _ _
   | exact impl_areGoals.mono _ _ _
   | exact impl_compareEdges.mono _ _ _ _ _ _ _
   | exact impl_isIncreasing.mono _ _ _
   | exact LeO.none _
   | refine LeO.ite ?_ ?_
   | refine LeO.bind ?_ (fun _ => ?_)
def impl_GoodAuto.T6 : Bool × List (List Nat × List Nat) := (true, [([], []), ([0], [0]), ([1], [1]), ([2], [2]), ([3], [3]), ([4, 3], [3, 4]), ([3], [3]), ([6, 3], [3, 6]), ([5, 7, 3], [3, 5, 7]), ([3, 8], [3, 8]), ([9, 3], [9]), ([10], [10]), ([11, 10], [10, 11]), ([12, 10], [10, 12]), ([10, 13], [10, 13]), ([14, 10], [14]), ([15], [15]), ([16, 15], [15, 16]), ([15], [15]), ([18, 15], [15, 18]), ([17, 19, 15], [15, 17, 19]), ([15, 20], [15, 20]), ([21, 15], [21]), ([22], [22]), ([23, 22], [22, 23]), ([24, 22], [22, 24]), ([22, 25], [22, 25]), ([26, 22], [26]), ([27], [27]), ([28, 27], [27, 28]), ([29, 27], [27, 29]), ([27, 30], [27, 30]), ([31, 27], [31]), ([32], [32]), ([33, 32], [32, 33]), ([34, 32, 32], [32, 34]), ([35], [35]), ([36, 35], [35, 36]), ([35], [35]), ([38, 35], [35, 38]), ([37, 39, 35], [35, 37, 39]), ([40, 35], [35, 40]), ([35], [35]), ([41, 42, 35, 35], [35, 41, 42]), ([43, 35], [35, 43]), ([35, 44, 32], [32, 35, 44]), ([32, 45], [32, 45])])
def impl_GoodAuto.B6 : List Nat := [0, 1, 3, 7, 15, 31, 15, 79, 255, 511, 1023, 2047, 4095, 8191, 16383, 32767, 65535, 131071, 65535, 327679, 1048575, 2097151, 4194303, 8388607, 16777215, 33554431, 67108863, 134217727, 268435455, 536870911, 1073741823, 2147483647, 4294967295, 8589934591, 17179869183, 34359738367, 68719476735, 137438953471, 68719476735, 343597383679, 1099511627775, 2199023255551, 68719476735, 8796093022207, 17592186044415, 35184372088831, 70368744177663]
theorem impl_GoodAuto.tab6 : rtab .any (opsOf Try.f23 6) = impl_GoodAuto.T6 := by kernel_rfl
theorem impl_GoodAuto.bits6 : waitsOk impl_GoodAuto.T6.2 impl_GoodAuto.B6 = true := by kernel_rfl
set_option maxHeartbeats 8000000 in
set_option maxRecDepth 100000 in
theorem impl_GoodAuto.calls (k : Nat) (a0_0 : Int) (A0_1 : Option Addr) (c0_1 : Nat) (l0_1 : List Int) (A0_2 : Option Addr) (c0_2 : Nat) (l0_2 : List (S51)) (A0_3 : Option Addr) (c0_3 : Nat) (l0_3 : List (List Int)) (r : Bool) (w : World) (hr0_1 : Kd.C (Kd.int .i64) w A0_1 l0_1.length l0_1) (hc0_1 : l0_1.length ≤ c0_1) (hr0_2 : Kd.C k51 w A0_2 l0_2.length l0_2) (hc0_2 : l0_2.length ≤ c0_2) (hr0_3 : Kd.C (Kd.slice 3 (Kd.int .i64)) w A0_3 l0_3.length l0_3) (hc0_3 : l0_3.length ≤ c0_3) (h : impl_GoodAuto.f k a0_0 l0_1 l0_2 l0_3 = some r) :
  Calls Try.prog 23 #[.agg #[.int .i64 a0_0, .slice A0_1 l0_1.length c0_1, .slice A0_2 l0_2.length c0_2, .slice A0_3 l0_3.length c0_3]] w fun e w' => e = .returned (.bool r) ∧ Below w.heap.size w w' := by
 have hu32 := Try.underlying32
 have hu51 := Try.underlying51
 have HR0_1 := am_ hr0_1
 have HC0_1 := am_ hc0_1
 clear hr0_1 hc0_1
 have HR0_2 := am_ hr0_2
 have HC0_2 := am_ hc0_2
 clear hr0_2 hc0_2
 have HR0_3 := am_ hr0_3
 have HC0_3 := am_ hc0_3
 clear hr0_3 hc0_3
 have HB := am_ (Below.refl w.heap.size w)
 have H : (if a0_0 < 1 then (impl_GoodAuto.j0 k true a0_0 l0_1 l0_2 l0_3) else (if a0_0 > 96 then (impl_GoodAuto.j0 k true a0_0 l0_1 l0_2 l0_3) else ((impl_isIncreasing.f k l0_1 a0_0).bind fun t210 => (if t210 = true then (if (l0_2.length : Int) > 2400 then (impl_GoodAuto.j0 k true a0_0 l0_1 l0_2 l0_3) else ((impl_areGoals.f k l0_3 a0_0).bind fun t211 => (impl_GoodAuto.j0 k (!t211) a0_0 l0_1 l0_2 l0_3))) else (impl_GoodAuto.j0 k true a0_0 l0_1 l0_2 l0_3))))) = some r := h
 clear h
 have HC2 := am_ H
 clear H
 go_enter Try.func23, Try.ntmps23
 go_upto_region 1 with (first | ((with_reducible refine gate_dst (N := 1) rfl ?_); (try (refine gate_guard (by rfl) ?_; dsimp only)); refine Sh.bx (N := 1) (cs := #[.int .i64 a0_0, .slice A0_1 l0_1.length c0_1, .slice A0_2 l0_2.length c0_2, .slice A0_3 l0_3.length c0_3]) (t := 32) (h := ?_); intro gb209 hg w3 hbox hb; have n0_ := am_ (below_step Sh.bw hb); have n1_ := am_ (hbox); have n2_ := am_ (Sh.gw (w := w) hg); have n3_ := am_ (Sh.gw (w := w) hg); clear HB; have HB := n0_; have BK209 := n1_; have GW209 := n2_; have GE209 := n3_; clear n0_ n1_ n2_ n3_; clear hb hbox hg))
 (try simp only [Act.put, List.setIfInBounds_toArray, List.set_cons_zero, List.set_cons_succ])
 go_cut [34] (fun v34 wc => ∃ (kq : Nat) (x34_1 : Bool), v34 = .bool x34_1 ∧ Aside0 (impl_GoodAuto.j0 kq x34_1 a0_0 l0_1 l0_2 l0_3 = some r) ∧ Aside0 (kq ≤ k) ∧ Aside0 (wc.heap[gb209]? = some (.cells #[.int .i64 a0_0, (.slice A0_1 l0_1.length c0_1), (.slice A0_2 l0_2.length c0_2), (.slice A0_3 l0_3.length c0_3)] 32 (0, 0))) ∧ Aside0 (Below w.heap.size w wc))
 case first =>
  have H := HC2.out
  clear HC2
  by_cases c4 : a0_0 < 1
  ·rw [if_pos c4] at H
   have c4b0 : decide (a0_0 < 1) = true := decide_eq_true c4
   clear c4
   (first | rw [c4b0] | (simp only [i64_w, i32_w]; rw [c4b0]) | skip)
   have H' := am_ H
   clear H
   have hcz5_0 := Sh.bc BK209.out 0
   have hcz5_1 := Sh.bc BK209.out 1
   have hcz5_2 := Sh.bc BK209.out 2
   have hcz5_3 := Sh.bc BK209.out 3
   have hfz5_0 := blk_frozen BK209.out 0
   have hfz5_1 := blk_frozen BK209.out 1
   have hfz5_2 := blk_frozen BK209.out 2
   have hfz5_3 := blk_frozen BK209.out 3
   go_wp2
   go_meet
   case rel => exact ⟨_, (true), (by first | rfl | (simp; done) | (simp [*]; done)), H', ⟨by first | omega | exact Nat.le_refl _⟩, ⟨by (with_reducible repeat (first | refine blk_drewN ?_ _ | refine blk_drew ?_ | refine blk_alloc ?_ _)); exact BK209.out⟩, ⟨by repeat (first | (with_reducible first | exact HB.out | apply below_alloc | apply pw_below_drewN | apply below_drew1 | refine below_set ?_ GE209.out) | exact HB.out)⟩⟩
  ·rw [if_neg c4] at H
   have c4b0 : decide (a0_0 < 1) = false := decide_eq_false c4
   clear c4
   (first | rw [c4b0] | (simp only [i64_w, i32_w]; rw [c4b0]) | skip)
   by_cases c6 : a0_0 > 96
   ·rw [if_pos c6] at H
    have c6b0 : decide (96 < a0_0) = true := decide_eq_true c6
    clear c6
    have H' := am_ H
    clear H
    have hcz7_0 := Sh.bc BK209.out 0
    have hcz7_1 := Sh.bc BK209.out 1
    have hcz7_2 := Sh.bc BK209.out 2
    have hcz7_3 := Sh.bc BK209.out 3
    have hfz7_0 := blk_frozen BK209.out 0
    have hfz7_1 := blk_frozen BK209.out 1
    have hfz7_2 := blk_frozen BK209.out 2
    have hfz7_3 := blk_frozen BK209.out 3
    go_wp2
    go_meet
    case rel => exact ⟨_, (true), (by first | rfl | (simp; done) | (simp [*]; done)), H', ⟨by first | omega | exact Nat.le_refl _⟩, ⟨by (with_reducible repeat (first | refine blk_drewN ?_ _ | refine blk_drew ?_ | refine blk_alloc ?_ _)); exact BK209.out⟩, ⟨by repeat (first | (with_reducible first | exact HB.out | apply below_alloc | apply pw_below_drewN | apply below_drew1 | refine below_set ?_ GE209.out) | exact HB.out)⟩⟩
   ·rw [if_neg c6] at H
    have c6b0 : decide (96 < a0_0) = false := decide_eq_false c6
    clear c6
    replace H := Option.bind_eq_some_iff.mp H
    obtain ⟨t210, A80, H⟩ := H
    replace H : (if t210 = true then (if (l0_2.length : Int) > 2400 then (impl_GoodAuto.j0 k true a0_0 l0_1 l0_2 l0_3) else ((impl_areGoals.f k l0_3 a0_0).bind fun t211 => (impl_GoodAuto.j0 k (!t211) a0_0 l0_1 l0_2 l0_3))) else (impl_GoodAuto.j0 k true a0_0 l0_1 l0_2 l0_3)) = some r := H
    have A8 := am_ A80
    clear A80
    by_cases c9 : t210 = true
    ·subst c9
     have H1 : (if (l0_2.length : Int) > 2400 then (impl_GoodAuto.j0 k true a0_0 l0_1 l0_2 l0_3) else ((impl_areGoals.f k l0_3 a0_0).bind fun t211 => (impl_GoodAuto.j0 k (!t211) a0_0 l0_1 l0_2 l0_3))) = some r := by rw [if_pos rfl] at H; exact H
     clear H
     have H := H1
     clear H1
     by_cases c10 : (l0_2.length : Int) > 2400
     ·rw [if_pos c10] at H
      have c10b0 : decide (2400 < (l0_2.length : Int)) = true := decide_eq_true c10
      have c10b1 : decide (2400 < l0_2.length) = true := decide_eq_true (by omega)
      clear c10
      have H' := am_ H
      clear H
      have hcz11_0 := Sh.bc BK209.out 0
      have hcz11_1 := Sh.bc BK209.out 1
      have hcz11_2 := Sh.bc BK209.out 2
      have hcz11_3 := Sh.bc BK209.out 3
      have hfz11_0 := blk_frozen BK209.out 0
      have hfz11_1 := blk_frozen BK209.out 1
      have hfz11_2 := blk_frozen BK209.out 2
      have hfz11_3 := blk_frozen BK209.out 3
      go_wp2_with (first | (go_at_call 24; (with_reducible refine (impl_isIncreasing.calls k _ _ l0_1 a0_0 true _ (Sh.cB HR0_1.out) HC0_1.out A8.out).mono ?_); rintro e w' ⟨rfl, ⟨nd, rfl⟩⟩))
      go_meet
      case rel => exact ⟨_, (true), (by first | rfl | (simp; done) | (simp [*]; done)), H', ⟨by first | omega | exact Nat.le_refl _⟩, ⟨by (with_reducible repeat (first | refine blk_drewN ?_ _ | refine blk_drew ?_ | refine blk_alloc ?_ _)); exact BK209.out⟩, ⟨by repeat (first | (with_reducible first | exact HB.out | apply below_alloc | apply pw_below_drewN | apply below_drew1 | refine below_set ?_ GE209.out) | exact HB.out)⟩⟩
     ·rw [if_neg c10] at H
      have c10b0 : decide (2400 < (l0_2.length : Int)) = false := decide_eq_false c10
      have c10b1 : decide (2400 < l0_2.length) = false := decide_eq_false (by omega)
      clear c10
      replace H := Option.bind_eq_some_iff.mp H
      obtain ⟨t211, A120, H⟩ := H
      replace H : (impl_GoodAuto.j0 k (!t211) a0_0 l0_1 l0_2 l0_3) = some r := H
      have A12 := am_ A120
      clear A120
      have H' := am_ H
      clear H
      have hcz13_0 := Sh.bc BK209.out 0
      have hcz13_1 := Sh.bc BK209.out 1
      have hcz13_2 := Sh.bc BK209.out 2
      have hcz13_3 := Sh.bc BK209.out 3
      have hfz13_0 := blk_frozen BK209.out 0
      have hfz13_1 := blk_frozen BK209.out 1
      have hfz13_2 := blk_frozen BK209.out 2
      have hfz13_3 := blk_frozen BK209.out 3
      go_wp2_with (first | (go_at_call 24; (with_reducible refine (impl_isIncreasing.calls k _ _ l0_1 a0_0 true _ (Sh.cB HR0_1.out) HC0_1.out A8.out).mono ?_); rintro e w' ⟨rfl, ⟨nd, rfl⟩⟩) | (go_at_call 38; (with_reducible refine (impl_areGoals.calls k _ _ l0_3 a0_0 t211 _ ?side1 ?side2 A12.out).mono ?_); (case side1 => repeat (first | exact (Kd.C_below HR0_3.out Sh.bw) | (with_reducible first | refine Kd.C_alloc ?_ _ | refine Kd.C_drewN ?_ _ | refine Kd.C_drew ?_))); (case side2 => exact HC0_3.out); rintro e w14 ⟨rfl, hb⟩; have n0_ := am_ (Sh.bb BK209.out hb); have n1_ := am_ (below_step Sh.bw hb); clear BK209; clear HB; have BK209 := n0_; have HB := n1_; clear n0_ n1_; (try clear hb); (try clear hb2); (try clear hk); (try clear hi)))
      go_meet
      case rel => exact ⟨_, (!t211), (by first | rfl | (simp; done) | (simp [*]; done)), H', ⟨by first | omega | exact Nat.le_refl _⟩, ⟨by (with_reducible repeat (first | refine blk_drewN ?_ _ | refine blk_drew ?_ | refine blk_alloc ?_ _)); exact BK209.out⟩, ⟨by repeat (first | (with_reducible first | exact HB.out | apply below_alloc | apply pw_below_drewN | apply below_drew1 | refine below_set ?_ GE209.out) | exact HB.out)⟩⟩
    ·replace c9 := Bool.eq_false_iff.mpr c9
     subst c9
     have H1 : (impl_GoodAuto.j0 k true a0_0 l0_1 l0_2 l0_3) = some r := by rw [if_neg (show ¬ (false = true) by decide)] at H; exact H
     clear H
     have H := H1
     clear H1
     have H' := am_ H
     clear H
     have hcz15_0 := Sh.bc BK209.out 0
     have hcz15_1 := Sh.bc BK209.out 1
     have hcz15_2 := Sh.bc BK209.out 2
     have hcz15_3 := Sh.bc BK209.out 3
     have hfz15_0 := blk_frozen BK209.out 0
     have hfz15_1 := blk_frozen BK209.out 1
     have hfz15_2 := blk_frozen BK209.out 2
     have hfz15_3 := blk_frozen BK209.out 3
     go_wp2_with (first | (go_at_call 24; (with_reducible refine (impl_isIncreasing.calls k _ _ l0_1 a0_0 false _ (Sh.cB HR0_1.out) HC0_1.out A8.out).mono ?_); rintro e w' ⟨rfl, ⟨nd, rfl⟩⟩))
     go_meet
     case rel => exact ⟨_, (true), (by first | rfl | (simp; done) | (simp [*]; done)), H', ⟨by first | omega | exact Nat.le_refl _⟩, ⟨by (with_reducible repeat (first | refine blk_drewN ?_ _ | refine blk_drew ?_ | refine blk_alloc ?_ _)); exact BK209.out⟩, ⟨by repeat (first | (with_reducible first | exact HB.out | apply below_alloc | apply pw_below_drewN | apply below_drew1 | refine below_set ?_ GE209.out) | exact HB.out)⟩⟩
 case rest =>
  clear HC2
  try clear c1
  try clear c2
  try clear p2
  try clear c4
  try clear c4b0
  try clear c6
  try clear c6b0
  try clear c9
  try clear c10
  try clear c10b0
  try clear c10b1
  try clear hcz11_0
  try clear hcz11_1
  try clear hcz11_2
  try clear hcz11_3
  try clear hcz13_0
  try clear hcz13_1
  try clear hcz13_2
  try clear hcz13_3
  try clear hcz15_0
  try clear hcz15_1
  try clear hcz15_2
  try clear hcz15_3
  try clear hcz5_0
  try clear hcz5_1
  try clear hcz5_2
  try clear hcz5_3
  try clear hcz7_0
  try clear hcz7_1
  try clear hcz7_2
  try clear hcz7_3
  try clear hfz11_0
  try clear hfz11_1
  try clear hfz11_2
  try clear hfz11_3
  try clear hfz13_0
  try clear hfz13_1
  try clear hfz13_2
  try clear hfz13_3
  try clear hfz15_0
  try clear hfz15_1
  try clear hfz15_2
  try clear hfz15_3
  try clear hfz5_0
  try clear hfz5_1
  try clear hfz5_2
  try clear hfz5_3
  try clear hfz7_0
  try clear hfz7_1
  try clear hfz7_2
  try clear hfz7_3
  obtain ⟨kq, x34_1, rfl, HA, HJ1, BK209, HB⟩ := hcut
  cases kq with
  | zero => exact absurd HA.out (by simp [impl_GoodAuto.j0])
  | succ kj1 =>
   have H := HA.out
   clear HA
   simp only [impl_GoodAuto.j0] at H
   by_cases c16 : x34_1 = true
   ·subst c16
    have H1 : (some false) = some r := by rw [if_pos rfl] at H; exact H
    clear H
    have H := H1
    clear H1
    obtain rfl := Option.some.inj H
    go_wp2
    go_ret
    exact ⟨Sh.eR, Sh.bw⟩
   ·replace c16 := Bool.eq_false_iff.mpr c16
    subst c16
    have H1 : (impl_GoodAuto.l0 kj1 l0_2 (l0_2.length : Int) 0 a0_0 l0_1 l0_2 l0_3) = some r := by rw [if_neg (show ¬ (false = true) by decide)] at H; exact H
    clear H
    have H := H1
    clear H1
    have H' := am_ H
    clear H
    have hcz17_0 := Sh.bc BK209.out 0
    have hcz17_1 := Sh.bc BK209.out 1
    have hcz17_2 := Sh.bc BK209.out 2
    have hcz17_3 := Sh.bc BK209.out 3
    have hfz17_0 := blk_frozen BK209.out 0
    have hfz17_1 := blk_frozen BK209.out 1
    have hfz17_2 := blk_frozen BK209.out 2
    have hfz17_3 := blk_frozen BK209.out 3
    go_wp2
    go_loopg [38] kj1 (fun kq v38 w' => ∃ (x38_2 : Int), v38 = .int .i64 x38_2 ∧ Aside0 (impl_GoodAuto.l0 kq l0_2 (l0_2.length : Int) x38_2 a0_0 l0_1 l0_2 l0_3 = some r) ∧ Aside0 (kq ≤ kj1) ∧ Aside0 (w'.heap[gb209]? = some (.cells #[.int .i64 a0_0, (.slice A0_1 l0_1.length c0_1), (.slice A0_2 l0_2.length c0_2), (.slice A0_3 l0_3.length c0_3)] 32 (0, 0))) ∧ Aside0 (Below w.heap.size w w'))
    case atStart => exact ⟨(0), (by first | rfl | (simp; done) | (simp [*]; done)), H', ⟨Nat.le_refl _⟩, ⟨by (with_reducible repeat (first | refine blk_drewN ?_ _ | refine blk_drew ?_ | refine blk_alloc ?_ _)); exact BK209.out⟩, ⟨by repeat (first | (with_reducible first | exact HB.out | apply below_alloc | apply pw_below_drewN | apply below_drew1 | refine below_set ?_ GE209.out) | exact HB.out)⟩⟩
    case round =>
     clear H'
     try clear c1
     try clear c2
     try clear p2
     try clear c4
     try clear c4b0
     try clear c6
     try clear c6b0
     try clear c9
     try clear c10
     try clear c10b0
     try clear c10b1
     try clear c16
     try clear hcz11_0
     try clear hcz11_1
     try clear hcz11_2
     try clear hcz11_3
     try clear hcz13_0
     try clear hcz13_1
     try clear hcz13_2
     try clear hcz13_3
     try clear hcz15_0
     try clear hcz15_1
     try clear hcz15_2
     try clear hcz15_3
     try clear hcz17_0
     try clear hcz17_1
     try clear hcz17_2
     try clear hcz17_3
     try clear hcz5_0
     try clear hcz5_1
     try clear hcz5_2
     try clear hcz5_3
     try clear hcz7_0
     try clear hcz7_1
     try clear hcz7_2
     try clear hcz7_3
     try clear hfz11_0
     try clear hfz11_1
     try clear hfz11_2
     try clear hfz11_3
     try clear hfz13_0
     try clear hfz13_1
     try clear hfz13_2
     try clear hfz13_3
     try clear hfz15_0
     try clear hfz15_1
     try clear hfz15_2
     try clear hfz15_3
     try clear hfz17_0
     try clear hfz17_1
     try clear hfz17_2
     try clear hfz17_3
     try clear hfz5_0
     try clear hfz5_1
     try clear hfz5_2
     try clear hfz5_3
     try clear hfz7_0
     try clear hfz7_1
     try clear hfz7_2
     try clear hfz7_3
     try clear p2
     obtain ⟨x38_2, rfl, HA, HK2, BK209, HB⟩ := hrel
     cases gk with
     | zero => exact absurd HA.out (by simp [impl_GoodAuto.l0])
     | succ k2 =>
      have H := HA.out
      clear HA
      simp only [impl_GoodAuto.l0] at H
      by_cases c18 : x38_2 < (l0_2.length : Int)
      ·rw [if_pos c18] at H
       have c18b0 : decide (x38_2 < (l0_2.length : Int)) = true := decide_eq_true c18
       clear c18
       by_cases c19 : 0 ≤ x38_2
       ·rw [if_pos c19] at H
        have c19b0 : decide (0 ≤ x38_2) = true := decide_eq_true c19
        clear c19
        by_cases c20 : x38_2 < (l0_2.length : Int)
        ·rw [if_pos c20] at H
         have c20b0 : decide (x38_2 < (l0_2.length : Int)) = true := decide_eq_true c20
         clear c20
         by_cases c21 : ((rd_T51 l0_2 x38_2).f0) < 0
         ·rw [if_pos c21] at H
          have c21b0 : decide (((rd_T51 l0_2 x38_2).f0) < 0) = true := decide_eq_true c21
          clear c21
          obtain rfl := Option.some.inj H
          have p212 : 0 ≤ (x38_2 : Int) := of_decide_eq_true (by first | (with_reducible assumption) | assumption)
          have q212 : x38_2 < (l0_2.length : Int) := of_decide_eq_true (by first | (with_reducible assumption) | assumption)
          obtain ⟨ad212, e212, hx212_0, hx212_1, hx212_2⟩ := at_T51 HR0_2.out x38_2 p212 q212
          cases e212
          (try replace hx212_0 := (HB.out.cell (World.block_lt_of_cell? w _ hx212_0)).trans hx212_0)
          (try replace hx212_1 := (HB.out.cell (World.block_lt_of_cell? w _ hx212_1)).trans hx212_1)
          (try replace hx212_2 := (HB.out.cell (World.block_lt_of_cell? w _ hx212_2)).trans hx212_2)
          replace p212 := eq_true p212
          replace q212 := eq_true q212
          try go_wp2_with (first | ((with_reducible refine gate_dst (N := 4) rfl ?_); (try (refine gate_guard (by rfl) ?_; dsimp only)); refine Sh.bx (N := 4) (cs := #[.int .i64 0, .int .i64 0, .int .i64 0]) (t := 51) (h := ?_); intro gb213 hg w22 hbox hb; have n0_ := am_ (Sh.bb BK209.out hb); have n1_ := am_ (below_step Sh.bw hb); have n2_ := am_ (hbox); have n3_ := am_ (Sh.gw (w := w) hg); have n4_ := am_ (Sh.gw (w := w) hg); have n5_ := am_ (Sh.nl hg BK209.out); have n6_ := am_ (Sh.ng hg BK209.out); clear BK209; clear HB; have BK209 := n0_; have HB := n1_; have BK213 := n2_; have GW213 := n3_; have GE213 := n4_; have NB209_213 := n5_; have NB213_209 := n6_; clear n0_ n1_ n2_ n3_ n4_ n5_ n6_; clear hb hbox hg; have hnb23 := NB213_209.out; have hnc23 := NB209_213.out; have hcz24_0 := Sh.bc BK213.out 0; have hcz24_1 := Sh.bc BK213.out 1; have hcz24_2 := Sh.bc BK213.out 2; have hfz24_0 := blk_frozen BK213.out 0; have hfz24_1 := blk_frozen BK213.out 1; have hfz24_2 := blk_frozen BK213.out 2))
          have n0_ : Aside0 ((((w22.setCell ⟨gb213, 0, none⟩ (.int .i64 ((rd_T51 l0_2 x38_2).f0))).setCell ⟨gb213, 1, none⟩ (.int .i64 ((rd_T51 l0_2 x38_2).f1))).setCell ⟨gb213, 2, none⟩ (.int .i64 ((rd_T51 l0_2 x38_2).f2))).heap[gb209]? = some (.cells #[.int .i64 a0_0, .slice A0_1 l0_1.length c0_1, .slice (some ad212) l0_2.length c0_2, .slice A0_3 l0_3.length c0_3] 32 (0, 0))) := ⟨by (with_reducible repeat (first | refine blk_drewN ?_ _ | refine blk_drew ?_ | refine blk_alloc ?_ _)); refine blk_far ?_ NB209_213.out _; (with_reducible repeat (first | refine blk_drewN ?_ _ | refine blk_drew ?_ | refine blk_alloc ?_ _)); refine blk_far ?_ NB209_213.out _; (with_reducible repeat (first | refine blk_drewN ?_ _ | refine blk_drew ?_ | refine blk_alloc ?_ _)); refine blk_far ?_ NB209_213.out _; (with_reducible repeat (first | refine blk_drewN ?_ _ | refine blk_drew ?_ | refine blk_alloc ?_ _)); exact BK209.out⟩
          have n1_ : Aside0 ((((w22.setCell ⟨gb213, 0, none⟩ (.int .i64 ((rd_T51 l0_2 x38_2).f0))).setCell ⟨gb213, 1, none⟩ (.int .i64 ((rd_T51 l0_2 x38_2).f1))).setCell ⟨gb213, 2, none⟩ (.int .i64 ((rd_T51 l0_2 x38_2).f2))).heap[gb213]? = some (.cells #[.int .i64 ((rd_T51 l0_2 x38_2).f0), .int .i64 ((rd_T51 l0_2 x38_2).f1), .int .i64 ((rd_T51 l0_2 x38_2).f2)] 51 (0, 0))) := ⟨by (with_reducible repeat (first | refine blk_drewN ?_ _ | refine blk_drew ?_ | refine blk_alloc ?_ _)); refine blk_put (cs := #[.int .i64 ((rd_T51 l0_2 x38_2).f0), .int .i64 ((rd_T51 l0_2 x38_2).f1), .int .i64 0]) ?_ 2 _ rfl; (with_reducible repeat (first | refine blk_drewN ?_ _ | refine blk_drew ?_ | refine blk_alloc ?_ _)); refine blk_put (cs := #[.int .i64 ((rd_T51 l0_2 x38_2).f0), .int .i64 0, .int .i64 0]) ?_ 1 _ rfl; (with_reducible repeat (first | refine blk_drewN ?_ _ | refine blk_drew ?_ | refine blk_alloc ?_ _)); refine blk_put (cs := #[.int .i64 0, .int .i64 0, .int .i64 0]) ?_ 0 _ rfl; (with_reducible repeat (first | refine blk_drewN ?_ _ | refine blk_drew ?_ | refine blk_alloc ?_ _)); exact BK213.out⟩
          have n2_ : Aside0 (Below w.heap.size w (((w22.setCell ⟨gb213, 0, none⟩ (.int .i64 ((rd_T51 l0_2 x38_2).f0))).setCell ⟨gb213, 1, none⟩ (.int .i64 ((rd_T51 l0_2 x38_2).f1))).setCell ⟨gb213, 2, none⟩ (.int .i64 ((rd_T51 l0_2 x38_2).f2)))) := ⟨by repeat (first | (with_reducible first | exact HB.out | apply below_alloc | apply pw_below_drewN | apply below_drew1 | refine below_set ?_ GE209.out | refine below_set ?_ GE213.out) | exact HB.out)⟩
          (try clear BK209)
          (try clear BK213)
          (try clear HB)
          generalize (((w22.setCell ⟨gb213, 0, none⟩ (.int .i64 ((rd_T51 l0_2 x38_2).f0))).setCell ⟨gb213, 1, none⟩ (.int .i64 ((rd_T51 l0_2 x38_2).f1))).setCell ⟨gb213, 2, none⟩ (.int .i64 ((rd_T51 l0_2 x38_2).f2))) = w25 at n0_ n1_ n2_ ⊢
          have BK209 := n0_
          have BK213 := n1_
          have HB := n2_
          clear n0_ n1_ n2_
          have n0_ := am_ (blk_drew BK209.out)
          have n1_ := am_ (blk_drew BK213.out)
          have n2_ := am_ (below_drew1 HB.out)
          clear BK209
          clear BK213
          clear HB
          have BK209 := n0_
          have BK213 := n1_
          have HB := n2_
          clear n0_ n1_ n2_
          refine start_ (n := 47) (S := fun w' => w'.cell? ⟨gb213, 0, none⟩ = some (.int .i64 ((rd_T51 l0_2 x38_2).f0)) ∧ w'.cell? ⟨gb213, 1, none⟩ = some (.int .i64 ((rd_T51 l0_2 x38_2).f1)) ∧ w'.cell? ⟨gb213, 2, none⟩ = some (.int .i64 ((rd_T51 l0_2 x38_2).f2))) (ds := []) #[false, false, false, false, false, false, false, false, false, false, false, false, false, false, false, false, false, false, false, false, false, false, false, false, false, false, false, false, false, false, false, false, false, false, false, false, false, false, false, false, false, false, false, false, false, false, false] (by kernel_rfl) rfl rfl ⟨(blk_cell BK213.out 0).trans rfl, (blk_cell BK213.out 1).trans rfl, (blk_cell BK213.out 2).trans rfl⟩ (fun hHeld => ?_); refine with_tabW impl_GoodAuto.tab6 impl_GoodAuto.bits6 (fun HT_ HW_ => ?_)
          generalize w25.drew = w26 at BK209 BK213 HB hHeld ⊢
          refine Sh.pA 0 43 (Sh.pre 47 1) (any_of HT_.out (by kernel_rfl)) ?_
          refine Sh.tA 1 44 (Sh.pre 47 2) (take_ofW HT_.out HW_.out (by kernel_rfl)) hHeld ?_ (hy := by rintro w' ⟨s0, s1, s2⟩; go_simp; with_reducible rfl)
          refine Sh.pA 2 45 (Sh.pre 47 3) (any_of HT_.out (by kernel_rfl)) ?_
          refine Sh.pA 3 46 (Sh.pre 47 4) (any_of HT_.out (by kernel_rfl)) ?_
          refine Sh.pU 4 47 (Sh.pre 47 5) (any_of HT_.out (by kernel_rfl)) ?_
          refine Sh.pU 5 48 (Sh.pre 47 6) (any_of HT_.out (by kernel_rfl)) ?_
          refine Sh.pU 6 49 (Sh.pre 47 7) (any_of HT_.out (by kernel_rfl)) ?_
          refine Sh.pU 7 50 (Sh.pre 47 8) (any_of HT_.out (by kernel_rfl)) ?_
          refine Sh.pU 8 51 (Sh.pre 47 9) (any_of HT_.out (by kernel_rfl)) ?_
          refine Sh.pA 9 52 (Sh.pre 47 10) (any_of HT_.out (by kernel_rfl)) ?_
          refine Sh.pA 10 53 (Sh.pre 47 11) (any_of HT_.out (by kernel_rfl)) ?_
          refine Sh.pU 11 54 (Sh.pre 47 12) (any_of HT_.out (by kernel_rfl)) ?_
          refine Sh.pU 12 55 (Sh.pre 47 13) (any_of HT_.out (by kernel_rfl)) ?_
          refine Sh.pU 13 56 (Sh.pre 47 14) (any_of HT_.out (by kernel_rfl)) ?_
          refine Sh.pA 14 57 (Sh.pre 47 15) (any_of HT_.out (by kernel_rfl)) ?_
          refine Sh.pA 15 58 (Sh.pre 47 16) (any_of HT_.out (by kernel_rfl)) ?_
          refine Sh.pU 16 59 (Sh.pre 47 17) (any_of HT_.out (by kernel_rfl)) ?_
          refine Sh.pU 17 60 (Sh.pre 47 18) (any_of HT_.out (by kernel_rfl)) ?_
          refine Sh.pU 18 61 (Sh.pre 47 19) (any_of HT_.out (by kernel_rfl)) ?_
          refine Sh.pU 19 62 (Sh.pre 47 20) (any_of HT_.out (by kernel_rfl)) ?_
          refine Sh.pU 20 63 (Sh.pre 47 21) (any_of HT_.out (by kernel_rfl)) ?_
          refine Sh.pA 21 64 (Sh.pre 47 22) (any_of HT_.out (by kernel_rfl)) ?_
          refine Sh.pA 22 65 (Sh.pre 47 23) (any_of HT_.out (by kernel_rfl)) ?_
          refine Sh.pU 23 66 (Sh.pre 47 24) (any_of HT_.out (by kernel_rfl)) ?_
          refine Sh.pU 24 67 (Sh.pre 47 25) (any_of HT_.out (by kernel_rfl)) ?_
          refine Sh.pU 25 68 (Sh.pre 47 26) (any_of HT_.out (by kernel_rfl)) ?_
          refine Sh.pA 26 69 (Sh.pre 47 27) (any_of HT_.out (by kernel_rfl)) ?_
          refine Sh.pA 27 70 (Sh.pre 47 28) (any_of HT_.out (by kernel_rfl)) ?_
          refine Sh.pU 28 71 (Sh.pre 47 29) (any_of HT_.out (by kernel_rfl)) ?_
          refine Sh.pU 29 72 (Sh.pre 47 30) (any_of HT_.out (by kernel_rfl)) ?_
          refine Sh.pU 30 73 (Sh.pre 47 31) (any_of HT_.out (by kernel_rfl)) ?_
          refine Sh.pA 31 74 (Sh.pre 47 32) (any_of HT_.out (by kernel_rfl)) ?_
          refine Sh.pA 32 75 (Sh.pre 47 33) (any_of HT_.out (by kernel_rfl)) ?_
          refine Sh.pU 33 76 (Sh.pre 47 34) (any_of HT_.out (by kernel_rfl)) ?_
          refine Sh.pU 34 77 (Sh.pre 47 35) (any_of HT_.out (by kernel_rfl)) ?_
          refine Sh.pU 35 78 (Sh.pre 47 36) (any_of HT_.out (by kernel_rfl)) ?_
          refine Sh.pU 36 79 (Sh.pre 47 37) (any_of HT_.out (by kernel_rfl)) ?_
          refine Sh.pU 37 80 (Sh.pre 47 38) (any_of HT_.out (by kernel_rfl)) ?_
          refine Sh.pU 38 81 (Sh.pre 47 39) (any_of HT_.out (by kernel_rfl)) ?_
          refine Sh.pU 39 82 (Sh.pre 47 40) (any_of HT_.out (by kernel_rfl)) ?_
          refine Sh.pU 40 83 (Sh.pre 47 41) (any_of HT_.out (by kernel_rfl)) ?_
          refine Sh.pU 41 84 (Sh.pre 47 42) (any_of HT_.out (by kernel_rfl)) ?_
          refine Sh.pU 42 85 (Sh.pre 47 43) (any_of HT_.out (by kernel_rfl)) ?_
          refine Sh.pU 43 86 (Sh.pre 47 44) (any_of HT_.out (by kernel_rfl)) ?_
          refine Sh.pU 44 87 (Sh.pre 47 45) (any_of HT_.out (by kernel_rfl)) ?_
          refine Sh.pU 45 88 (Sh.pre 47 46) (any_of HT_.out (by kernel_rfl)) ?_
          refine Sh.pA 46 89 (Sh.pre 47 47) (any_of HT_.out (by kernel_rfl)) ?_
          refine done_ (done_of HT_.out (by kernel_rfl)) ?_
          try go_wp2
          go_ret
          exact ⟨Sh.eR, Sh.bw⟩
         ·rw [if_neg c21] at H
          have c21b0 : decide (((rd_T51 l0_2 x38_2).f0) < 0) = false := decide_eq_false c21
          clear c21
          by_cases c27 : ((rd_T51 l0_2 x38_2).f0) ≥ a0_0
          ·rw [if_pos c27] at H
           have c27b0 : decide (a0_0 ≤ ((rd_T51 l0_2 x38_2).f0)) = true := decide_eq_true c27
           clear c27
           obtain rfl := Option.some.inj H
           have p212 : 0 ≤ (x38_2 : Int) := of_decide_eq_true (by first | (with_reducible assumption) | assumption)
           have q212 : x38_2 < (l0_2.length : Int) := of_decide_eq_true (by first | (with_reducible assumption) | assumption)
           obtain ⟨ad212, e212, hx212_0, hx212_1, hx212_2⟩ := at_T51 HR0_2.out x38_2 p212 q212
           cases e212
           (try replace hx212_0 := (HB.out.cell (World.block_lt_of_cell? w _ hx212_0)).trans hx212_0)
           (try replace hx212_1 := (HB.out.cell (World.block_lt_of_cell? w _ hx212_1)).trans hx212_1)
           (try replace hx212_2 := (HB.out.cell (World.block_lt_of_cell? w _ hx212_2)).trans hx212_2)
           replace p212 := eq_true p212
           replace q212 := eq_true q212
           try go_wp2_with (first | ((with_reducible refine gate_dst (N := 4) rfl ?_); (try (refine gate_guard (by rfl) ?_; dsimp only)); refine Sh.bx (N := 4) (cs := #[.int .i64 0, .int .i64 0, .int .i64 0]) (t := 51) (h := ?_); intro gb213 hg w28 hbox hb; have n0_ := am_ (Sh.bb BK209.out hb); have n1_ := am_ (below_step Sh.bw hb); have n2_ := am_ (hbox); have n3_ := am_ (Sh.gw (w := w) hg); have n4_ := am_ (Sh.gw (w := w) hg); have n5_ := am_ (Sh.nl hg BK209.out); have n6_ := am_ (Sh.ng hg BK209.out); clear BK209; clear HB; have BK209 := n0_; have HB := n1_; have BK213 := n2_; have GW213 := n3_; have GE213 := n4_; have NB209_213 := n5_; have NB213_209 := n6_; clear n0_ n1_ n2_ n3_ n4_ n5_ n6_; clear hb hbox hg; have hnb29 := NB213_209.out; have hnc29 := NB209_213.out; have hcz30_0 := Sh.bc BK213.out 0; have hcz30_1 := Sh.bc BK213.out 1; have hcz30_2 := Sh.bc BK213.out 2; have hfz30_0 := blk_frozen BK213.out 0; have hfz30_1 := blk_frozen BK213.out 1; have hfz30_2 := blk_frozen BK213.out 2))
           have n0_ : Aside0 ((((w28.setCell ⟨gb213, 0, none⟩ (.int .i64 ((rd_T51 l0_2 x38_2).f0))).setCell ⟨gb213, 1, none⟩ (.int .i64 ((rd_T51 l0_2 x38_2).f1))).setCell ⟨gb213, 2, none⟩ (.int .i64 ((rd_T51 l0_2 x38_2).f2))).heap[gb209]? = some (.cells #[.int .i64 a0_0, .slice A0_1 l0_1.length c0_1, .slice (some ad212) l0_2.length c0_2, .slice A0_3 l0_3.length c0_3] 32 (0, 0))) := ⟨by (with_reducible repeat (first | refine blk_drewN ?_ _ | refine blk_drew ?_ | refine blk_alloc ?_ _)); refine blk_far ?_ NB209_213.out _; (with_reducible repeat (first | refine blk_drewN ?_ _ | refine blk_drew ?_ | refine blk_alloc ?_ _)); refine blk_far ?_ NB209_213.out _; (with_reducible repeat (first | refine blk_drewN ?_ _ | refine blk_drew ?_ | refine blk_alloc ?_ _)); refine blk_far ?_ NB209_213.out _; (with_reducible repeat (first | refine blk_drewN ?_ _ | refine blk_drew ?_ | refine blk_alloc ?_ _)); exact BK209.out⟩
           have n1_ : Aside0 ((((w28.setCell ⟨gb213, 0, none⟩ (.int .i64 ((rd_T51 l0_2 x38_2).f0))).setCell ⟨gb213, 1, none⟩ (.int .i64 ((rd_T51 l0_2 x38_2).f1))).setCell ⟨gb213, 2, none⟩ (.int .i64 ((rd_T51 l0_2 x38_2).f2))).heap[gb213]? = some (.cells #[.int .i64 ((rd_T51 l0_2 x38_2).f0), .int .i64 ((rd_T51 l0_2 x38_2).f1), .int .i64 ((rd_T51 l0_2 x38_2).f2)] 51 (0, 0))) := ⟨by (with_reducible repeat (first | refine blk_drewN ?_ _ | refine blk_drew ?_ | refine blk_alloc ?_ _)); refine blk_put (cs := #[.int .i64 ((rd_T51 l0_2 x38_2).f0), .int .i64 ((rd_T51 l0_2 x38_2).f1), .int .i64 0]) ?_ 2 _ rfl; (with_reducible repeat (first | refine blk_drewN ?_ _ | refine blk_drew ?_ | refine blk_alloc ?_ _)); refine blk_put (cs := #[.int .i64 ((rd_T51 l0_2 x38_2).f0), .int .i64 0, .int .i64 0]) ?_ 1 _ rfl; (with_reducible repeat (first | refine blk_drewN ?_ _ | refine blk_drew ?_ | refine blk_alloc ?_ _)); refine blk_put (cs := #[.int .i64 0, .int .i64 0, .int .i64 0]) ?_ 0 _ rfl; (with_reducible repeat (first | refine blk_drewN ?_ _ | refine blk_drew ?_ | refine blk_alloc ?_ _)); exact BK213.out⟩
           have n2_ : Aside0 (Below w.heap.size w (((w28.setCell ⟨gb213, 0, none⟩ (.int .i64 ((rd_T51 l0_2 x38_2).f0))).setCell ⟨gb213, 1, none⟩ (.int .i64 ((rd_T51 l0_2 x38_2).f1))).setCell ⟨gb213, 2, none⟩ (.int .i64 ((rd_T51 l0_2 x38_2).f2)))) := ⟨by repeat (first | (with_reducible first | exact HB.out | apply below_alloc | apply pw_below_drewN | apply below_drew1 | refine below_set ?_ GE209.out | refine below_set ?_ GE213.out) | exact HB.out)⟩
           (try clear BK209)
           (try clear BK213)
           (try clear HB)
           generalize (((w28.setCell ⟨gb213, 0, none⟩ (.int .i64 ((rd_T51 l0_2 x38_2).f0))).setCell ⟨gb213, 1, none⟩ (.int .i64 ((rd_T51 l0_2 x38_2).f1))).setCell ⟨gb213, 2, none⟩ (.int .i64 ((rd_T51 l0_2 x38_2).f2))) = w31 at n0_ n1_ n2_ ⊢
           have BK209 := n0_
           have BK213 := n1_
           have HB := n2_
           clear n0_ n1_ n2_
           have n0_ := am_ (blk_drew BK209.out)
           have n1_ := am_ (blk_drew BK213.out)
           have n2_ := am_ (below_drew1 HB.out)
           clear BK209
           clear BK213
           clear HB
           have BK209 := n0_
           have BK213 := n1_
           have HB := n2_
           clear n0_ n1_ n2_
           refine start_ (n := 47) (S := fun w' => w'.cell? ⟨gb213, 0, none⟩ = some (.int .i64 ((rd_T51 l0_2 x38_2).f0)) ∧ w'.cell? ⟨gb213, 1, none⟩ = some (.int .i64 ((rd_T51 l0_2 x38_2).f1)) ∧ w'.cell? ⟨gb213, 2, none⟩ = some (.int .i64 ((rd_T51 l0_2 x38_2).f2)) ∧ w'.cell? ⟨gb209, 0, none⟩ = some (.int .i64 a0_0) ∧ w'.cell? ⟨gb209, 1, none⟩ = some (.slice A0_1 l0_1.length c0_1) ∧ w'.cell? ⟨gb209, 2, none⟩ = some (.slice (some ad212) l0_2.length c0_2) ∧ w'.cell? ⟨gb209, 3, none⟩ = some (.slice A0_3 l0_3.length c0_3)) (ds := []) #[false, false, false, false, false, false, false, false, false, false, false, false, false, false, false, false, false, false, false, false, false, false, false, false, false, false, false, false, false, false, false, false, false, false, false, false, false, false, false, false, false, false, false, false, false, false, false] (by kernel_rfl) rfl rfl ⟨(blk_cell BK213.out 0).trans rfl, (blk_cell BK213.out 1).trans rfl, (blk_cell BK213.out 2).trans rfl, (blk_cell BK209.out 0).trans rfl, (blk_cell BK209.out 1).trans rfl, (blk_cell BK209.out 2).trans rfl, (blk_cell BK209.out 3).trans rfl⟩ (fun hHeld => ?_); refine with_tabW impl_GoodAuto.tab6 impl_GoodAuto.bits6 (fun HT_ HW_ => ?_)
           generalize w31.drew = w32 at BK209 BK213 HB hHeld ⊢
           refine Sh.pA 0 43 (Sh.pre 47 1) (any_of HT_.out (by kernel_rfl)) ?_
           refine Sh.tA 1 44 (Sh.pre 47 2) (take_ofW HT_.out HW_.out (by kernel_rfl)) hHeld ?_ (hy := by rintro w' ⟨s0, s1, s2, s3, s4, s5, s6⟩; go_simp; with_reducible rfl)
           refine Sh.pA 2 45 (Sh.pre 47 3) (any_of HT_.out (by kernel_rfl)) ?_
           refine Sh.pA 3 46 (Sh.pre 47 4) (any_of HT_.out (by kernel_rfl)) ?_
           refine Sh.pA 4 47 (Sh.pre 47 5) (any_of HT_.out (by kernel_rfl)) ?_
           refine Sh.pA 6 49 #[true, true, true, true, true, false, true, false, false, false, false, false, false, false, false, false, false, false, false, false, false, false, false, false, false, false, false, false, false, false, false, false, false, false, false, false, false, false, false, false, false, false, false, false, false, false, false] (any_of HT_.out (by kernel_rfl)) ?_
           refine Sh.tA 5 48 (Sh.pre 47 7) (take_ofW HT_.out HW_.out (by kernel_rfl)) hHeld ?_ (hy := by rintro w' ⟨s0, s1, s2, s3, s4, s5, s6⟩; go_simp; with_reducible rfl)
           refine Sh.tA 7 50 (Sh.pre 47 8) (take_ofW HT_.out HW_.out (by kernel_rfl)) hHeld ?_ (hy := by rintro w' ⟨s0, s1, s2, s3, s4, s5, s6⟩; go_simp; with_reducible rfl)
           refine Sh.pA 8 51 (Sh.pre 47 9) (any_of HT_.out (by kernel_rfl)) ?_
           refine Sh.pA 9 52 (Sh.pre 47 10) (any_of HT_.out (by kernel_rfl)) ?_
           refine Sh.pA 10 53 (Sh.pre 47 11) (any_of HT_.out (by kernel_rfl)) ?_
           refine Sh.pU 11 54 (Sh.pre 47 12) (any_of HT_.out (by kernel_rfl)) ?_
           refine Sh.pU 12 55 (Sh.pre 47 13) (any_of HT_.out (by kernel_rfl)) ?_
           refine Sh.pU 13 56 (Sh.pre 47 14) (any_of HT_.out (by kernel_rfl)) ?_
           refine Sh.pA 14 57 (Sh.pre 47 15) (any_of HT_.out (by kernel_rfl)) ?_
           refine Sh.pA 15 58 (Sh.pre 47 16) (any_of HT_.out (by kernel_rfl)) ?_
           refine Sh.pU 16 59 (Sh.pre 47 17) (any_of HT_.out (by kernel_rfl)) ?_
           refine Sh.pU 17 60 (Sh.pre 47 18) (any_of HT_.out (by kernel_rfl)) ?_
           refine Sh.pU 18 61 (Sh.pre 47 19) (any_of HT_.out (by kernel_rfl)) ?_
           refine Sh.pU 19 62 (Sh.pre 47 20) (any_of HT_.out (by kernel_rfl)) ?_
           refine Sh.pU 20 63 (Sh.pre 47 21) (any_of HT_.out (by kernel_rfl)) ?_
           refine Sh.pA 21 64 (Sh.pre 47 22) (any_of HT_.out (by kernel_rfl)) ?_
           refine Sh.pA 22 65 (Sh.pre 47 23) (any_of HT_.out (by kernel_rfl)) ?_
           refine Sh.pU 23 66 (Sh.pre 47 24) (any_of HT_.out (by kernel_rfl)) ?_
           refine Sh.pU 24 67 (Sh.pre 47 25) (any_of HT_.out (by kernel_rfl)) ?_
           refine Sh.pU 25 68 (Sh.pre 47 26) (any_of HT_.out (by kernel_rfl)) ?_
           refine Sh.pA 26 69 (Sh.pre 47 27) (any_of HT_.out (by kernel_rfl)) ?_
           refine Sh.pA 27 70 (Sh.pre 47 28) (any_of HT_.out (by kernel_rfl)) ?_
           refine Sh.pU 28 71 (Sh.pre 47 29) (any_of HT_.out (by kernel_rfl)) ?_
           refine Sh.pU 29 72 (Sh.pre 47 30) (any_of HT_.out (by kernel_rfl)) ?_
           refine Sh.pU 30 73 (Sh.pre 47 31) (any_of HT_.out (by kernel_rfl)) ?_
           refine Sh.pA 31 74 (Sh.pre 47 32) (any_of HT_.out (by kernel_rfl)) ?_
           refine Sh.pA 32 75 (Sh.pre 47 33) (any_of HT_.out (by kernel_rfl)) ?_
           refine Sh.pU 33 76 (Sh.pre 47 34) (any_of HT_.out (by kernel_rfl)) ?_
           refine Sh.pU 34 77 (Sh.pre 47 35) (any_of HT_.out (by kernel_rfl)) ?_
           refine Sh.pU 35 78 (Sh.pre 47 36) (any_of HT_.out (by kernel_rfl)) ?_
           refine Sh.pU 36 79 (Sh.pre 47 37) (any_of HT_.out (by kernel_rfl)) ?_
           refine Sh.pU 37 80 (Sh.pre 47 38) (any_of HT_.out (by kernel_rfl)) ?_
           refine Sh.pU 38 81 (Sh.pre 47 39) (any_of HT_.out (by kernel_rfl)) ?_
           refine Sh.pU 39 82 (Sh.pre 47 40) (any_of HT_.out (by kernel_rfl)) ?_
           refine Sh.pU 40 83 (Sh.pre 47 41) (any_of HT_.out (by kernel_rfl)) ?_
           refine Sh.pU 41 84 (Sh.pre 47 42) (any_of HT_.out (by kernel_rfl)) ?_
           refine Sh.pU 42 85 (Sh.pre 47 43) (any_of HT_.out (by kernel_rfl)) ?_
           refine Sh.pU 43 86 (Sh.pre 47 44) (any_of HT_.out (by kernel_rfl)) ?_
           refine Sh.pU 44 87 (Sh.pre 47 45) (any_of HT_.out (by kernel_rfl)) ?_
           refine Sh.pU 45 88 (Sh.pre 47 46) (any_of HT_.out (by kernel_rfl)) ?_
           refine Sh.pA 46 89 (Sh.pre 47 47) (any_of HT_.out (by kernel_rfl)) ?_
           refine done_ (done_of HT_.out (by kernel_rfl)) ?_
           try go_wp2
           go_ret
           exact ⟨Sh.eR, Sh.bw⟩
          ·rw [if_neg c27] at H
           have c27b0 : decide (a0_0 ≤ ((rd_T51 l0_2 x38_2).f0)) = false := decide_eq_false c27
           clear c27
           by_cases c33 : ((rd_T51 l0_2 x38_2).f2) < 0
           ·rw [if_pos c33] at H
            have c33b0 : decide (((rd_T51 l0_2 x38_2).f2) < 0) = true := decide_eq_true c33
            clear c33
            obtain rfl := Option.some.inj H
            have p212 : 0 ≤ (x38_2 : Int) := of_decide_eq_true (by first | (with_reducible assumption) | assumption)
            have q212 : x38_2 < (l0_2.length : Int) := of_decide_eq_true (by first | (with_reducible assumption) | assumption)
            obtain ⟨ad212, e212, hx212_0, hx212_1, hx212_2⟩ := at_T51 HR0_2.out x38_2 p212 q212
            cases e212
            (try replace hx212_0 := (HB.out.cell (World.block_lt_of_cell? w _ hx212_0)).trans hx212_0)
            (try replace hx212_1 := (HB.out.cell (World.block_lt_of_cell? w _ hx212_1)).trans hx212_1)
            (try replace hx212_2 := (HB.out.cell (World.block_lt_of_cell? w _ hx212_2)).trans hx212_2)
            replace p212 := eq_true p212
            replace q212 := eq_true q212
            try go_wp2_with (first | ((with_reducible refine gate_dst (N := 4) rfl ?_); (try (refine gate_guard (by rfl) ?_; dsimp only)); refine Sh.bx (N := 4) (cs := #[.int .i64 0, .int .i64 0, .int .i64 0]) (t := 51) (h := ?_); intro gb213 hg w34 hbox hb; have n0_ := am_ (Sh.bb BK209.out hb); have n1_ := am_ (below_step Sh.bw hb); have n2_ := am_ (hbox); have n3_ := am_ (Sh.gw (w := w) hg); have n4_ := am_ (Sh.gw (w := w) hg); have n5_ := am_ (Sh.nl hg BK209.out); have n6_ := am_ (Sh.ng hg BK209.out); clear BK209; clear HB; have BK209 := n0_; have HB := n1_; have BK213 := n2_; have GW213 := n3_; have GE213 := n4_; have NB209_213 := n5_; have NB213_209 := n6_; clear n0_ n1_ n2_ n3_ n4_ n5_ n6_; clear hb hbox hg; have hnb35 := NB213_209.out; have hnc35 := NB209_213.out; have hcz36_0 := Sh.bc BK213.out 0; have hcz36_1 := Sh.bc BK213.out 1; have hcz36_2 := Sh.bc BK213.out 2; have hfz36_0 := blk_frozen BK213.out 0; have hfz36_1 := blk_frozen BK213.out 1; have hfz36_2 := blk_frozen BK213.out 2))
            have n0_ : Aside0 ((((w34.setCell ⟨gb213, 0, none⟩ (.int .i64 ((rd_T51 l0_2 x38_2).f0))).setCell ⟨gb213, 1, none⟩ (.int .i64 ((rd_T51 l0_2 x38_2).f1))).setCell ⟨gb213, 2, none⟩ (.int .i64 ((rd_T51 l0_2 x38_2).f2))).heap[gb209]? = some (.cells #[.int .i64 a0_0, .slice A0_1 l0_1.length c0_1, .slice (some ad212) l0_2.length c0_2, .slice A0_3 l0_3.length c0_3] 32 (0, 0))) := ⟨by (with_reducible repeat (first | refine blk_drewN ?_ _ | refine blk_drew ?_ | refine blk_alloc ?_ _)); refine blk_far ?_ NB209_213.out _; (with_reducible repeat (first | refine blk_drewN ?_ _ | refine blk_drew ?_ | refine blk_alloc ?_ _)); refine blk_far ?_ NB209_213.out _; (with_reducible repeat (first | refine blk_drewN ?_ _ | refine blk_drew ?_ | refine blk_alloc ?_ _)); refine blk_far ?_ NB209_213.out _; (with_reducible repeat (first | refine blk_drewN ?_ _ | refine blk_drew ?_ | refine blk_alloc ?_ _)); exact BK209.out⟩
            have n1_ : Aside0 ((((w34.setCell ⟨gb213, 0, none⟩ (.int .i64 ((rd_T51 l0_2 x38_2).f0))).setCell ⟨gb213, 1, none⟩ (.int .i64 ((rd_T51 l0_2 x38_2).f1))).setCell ⟨gb213, 2, none⟩ (.int .i64 ((rd_T51 l0_2 x38_2).f2))).heap[gb213]? = some (.cells #[.int .i64 ((rd_T51 l0_2 x38_2).f0), .int .i64 ((rd_T51 l0_2 x38_2).f1), .int .i64 ((rd_T51 l0_2 x38_2).f2)] 51 (0, 0))) := ⟨by (with_reducible repeat (first | refine blk_drewN ?_ _ | refine blk_drew ?_ | refine blk_alloc ?_ _)); refine blk_put (cs := #[.int .i64 ((rd_T51 l0_2 x38_2).f0), .int .i64 ((rd_T51 l0_2 x38_2).f1), .int .i64 0]) ?_ 2 _ rfl; (with_reducible repeat (first | refine blk_drewN ?_ _ | refine blk_drew ?_ | refine blk_alloc ?_ _)); refine blk_put (cs := #[.int .i64 ((rd_T51 l0_2 x38_2).f0), .int .i64 0, .int .i64 0]) ?_ 1 _ rfl; (with_reducible repeat (first | refine blk_drewN ?_ _ | refine blk_drew ?_ | refine blk_alloc ?_ _)); refine blk_put (cs := #[.int .i64 0, .int .i64 0, .int .i64 0]) ?_ 0 _ rfl; (with_reducible repeat (first | refine blk_drewN ?_ _ | refine blk_drew ?_ | refine blk_alloc ?_ _)); exact BK213.out⟩
            have n2_ : Aside0 (Below w.heap.size w (((w34.setCell ⟨gb213, 0, none⟩ (.int .i64 ((rd_T51 l0_2 x38_2).f0))).setCell ⟨gb213, 1, none⟩ (.int .i64 ((rd_T51 l0_2 x38_2).f1))).setCell ⟨gb213, 2, none⟩ (.int .i64 ((rd_T51 l0_2 x38_2).f2)))) := ⟨by repeat (first | (with_reducible first | exact HB.out | apply below_alloc | apply pw_below_drewN | apply below_drew1 | refine below_set ?_ GE209.out | refine below_set ?_ GE213.out) | exact HB.out)⟩
            (try clear BK209)
            (try clear BK213)
            (try clear HB)
            generalize (((w34.setCell ⟨gb213, 0, none⟩ (.int .i64 ((rd_T51 l0_2 x38_2).f0))).setCell ⟨gb213, 1, none⟩ (.int .i64 ((rd_T51 l0_2 x38_2).f1))).setCell ⟨gb213, 2, none⟩ (.int .i64 ((rd_T51 l0_2 x38_2).f2))) = w37 at n0_ n1_ n2_ ⊢
            have BK209 := n0_
            have BK213 := n1_
            have HB := n2_
            clear n0_ n1_ n2_
            have n0_ := am_ (blk_drew BK209.out)
            have n1_ := am_ (blk_drew BK213.out)
            have n2_ := am_ (below_drew1 HB.out)
            clear BK209
            clear BK213
            clear HB
            have BK209 := n0_
            have BK213 := n1_
            have HB := n2_
            clear n0_ n1_ n2_
            refine start_ (n := 47) (S := fun w' => w'.cell? ⟨gb213, 0, none⟩ = some (.int .i64 ((rd_T51 l0_2 x38_2).f0)) ∧ w'.cell? ⟨gb213, 1, none⟩ = some (.int .i64 ((rd_T51 l0_2 x38_2).f1)) ∧ w'.cell? ⟨gb213, 2, none⟩ = some (.int .i64 ((rd_T51 l0_2 x38_2).f2)) ∧ w'.cell? ⟨gb209, 0, none⟩ = some (.int .i64 a0_0) ∧ w'.cell? ⟨gb209, 1, none⟩ = some (.slice A0_1 l0_1.length c0_1) ∧ w'.cell? ⟨gb209, 2, none⟩ = some (.slice (some ad212) l0_2.length c0_2) ∧ w'.cell? ⟨gb209, 3, none⟩ = some (.slice A0_3 l0_3.length c0_3)) (ds := []) #[false, false, false, false, false, false, false, false, false, false, false, false, false, false, false, false, false, false, false, false, false, false, false, false, false, false, false, false, false, false, false, false, false, false, false, false, false, false, false, false, false, false, false, false, false, false, false] (by kernel_rfl) rfl rfl ⟨(blk_cell BK213.out 0).trans rfl, (blk_cell BK213.out 1).trans rfl, (blk_cell BK213.out 2).trans rfl, (blk_cell BK209.out 0).trans rfl, (blk_cell BK209.out 1).trans rfl, (blk_cell BK209.out 2).trans rfl, (blk_cell BK209.out 3).trans rfl⟩ (fun hHeld => ?_); refine with_tabW impl_GoodAuto.tab6 impl_GoodAuto.bits6 (fun HT_ HW_ => ?_)
            generalize w37.drew = w38 at BK209 BK213 HB hHeld ⊢
            refine Sh.pA 0 43 (Sh.pre 47 1) (any_of HT_.out (by kernel_rfl)) ?_
            refine Sh.tA 1 44 (Sh.pre 47 2) (take_ofW HT_.out HW_.out (by kernel_rfl)) hHeld ?_ (hy := by rintro w' ⟨s0, s1, s2, s3, s4, s5, s6⟩; go_simp; with_reducible rfl)
            refine Sh.pA 2 45 (Sh.pre 47 3) (any_of HT_.out (by kernel_rfl)) ?_
            refine Sh.pA 3 46 (Sh.pre 47 4) (any_of HT_.out (by kernel_rfl)) ?_
            refine Sh.pA 4 47 (Sh.pre 47 5) (any_of HT_.out (by kernel_rfl)) ?_
            refine Sh.pA 6 49 #[true, true, true, true, true, false, true, false, false, false, false, false, false, false, false, false, false, false, false, false, false, false, false, false, false, false, false, false, false, false, false, false, false, false, false, false, false, false, false, false, false, false, false, false, false, false, false] (any_of HT_.out (by kernel_rfl)) ?_
            refine Sh.tA 5 48 (Sh.pre 47 7) (take_ofW HT_.out HW_.out (by kernel_rfl)) hHeld ?_ (hy := by rintro w' ⟨s0, s1, s2, s3, s4, s5, s6⟩; go_simp; with_reducible rfl)
            refine Sh.tA 7 50 (Sh.pre 47 8) (take_ofW HT_.out HW_.out (by kernel_rfl)) hHeld ?_ (hy := by rintro w' ⟨s0, s1, s2, s3, s4, s5, s6⟩; go_simp; with_reducible rfl)
            refine Sh.pA 8 51 (Sh.pre 47 9) (any_of HT_.out (by kernel_rfl)) ?_
            refine Sh.pA 9 52 (Sh.pre 47 10) (any_of HT_.out (by kernel_rfl)) ?_
            refine Sh.pA 10 53 (Sh.pre 47 11) (any_of HT_.out (by kernel_rfl)) ?_
            refine Sh.pA 11 54 (Sh.pre 47 12) (any_of HT_.out (by kernel_rfl)) ?_
            refine Sh.tA 12 55 (Sh.pre 47 13) (take_ofW HT_.out HW_.out (by kernel_rfl)) hHeld ?_ (hy := by rintro w' ⟨s0, s1, s2, s3, s4, s5, s6⟩; go_simp; with_reducible rfl)
            refine Sh.pA 13 56 (Sh.pre 47 14) (any_of HT_.out (by kernel_rfl)) ?_
            refine Sh.pA 14 57 (Sh.pre 47 15) (any_of HT_.out (by kernel_rfl)) ?_
            refine Sh.pA 15 58 (Sh.pre 47 16) (any_of HT_.out (by kernel_rfl)) ?_
            refine Sh.pU 16 59 (Sh.pre 47 17) (any_of HT_.out (by kernel_rfl)) ?_
            refine Sh.pU 17 60 (Sh.pre 47 18) (any_of HT_.out (by kernel_rfl)) ?_
            refine Sh.pU 18 61 (Sh.pre 47 19) (any_of HT_.out (by kernel_rfl)) ?_
            refine Sh.pU 19 62 (Sh.pre 47 20) (any_of HT_.out (by kernel_rfl)) ?_
            refine Sh.pU 20 63 (Sh.pre 47 21) (any_of HT_.out (by kernel_rfl)) ?_
            refine Sh.pA 21 64 (Sh.pre 47 22) (any_of HT_.out (by kernel_rfl)) ?_
            refine Sh.pA 22 65 (Sh.pre 47 23) (any_of HT_.out (by kernel_rfl)) ?_
            refine Sh.pU 23 66 (Sh.pre 47 24) (any_of HT_.out (by kernel_rfl)) ?_
            refine Sh.pU 24 67 (Sh.pre 47 25) (any_of HT_.out (by kernel_rfl)) ?_
            refine Sh.pU 25 68 (Sh.pre 47 26) (any_of HT_.out (by kernel_rfl)) ?_
            refine Sh.pA 26 69 (Sh.pre 47 27) (any_of HT_.out (by kernel_rfl)) ?_
            refine Sh.pA 27 70 (Sh.pre 47 28) (any_of HT_.out (by kernel_rfl)) ?_
            refine Sh.pU 28 71 (Sh.pre 47 29) (any_of HT_.out (by kernel_rfl)) ?_
            refine Sh.pU 29 72 (Sh.pre 47 30) (any_of HT_.out (by kernel_rfl)) ?_
            refine Sh.pU 30 73 (Sh.pre 47 31) (any_of HT_.out (by kernel_rfl)) ?_
            refine Sh.pA 31 74 (Sh.pre 47 32) (any_of HT_.out (by kernel_rfl)) ?_
            refine Sh.pA 32 75 (Sh.pre 47 33) (any_of HT_.out (by kernel_rfl)) ?_
            refine Sh.pU 33 76 (Sh.pre 47 34) (any_of HT_.out (by kernel_rfl)) ?_
            refine Sh.pU 34 77 (Sh.pre 47 35) (any_of HT_.out (by kernel_rfl)) ?_
            refine Sh.pU 35 78 (Sh.pre 47 36) (any_of HT_.out (by kernel_rfl)) ?_
            refine Sh.pU 36 79 (Sh.pre 47 37) (any_of HT_.out (by kernel_rfl)) ?_
            refine Sh.pU 37 80 (Sh.pre 47 38) (any_of HT_.out (by kernel_rfl)) ?_
            refine Sh.pU 38 81 (Sh.pre 47 39) (any_of HT_.out (by kernel_rfl)) ?_
            refine Sh.pU 39 82 (Sh.pre 47 40) (any_of HT_.out (by kernel_rfl)) ?_
            refine Sh.pU 40 83 (Sh.pre 47 41) (any_of HT_.out (by kernel_rfl)) ?_
            refine Sh.pU 41 84 (Sh.pre 47 42) (any_of HT_.out (by kernel_rfl)) ?_
            refine Sh.pU 42 85 (Sh.pre 47 43) (any_of HT_.out (by kernel_rfl)) ?_
            refine Sh.pU 43 86 (Sh.pre 47 44) (any_of HT_.out (by kernel_rfl)) ?_
            refine Sh.pU 44 87 (Sh.pre 47 45) (any_of HT_.out (by kernel_rfl)) ?_
            refine Sh.pU 45 88 (Sh.pre 47 46) (any_of HT_.out (by kernel_rfl)) ?_
            refine Sh.pA 46 89 (Sh.pre 47 47) (any_of HT_.out (by kernel_rfl)) ?_
            refine done_ (done_of HT_.out (by kernel_rfl)) ?_
            try go_wp2
            go_ret
            exact ⟨Sh.eR, Sh.bw⟩
           ·rw [if_neg c33] at H
            have c33b0 : decide (((rd_T51 l0_2 x38_2).f2) < 0) = false := decide_eq_false c33
            clear c33
            by_cases c39 : ((rd_T51 l0_2 x38_2).f2) ≥ a0_0
            ·rw [if_pos c39] at H
             have c39b0 : decide (a0_0 ≤ ((rd_T51 l0_2 x38_2).f2)) = true := decide_eq_true c39
             clear c39
             obtain rfl := Option.some.inj H
             have p212 : 0 ≤ (x38_2 : Int) := of_decide_eq_true (by first | (with_reducible assumption) | assumption)
             have q212 : x38_2 < (l0_2.length : Int) := of_decide_eq_true (by first | (with_reducible assumption) | assumption)
             obtain ⟨ad212, e212, hx212_0, hx212_1, hx212_2⟩ := at_T51 HR0_2.out x38_2 p212 q212
             cases e212
             (try replace hx212_0 := (HB.out.cell (World.block_lt_of_cell? w _ hx212_0)).trans hx212_0)
             (try replace hx212_1 := (HB.out.cell (World.block_lt_of_cell? w _ hx212_1)).trans hx212_1)
             (try replace hx212_2 := (HB.out.cell (World.block_lt_of_cell? w _ hx212_2)).trans hx212_2)
             replace p212 := eq_true p212
             replace q212 := eq_true q212
             try go_wp2_with (first | ((with_reducible refine gate_dst (N := 4) rfl ?_); (try (refine gate_guard (by rfl) ?_; dsimp only)); refine Sh.bx (N := 4) (cs := #[.int .i64 0, .int .i64 0, .int .i64 0]) (t := 51) (h := ?_); intro gb213 hg w40 hbox hb; have n0_ := am_ (Sh.bb BK209.out hb); have n1_ := am_ (below_step Sh.bw hb); have n2_ := am_ (hbox); have n3_ := am_ (Sh.gw (w := w) hg); have n4_ := am_ (Sh.gw (w := w) hg); have n5_ := am_ (Sh.nl hg BK209.out); have n6_ := am_ (Sh.ng hg BK209.out); clear BK209; clear HB; have BK209 := n0_; have HB := n1_; have BK213 := n2_; have GW213 := n3_; have GE213 := n4_; have NB209_213 := n5_; have NB213_209 := n6_; clear n0_ n1_ n2_ n3_ n4_ n5_ n6_; clear hb hbox hg; have hnb41 := NB213_209.out; have hnc41 := NB209_213.out; have hcz42_0 := Sh.bc BK213.out 0; have hcz42_1 := Sh.bc BK213.out 1; have hcz42_2 := Sh.bc BK213.out 2; have hfz42_0 := blk_frozen BK213.out 0; have hfz42_1 := blk_frozen BK213.out 1; have hfz42_2 := blk_frozen BK213.out 2))
             have n0_ : Aside0 ((((w40.setCell ⟨gb213, 0, none⟩ (.int .i64 ((rd_T51 l0_2 x38_2).f0))).setCell ⟨gb213, 1, none⟩ (.int .i64 ((rd_T51 l0_2 x38_2).f1))).setCell ⟨gb213, 2, none⟩ (.int .i64 ((rd_T51 l0_2 x38_2).f2))).heap[gb209]? = some (.cells #[.int .i64 a0_0, .slice A0_1 l0_1.length c0_1, .slice (some ad212) l0_2.length c0_2, .slice A0_3 l0_3.length c0_3] 32 (0, 0))) := ⟨by (with_reducible repeat (first | refine blk_drewN ?_ _ | refine blk_drew ?_ | refine blk_alloc ?_ _)); refine blk_far ?_ NB209_213.out _; (with_reducible repeat (first | refine blk_drewN ?_ _ | refine blk_drew ?_ | refine blk_alloc ?_ _)); refine blk_far ?_ NB209_213.out _; (with_reducible repeat (first | refine blk_drewN ?_ _ | refine blk_drew ?_ | refine blk_alloc ?_ _)); refine blk_far ?_ NB209_213.out _; (with_reducible repeat (first | refine blk_drewN ?_ _ | refine blk_drew ?_ | refine blk_alloc ?_ _)); exact BK209.out⟩
             have n1_ : Aside0 ((((w40.setCell ⟨gb213, 0, none⟩ (.int .i64 ((rd_T51 l0_2 x38_2).f0))).setCell ⟨gb213, 1, none⟩ (.int .i64 ((rd_T51 l0_2 x38_2).f1))).setCell ⟨gb213, 2, none⟩ (.int .i64 ((rd_T51 l0_2 x38_2).f2))).heap[gb213]? = some (.cells #[.int .i64 ((rd_T51 l0_2 x38_2).f0), .int .i64 ((rd_T51 l0_2 x38_2).f1), .int .i64 ((rd_T51 l0_2 x38_2).f2)] 51 (0, 0))) := ⟨by (with_reducible repeat (first | refine blk_drewN ?_ _ | refine blk_drew ?_ | refine blk_alloc ?_ _)); refine blk_put (cs := #[.int .i64 ((rd_T51 l0_2 x38_2).f0), .int .i64 ((rd_T51 l0_2 x38_2).f1), .int .i64 0]) ?_ 2 _ rfl; (with_reducible repeat (first | refine blk_drewN ?_ _ | refine blk_drew ?_ | refine blk_alloc ?_ _)); refine blk_put (cs := #[.int .i64 ((rd_T51 l0_2 x38_2).f0), .int .i64 0, .int .i64 0]) ?_ 1 _ rfl; (with_reducible repeat (first | refine blk_drewN ?_ _ | refine blk_drew ?_ | refine blk_alloc ?_ _)); refine blk_put (cs := #[.int .i64 0, .int .i64 0, .int .i64 0]) ?_ 0 _ rfl; (with_reducible repeat (first | refine blk_drewN ?_ _ | refine blk_drew ?_ | refine blk_alloc ?_ _)); exact BK213.out⟩
             have n2_ : Aside0 (Below w.heap.size w (((w40.setCell ⟨gb213, 0, none⟩ (.int .i64 ((rd_T51 l0_2 x38_2).f0))).setCell ⟨gb213, 1, none⟩ (.int .i64 ((rd_T51 l0_2 x38_2).f1))).setCell ⟨gb213, 2, none⟩ (.int .i64 ((rd_T51 l0_2 x38_2).f2)))) := ⟨by repeat (first | (with_reducible first | exact HB.out | apply below_alloc | apply pw_below_drewN | apply below_drew1 | refine below_set ?_ GE209.out | refine below_set ?_ GE213.out) | exact HB.out)⟩
             (try clear BK209)
             (try clear BK213)
             (try clear HB)
             generalize (((w40.setCell ⟨gb213, 0, none⟩ (.int .i64 ((rd_T51 l0_2 x38_2).f0))).setCell ⟨gb213, 1, none⟩ (.int .i64 ((rd_T51 l0_2 x38_2).f1))).setCell ⟨gb213, 2, none⟩ (.int .i64 ((rd_T51 l0_2 x38_2).f2))) = w43 at n0_ n1_ n2_ ⊢
             have BK209 := n0_
             have BK213 := n1_
             have HB := n2_
             clear n0_ n1_ n2_
             have n0_ := am_ (blk_drew BK209.out)
             have n1_ := am_ (blk_drew BK213.out)
             have n2_ := am_ (below_drew1 HB.out)
             clear BK209
             clear BK213
             clear HB
             have BK209 := n0_
             have BK213 := n1_
             have HB := n2_
             clear n0_ n1_ n2_
             refine start_ (n := 47) (S := fun w' => w'.cell? ⟨gb213, 0, none⟩ = some (.int .i64 ((rd_T51 l0_2 x38_2).f0)) ∧ w'.cell? ⟨gb213, 1, none⟩ = some (.int .i64 ((rd_T51 l0_2 x38_2).f1)) ∧ w'.cell? ⟨gb213, 2, none⟩ = some (.int .i64 ((rd_T51 l0_2 x38_2).f2)) ∧ w'.cell? ⟨gb209, 0, none⟩ = some (.int .i64 a0_0) ∧ w'.cell? ⟨gb209, 1, none⟩ = some (.slice A0_1 l0_1.length c0_1) ∧ w'.cell? ⟨gb209, 2, none⟩ = some (.slice (some ad212) l0_2.length c0_2) ∧ w'.cell? ⟨gb209, 3, none⟩ = some (.slice A0_3 l0_3.length c0_3)) (ds := []) #[false, false, false, false, false, false, false, false, false, false, false, false, false, false, false, false, false, false, false, false, false, false, false, false, false, false, false, false, false, false, false, false, false, false, false, false, false, false, false, false, false, false, false, false, false, false, false] (by kernel_rfl) rfl rfl ⟨(blk_cell BK213.out 0).trans rfl, (blk_cell BK213.out 1).trans rfl, (blk_cell BK213.out 2).trans rfl, (blk_cell BK209.out 0).trans rfl, (blk_cell BK209.out 1).trans rfl, (blk_cell BK209.out 2).trans rfl, (blk_cell BK209.out 3).trans rfl⟩ (fun hHeld => ?_); refine with_tabW impl_GoodAuto.tab6 impl_GoodAuto.bits6 (fun HT_ HW_ => ?_)
             generalize w43.drew = w44 at BK209 BK213 HB hHeld ⊢
             refine Sh.pA 0 43 (Sh.pre 47 1) (any_of HT_.out (by kernel_rfl)) ?_
             refine Sh.tA 1 44 (Sh.pre 47 2) (take_ofW HT_.out HW_.out (by kernel_rfl)) hHeld ?_ (hy := by rintro w' ⟨s0, s1, s2, s3, s4, s5, s6⟩; go_simp; with_reducible rfl)
             refine Sh.pA 2 45 (Sh.pre 47 3) (any_of HT_.out (by kernel_rfl)) ?_
             refine Sh.pA 3 46 (Sh.pre 47 4) (any_of HT_.out (by kernel_rfl)) ?_
             refine Sh.pA 4 47 (Sh.pre 47 5) (any_of HT_.out (by kernel_rfl)) ?_
             refine Sh.pA 6 49 #[true, true, true, true, true, false, true, false, false, false, false, false, false, false, false, false, false, false, false, false, false, false, false, false, false, false, false, false, false, false, false, false, false, false, false, false, false, false, false, false, false, false, false, false, false, false, false] (any_of HT_.out (by kernel_rfl)) ?_
             refine Sh.tA 5 48 (Sh.pre 47 7) (take_ofW HT_.out HW_.out (by kernel_rfl)) hHeld ?_ (hy := by rintro w' ⟨s0, s1, s2, s3, s4, s5, s6⟩; go_simp; with_reducible rfl)
             refine Sh.tA 7 50 (Sh.pre 47 8) (take_ofW HT_.out HW_.out (by kernel_rfl)) hHeld ?_ (hy := by rintro w' ⟨s0, s1, s2, s3, s4, s5, s6⟩; go_simp; with_reducible rfl)
             refine Sh.pA 8 51 (Sh.pre 47 9) (any_of HT_.out (by kernel_rfl)) ?_
             refine Sh.pA 9 52 (Sh.pre 47 10) (any_of HT_.out (by kernel_rfl)) ?_
             refine Sh.pA 10 53 (Sh.pre 47 11) (any_of HT_.out (by kernel_rfl)) ?_
             refine Sh.pA 11 54 (Sh.pre 47 12) (any_of HT_.out (by kernel_rfl)) ?_
             refine Sh.tA 12 55 (Sh.pre 47 13) (take_ofW HT_.out HW_.out (by kernel_rfl)) hHeld ?_ (hy := by rintro w' ⟨s0, s1, s2, s3, s4, s5, s6⟩; go_simp; with_reducible rfl)
             refine Sh.pA 13 56 (Sh.pre 47 14) (any_of HT_.out (by kernel_rfl)) ?_
             refine Sh.pA 14 57 (Sh.pre 47 15) (any_of HT_.out (by kernel_rfl)) ?_
             refine Sh.pA 15 58 (Sh.pre 47 16) (any_of HT_.out (by kernel_rfl)) ?_
             refine Sh.pA 16 59 (Sh.pre 47 17) (any_of HT_.out (by kernel_rfl)) ?_
             refine Sh.pA 18 61 #[true, true, true, true, true, true, true, true, true, true, true, true, true, true, true, true, true, false, true, false, false, false, false, false, false, false, false, false, false, false, false, false, false, false, false, false, false, false, false, false, false, false, false, false, false, false, false] (any_of HT_.out (by kernel_rfl)) ?_
             refine Sh.tA 17 60 (Sh.pre 47 19) (take_ofW HT_.out HW_.out (by kernel_rfl)) hHeld ?_ (hy := by rintro w' ⟨s0, s1, s2, s3, s4, s5, s6⟩; go_simp; with_reducible rfl)
             refine Sh.tA 19 62 (Sh.pre 47 20) (take_ofW HT_.out HW_.out (by kernel_rfl)) hHeld ?_ (hy := by rintro w' ⟨s0, s1, s2, s3, s4, s5, s6⟩; go_simp; with_reducible rfl)
             refine Sh.pA 20 63 (Sh.pre 47 21) (any_of HT_.out (by kernel_rfl)) ?_
             refine Sh.pA 21 64 (Sh.pre 47 22) (any_of HT_.out (by kernel_rfl)) ?_
             refine Sh.pA 22 65 (Sh.pre 47 23) (any_of HT_.out (by kernel_rfl)) ?_
             refine Sh.pU 23 66 (Sh.pre 47 24) (any_of HT_.out (by kernel_rfl)) ?_
             refine Sh.pU 24 67 (Sh.pre 47 25) (any_of HT_.out (by kernel_rfl)) ?_
             refine Sh.pU 25 68 (Sh.pre 47 26) (any_of HT_.out (by kernel_rfl)) ?_
             refine Sh.pA 26 69 (Sh.pre 47 27) (any_of HT_.out (by kernel_rfl)) ?_
             refine Sh.pA 27 70 (Sh.pre 47 28) (any_of HT_.out (by kernel_rfl)) ?_
             refine Sh.pU 28 71 (Sh.pre 47 29) (any_of HT_.out (by kernel_rfl)) ?_
             refine Sh.pU 29 72 (Sh.pre 47 30) (any_of HT_.out (by kernel_rfl)) ?_
             refine Sh.pU 30 73 (Sh.pre 47 31) (any_of HT_.out (by kernel_rfl)) ?_
             refine Sh.pA 31 74 (Sh.pre 47 32) (any_of HT_.out (by kernel_rfl)) ?_
             refine Sh.pA 32 75 (Sh.pre 47 33) (any_of HT_.out (by kernel_rfl)) ?_
             refine Sh.pU 33 76 (Sh.pre 47 34) (any_of HT_.out (by kernel_rfl)) ?_
             refine Sh.pU 34 77 (Sh.pre 47 35) (any_of HT_.out (by kernel_rfl)) ?_
             refine Sh.pU 35 78 (Sh.pre 47 36) (any_of HT_.out (by kernel_rfl)) ?_
             refine Sh.pU 36 79 (Sh.pre 47 37) (any_of HT_.out (by kernel_rfl)) ?_
             refine Sh.pU 37 80 (Sh.pre 47 38) (any_of HT_.out (by kernel_rfl)) ?_
             refine Sh.pU 38 81 (Sh.pre 47 39) (any_of HT_.out (by kernel_rfl)) ?_
             refine Sh.pU 39 82 (Sh.pre 47 40) (any_of HT_.out (by kernel_rfl)) ?_
             refine Sh.pU 40 83 (Sh.pre 47 41) (any_of HT_.out (by kernel_rfl)) ?_
             refine Sh.pU 41 84 (Sh.pre 47 42) (any_of HT_.out (by kernel_rfl)) ?_
             refine Sh.pU 42 85 (Sh.pre 47 43) (any_of HT_.out (by kernel_rfl)) ?_
             refine Sh.pU 43 86 (Sh.pre 47 44) (any_of HT_.out (by kernel_rfl)) ?_
             refine Sh.pU 44 87 (Sh.pre 47 45) (any_of HT_.out (by kernel_rfl)) ?_
             refine Sh.pU 45 88 (Sh.pre 47 46) (any_of HT_.out (by kernel_rfl)) ?_
             refine Sh.pA 46 89 (Sh.pre 47 47) (any_of HT_.out (by kernel_rfl)) ?_
             refine done_ (done_of HT_.out (by kernel_rfl)) ?_
             try go_wp2
             go_ret
             exact ⟨Sh.eR, Sh.bw⟩
            ·rw [if_neg c39] at H
             have c39b0 : decide (a0_0 ≤ ((rd_T51 l0_2 x38_2).f2)) = false := decide_eq_false c39
             clear c39
             by_cases c45 : ((rd_T51 l0_2 x38_2).f1) < 0
             ·rw [if_pos c45] at H
              have c45b0 : decide (((rd_T51 l0_2 x38_2).f1) < 0) = true := decide_eq_true c45
              clear c45
              obtain rfl := Option.some.inj H
              have p212 : 0 ≤ (x38_2 : Int) := of_decide_eq_true (by first | (with_reducible assumption) | assumption)
              have q212 : x38_2 < (l0_2.length : Int) := of_decide_eq_true (by first | (with_reducible assumption) | assumption)
              obtain ⟨ad212, e212, hx212_0, hx212_1, hx212_2⟩ := at_T51 HR0_2.out x38_2 p212 q212
              cases e212
              (try replace hx212_0 := (HB.out.cell (World.block_lt_of_cell? w _ hx212_0)).trans hx212_0)
              (try replace hx212_1 := (HB.out.cell (World.block_lt_of_cell? w _ hx212_1)).trans hx212_1)
              (try replace hx212_2 := (HB.out.cell (World.block_lt_of_cell? w _ hx212_2)).trans hx212_2)
              replace p212 := eq_true p212
              replace q212 := eq_true q212
              try go_wp2_with (first | ((with_reducible refine gate_dst (N := 4) rfl ?_); (try (refine gate_guard (by rfl) ?_; dsimp only)); refine Sh.bx (N := 4) (cs := #[.int .i64 0, .int .i64 0, .int .i64 0]) (t := 51) (h := ?_); intro gb213 hg w46 hbox hb; have n0_ := am_ (Sh.bb BK209.out hb); have n1_ := am_ (below_step Sh.bw hb); have n2_ := am_ (hbox); have n3_ := am_ (Sh.gw (w := w) hg); have n4_ := am_ (Sh.gw (w := w) hg); have n5_ := am_ (Sh.nl hg BK209.out); have n6_ := am_ (Sh.ng hg BK209.out); clear BK209; clear HB; have BK209 := n0_; have HB := n1_; have BK213 := n2_; have GW213 := n3_; have GE213 := n4_; have NB209_213 := n5_; have NB213_209 := n6_; clear n0_ n1_ n2_ n3_ n4_ n5_ n6_; clear hb hbox hg; have hnb47 := NB213_209.out; have hnc47 := NB209_213.out; have hcz48_0 := Sh.bc BK213.out 0; have hcz48_1 := Sh.bc BK213.out 1; have hcz48_2 := Sh.bc BK213.out 2; have hfz48_0 := blk_frozen BK213.out 0; have hfz48_1 := blk_frozen BK213.out 1; have hfz48_2 := blk_frozen BK213.out 2))
              have n0_ : Aside0 ((((w46.setCell ⟨gb213, 0, none⟩ (.int .i64 ((rd_T51 l0_2 x38_2).f0))).setCell ⟨gb213, 1, none⟩ (.int .i64 ((rd_T51 l0_2 x38_2).f1))).setCell ⟨gb213, 2, none⟩ (.int .i64 ((rd_T51 l0_2 x38_2).f2))).heap[gb209]? = some (.cells #[.int .i64 a0_0, .slice A0_1 l0_1.length c0_1, .slice (some ad212) l0_2.length c0_2, .slice A0_3 l0_3.length c0_3] 32 (0, 0))) := ⟨by (with_reducible repeat (first | refine blk_drewN ?_ _ | refine blk_drew ?_ | refine blk_alloc ?_ _)); refine blk_far ?_ NB209_213.out _; (with_reducible repeat (first | refine blk_drewN ?_ _ | refine blk_drew ?_ | refine blk_alloc ?_ _)); refine blk_far ?_ NB209_213.out _; (with_reducible repeat (first | refine blk_drewN ?_ _ | refine blk_drew ?_ | refine blk_alloc ?_ _)); refine blk_far ?_ NB209_213.out _; (with_reducible repeat (first | refine blk_drewN ?_ _ | refine blk_drew ?_ | refine blk_alloc ?_ _)); exact BK209.out⟩
              have n1_ : Aside0 ((((w46.setCell ⟨gb213, 0, none⟩ (.int .i64 ((rd_T51 l0_2 x38_2).f0))).setCell ⟨gb213, 1, none⟩ (.int .i64 ((rd_T51 l0_2 x38_2).f1))).setCell ⟨gb213, 2, none⟩ (.int .i64 ((rd_T51 l0_2 x38_2).f2))).heap[gb213]? = some (.cells #[.int .i64 ((rd_T51 l0_2 x38_2).f0), .int .i64 ((rd_T51 l0_2 x38_2).f1), .int .i64 ((rd_T51 l0_2 x38_2).f2)] 51 (0, 0))) := ⟨by (with_reducible repeat (first | refine blk_drewN ?_ _ | refine blk_drew ?_ | refine blk_alloc ?_ _)); refine blk_put (cs := #[.int .i64 ((rd_T51 l0_2 x38_2).f0), .int .i64 ((rd_T51 l0_2 x38_2).f1), .int .i64 0]) ?_ 2 _ rfl; (with_reducible repeat (first | refine blk_drewN ?_ _ | refine blk_drew ?_ | refine blk_alloc ?_ _)); refine blk_put (cs := #[.int .i64 ((rd_T51 l0_2 x38_2).f0), .int .i64 0, .int .i64 0]) ?_ 1 _ rfl; (with_reducible repeat (first | refine blk_drewN ?_ _ | refine blk_drew ?_ | refine blk_alloc ?_ _)); refine blk_put (cs := #[.int .i64 0, .int .i64 0, .int .i64 0]) ?_ 0 _ rfl; (with_reducible repeat (first | refine blk_drewN ?_ _ | refine blk_drew ?_ | refine blk_alloc ?_ _)); exact BK213.out⟩
              have n2_ : Aside0 (Below w.heap.size w (((w46.setCell ⟨gb213, 0, none⟩ (.int .i64 ((rd_T51 l0_2 x38_2).f0))).setCell ⟨gb213, 1, none⟩ (.int .i64 ((rd_T51 l0_2 x38_2).f1))).setCell ⟨gb213, 2, none⟩ (.int .i64 ((rd_T51 l0_2 x38_2).f2)))) := ⟨by repeat (first | (with_reducible first | exact HB.out | apply below_alloc | apply pw_below_drewN | apply below_drew1 | refine below_set ?_ GE209.out | refine below_set ?_ GE213.out) | exact HB.out)⟩
              (try clear BK209)
              (try clear BK213)
              (try clear HB)
              generalize (((w46.setCell ⟨gb213, 0, none⟩ (.int .i64 ((rd_T51 l0_2 x38_2).f0))).setCell ⟨gb213, 1, none⟩ (.int .i64 ((rd_T51 l0_2 x38_2).f1))).setCell ⟨gb213, 2, none⟩ (.int .i64 ((rd_T51 l0_2 x38_2).f2))) = w49 at n0_ n1_ n2_ ⊢
              have BK209 := n0_
              have BK213 := n1_
              have HB := n2_
              clear n0_ n1_ n2_
              have n0_ := am_ (blk_drew BK209.out)
              have n1_ := am_ (blk_drew BK213.out)
              have n2_ := am_ (below_drew1 HB.out)
              clear BK209
              clear BK213
              clear HB
              have BK209 := n0_
              have BK213 := n1_
              have HB := n2_
              clear n0_ n1_ n2_
              refine start_ (n := 47) (S := fun w' => w'.cell? ⟨gb213, 0, none⟩ = some (.int .i64 ((rd_T51 l0_2 x38_2).f0)) ∧ w'.cell? ⟨gb213, 1, none⟩ = some (.int .i64 ((rd_T51 l0_2 x38_2).f1)) ∧ w'.cell? ⟨gb213, 2, none⟩ = some (.int .i64 ((rd_T51 l0_2 x38_2).f2)) ∧ w'.cell? ⟨gb209, 0, none⟩ = some (.int .i64 a0_0) ∧ w'.cell? ⟨gb209, 1, none⟩ = some (.slice A0_1 l0_1.length c0_1) ∧ w'.cell? ⟨gb209, 2, none⟩ = some (.slice (some ad212) l0_2.length c0_2) ∧ w'.cell? ⟨gb209, 3, none⟩ = some (.slice A0_3 l0_3.length c0_3)) (ds := []) #[false, false, false, false, false, false, false, false, false, false, false, false, false, false, false, false, false, false, false, false, false, false, false, false, false, false, false, false, false, false, false, false, false, false, false, false, false, false, false, false, false, false, false, false, false, false, false] (by kernel_rfl) rfl rfl ⟨(blk_cell BK213.out 0).trans rfl, (blk_cell BK213.out 1).trans rfl, (blk_cell BK213.out 2).trans rfl, (blk_cell BK209.out 0).trans rfl, (blk_cell BK209.out 1).trans rfl, (blk_cell BK209.out 2).trans rfl, (blk_cell BK209.out 3).trans rfl⟩ (fun hHeld => ?_); refine with_tabW impl_GoodAuto.tab6 impl_GoodAuto.bits6 (fun HT_ HW_ => ?_)
              generalize w49.drew = w50 at BK209 BK213 HB hHeld ⊢
              refine Sh.pA 0 43 (Sh.pre 47 1) (any_of HT_.out (by kernel_rfl)) ?_
              refine Sh.tA 1 44 (Sh.pre 47 2) (take_ofW HT_.out HW_.out (by kernel_rfl)) hHeld ?_ (hy := by rintro w' ⟨s0, s1, s2, s3, s4, s5, s6⟩; go_simp; with_reducible rfl)
              refine Sh.pA 2 45 (Sh.pre 47 3) (any_of HT_.out (by kernel_rfl)) ?_
              refine Sh.pA 3 46 (Sh.pre 47 4) (any_of HT_.out (by kernel_rfl)) ?_
              refine Sh.pA 4 47 (Sh.pre 47 5) (any_of HT_.out (by kernel_rfl)) ?_
              refine Sh.pA 6 49 #[true, true, true, true, true, false, true, false, false, false, false, false, false, false, false, false, false, false, false, false, false, false, false, false, false, false, false, false, false, false, false, false, false, false, false, false, false, false, false, false, false, false, false, false, false, false, false] (any_of HT_.out (by kernel_rfl)) ?_
              refine Sh.tA 5 48 (Sh.pre 47 7) (take_ofW HT_.out HW_.out (by kernel_rfl)) hHeld ?_ (hy := by rintro w' ⟨s0, s1, s2, s3, s4, s5, s6⟩; go_simp; with_reducible rfl)
              refine Sh.tA 7 50 (Sh.pre 47 8) (take_ofW HT_.out HW_.out (by kernel_rfl)) hHeld ?_ (hy := by rintro w' ⟨s0, s1, s2, s3, s4, s5, s6⟩; go_simp; with_reducible rfl)
              refine Sh.pA 8 51 (Sh.pre 47 9) (any_of HT_.out (by kernel_rfl)) ?_
              refine Sh.pA 9 52 (Sh.pre 47 10) (any_of HT_.out (by kernel_rfl)) ?_
              refine Sh.pA 10 53 (Sh.pre 47 11) (any_of HT_.out (by kernel_rfl)) ?_
              refine Sh.pA 11 54 (Sh.pre 47 12) (any_of HT_.out (by kernel_rfl)) ?_
              refine Sh.tA 12 55 (Sh.pre 47 13) (take_ofW HT_.out HW_.out (by kernel_rfl)) hHeld ?_ (hy := by rintro w' ⟨s0, s1, s2, s3, s4, s5, s6⟩; go_simp; with_reducible rfl)
              refine Sh.pA 13 56 (Sh.pre 47 14) (any_of HT_.out (by kernel_rfl)) ?_
              refine Sh.pA 14 57 (Sh.pre 47 15) (any_of HT_.out (by kernel_rfl)) ?_
              refine Sh.pA 15 58 (Sh.pre 47 16) (any_of HT_.out (by kernel_rfl)) ?_
              refine Sh.pA 16 59 (Sh.pre 47 17) (any_of HT_.out (by kernel_rfl)) ?_
              refine Sh.pA 18 61 #[true, true, true, true, true, true, true, true, true, true, true, true, true, true, true, true, true, false, true, false, false, false, false, false, false, false, false, false, false, false, false, false, false, false, false, false, false, false, false, false, false, false, false, false, false, false, false] (any_of HT_.out (by kernel_rfl)) ?_
              refine Sh.tA 17 60 (Sh.pre 47 19) (take_ofW HT_.out HW_.out (by kernel_rfl)) hHeld ?_ (hy := by rintro w' ⟨s0, s1, s2, s3, s4, s5, s6⟩; go_simp; with_reducible rfl)
              refine Sh.tA 19 62 (Sh.pre 47 20) (take_ofW HT_.out HW_.out (by kernel_rfl)) hHeld ?_ (hy := by rintro w' ⟨s0, s1, s2, s3, s4, s5, s6⟩; go_simp; with_reducible rfl)
              refine Sh.pA 20 63 (Sh.pre 47 21) (any_of HT_.out (by kernel_rfl)) ?_
              refine Sh.pA 21 64 (Sh.pre 47 22) (any_of HT_.out (by kernel_rfl)) ?_
              refine Sh.pA 22 65 (Sh.pre 47 23) (any_of HT_.out (by kernel_rfl)) ?_
              refine Sh.pA 23 66 (Sh.pre 47 24) (any_of HT_.out (by kernel_rfl)) ?_
              refine Sh.tA 24 67 (Sh.pre 47 25) (take_ofW HT_.out HW_.out (by kernel_rfl)) hHeld ?_ (hy := by rintro w' ⟨s0, s1, s2, s3, s4, s5, s6⟩; go_simp; with_reducible rfl)
              refine Sh.pA 25 68 (Sh.pre 47 26) (any_of HT_.out (by kernel_rfl)) ?_
              refine Sh.pA 26 69 (Sh.pre 47 27) (any_of HT_.out (by kernel_rfl)) ?_
              refine Sh.pA 27 70 (Sh.pre 47 28) (any_of HT_.out (by kernel_rfl)) ?_
              refine Sh.pU 28 71 (Sh.pre 47 29) (any_of HT_.out (by kernel_rfl)) ?_
              refine Sh.pU 29 72 (Sh.pre 47 30) (any_of HT_.out (by kernel_rfl)) ?_
              refine Sh.pU 30 73 (Sh.pre 47 31) (any_of HT_.out (by kernel_rfl)) ?_
              refine Sh.pA 31 74 (Sh.pre 47 32) (any_of HT_.out (by kernel_rfl)) ?_
              refine Sh.pA 32 75 (Sh.pre 47 33) (any_of HT_.out (by kernel_rfl)) ?_
              refine Sh.pU 33 76 (Sh.pre 47 34) (any_of HT_.out (by kernel_rfl)) ?_
              refine Sh.pU 34 77 (Sh.pre 47 35) (any_of HT_.out (by kernel_rfl)) ?_
              refine Sh.pU 35 78 (Sh.pre 47 36) (any_of HT_.out (by kernel_rfl)) ?_
              refine Sh.pU 36 79 (Sh.pre 47 37) (any_of HT_.out (by kernel_rfl)) ?_
              refine Sh.pU 37 80 (Sh.pre 47 38) (any_of HT_.out (by kernel_rfl)) ?_
              refine Sh.pU 38 81 (Sh.pre 47 39) (any_of HT_.out (by kernel_rfl)) ?_
              refine Sh.pU 39 82 (Sh.pre 47 40) (any_of HT_.out (by kernel_rfl)) ?_
              refine Sh.pU 40 83 (Sh.pre 47 41) (any_of HT_.out (by kernel_rfl)) ?_
              refine Sh.pU 41 84 (Sh.pre 47 42) (any_of HT_.out (by kernel_rfl)) ?_
              refine Sh.pU 42 85 (Sh.pre 47 43) (any_of HT_.out (by kernel_rfl)) ?_
              refine Sh.pU 43 86 (Sh.pre 47 44) (any_of HT_.out (by kernel_rfl)) ?_
              refine Sh.pU 44 87 (Sh.pre 47 45) (any_of HT_.out (by kernel_rfl)) ?_
              refine Sh.pU 45 88 (Sh.pre 47 46) (any_of HT_.out (by kernel_rfl)) ?_
              refine Sh.pA 46 89 (Sh.pre 47 47) (any_of HT_.out (by kernel_rfl)) ?_
              refine done_ (done_of HT_.out (by kernel_rfl)) ?_
              try go_wp2
              go_ret
              exact ⟨Sh.eR, Sh.bw⟩
             ·rw [if_neg c45] at H
              have c45b0 : decide (((rd_T51 l0_2 x38_2).f1) < 0) = false := decide_eq_false c45
              clear c45
              by_cases c51 : ((rd_T51 l0_2 x38_2).f1) ≥ 8
              ·rw [if_pos c51] at H
               have c51b0 : decide (8 ≤ ((rd_T51 l0_2 x38_2).f1)) = true := decide_eq_true c51
               clear c51
               obtain rfl := Option.some.inj H
               have p212 : 0 ≤ (x38_2 : Int) := of_decide_eq_true (by first | (with_reducible assumption) | assumption)
               have q212 : x38_2 < (l0_2.length : Int) := of_decide_eq_true (by first | (with_reducible assumption) | assumption)
               obtain ⟨ad212, e212, hx212_0, hx212_1, hx212_2⟩ := at_T51 HR0_2.out x38_2 p212 q212
               cases e212
               (try replace hx212_0 := (HB.out.cell (World.block_lt_of_cell? w _ hx212_0)).trans hx212_0)
               (try replace hx212_1 := (HB.out.cell (World.block_lt_of_cell? w _ hx212_1)).trans hx212_1)
               (try replace hx212_2 := (HB.out.cell (World.block_lt_of_cell? w _ hx212_2)).trans hx212_2)
               replace p212 := eq_true p212
               replace q212 := eq_true q212
               try go_wp2_with (first | ((with_reducible refine gate_dst (N := 4) rfl ?_); (try (refine gate_guard (by rfl) ?_; dsimp only)); refine Sh.bx (N := 4) (cs := #[.int .i64 0, .int .i64 0, .int .i64 0]) (t := 51) (h := ?_); intro gb213 hg w52 hbox hb; have n0_ := am_ (Sh.bb BK209.out hb); have n1_ := am_ (below_step Sh.bw hb); have n2_ := am_ (hbox); have n3_ := am_ (Sh.gw (w := w) hg); have n4_ := am_ (Sh.gw (w := w) hg); have n5_ := am_ (Sh.nl hg BK209.out); have n6_ := am_ (Sh.ng hg BK209.out); clear BK209; clear HB; have BK209 := n0_; have HB := n1_; have BK213 := n2_; have GW213 := n3_; have GE213 := n4_; have NB209_213 := n5_; have NB213_209 := n6_; clear n0_ n1_ n2_ n3_ n4_ n5_ n6_; clear hb hbox hg; have hnb53 := NB213_209.out; have hnc53 := NB209_213.out; have hcz54_0 := Sh.bc BK213.out 0; have hcz54_1 := Sh.bc BK213.out 1; have hcz54_2 := Sh.bc BK213.out 2; have hfz54_0 := blk_frozen BK213.out 0; have hfz54_1 := blk_frozen BK213.out 1; have hfz54_2 := blk_frozen BK213.out 2))
               have n0_ : Aside0 ((((w52.setCell ⟨gb213, 0, none⟩ (.int .i64 ((rd_T51 l0_2 x38_2).f0))).setCell ⟨gb213, 1, none⟩ (.int .i64 ((rd_T51 l0_2 x38_2).f1))).setCell ⟨gb213, 2, none⟩ (.int .i64 ((rd_T51 l0_2 x38_2).f2))).heap[gb209]? = some (.cells #[.int .i64 a0_0, .slice A0_1 l0_1.length c0_1, .slice (some ad212) l0_2.length c0_2, .slice A0_3 l0_3.length c0_3] 32 (0, 0))) := ⟨by (with_reducible repeat (first | refine blk_drewN ?_ _ | refine blk_drew ?_ | refine blk_alloc ?_ _)); refine blk_far ?_ NB209_213.out _; (with_reducible repeat (first | refine blk_drewN ?_ _ | refine blk_drew ?_ | refine blk_alloc ?_ _)); refine blk_far ?_ NB209_213.out _; (with_reducible repeat (first | refine blk_drewN ?_ _ | refine blk_drew ?_ | refine blk_alloc ?_ _)); refine blk_far ?_ NB209_213.out _; (with_reducible repeat (first | refine blk_drewN ?_ _ | refine blk_drew ?_ | refine blk_alloc ?_ _)); exact BK209.out⟩
               have n1_ : Aside0 ((((w52.setCell ⟨gb213, 0, none⟩ (.int .i64 ((rd_T51 l0_2 x38_2).f0))).setCell ⟨gb213, 1, none⟩ (.int .i64 ((rd_T51 l0_2 x38_2).f1))).setCell ⟨gb213, 2, none⟩ (.int .i64 ((rd_T51 l0_2 x38_2).f2))).heap[gb213]? = some (.cells #[.int .i64 ((rd_T51 l0_2 x38_2).f0), .int .i64 ((rd_T51 l0_2 x38_2).f1), .int .i64 ((rd_T51 l0_2 x38_2).f2)] 51 (0, 0))) := ⟨by (with_reducible repeat (first | refine blk_drewN ?_ _ | refine blk_drew ?_ | refine blk_alloc ?_ _)); refine blk_put (cs := #[.int .i64 ((rd_T51 l0_2 x38_2).f0), .int .i64 ((rd_T51 l0_2 x38_2).f1), .int .i64 0]) ?_ 2 _ rfl; (with_reducible repeat (first | refine blk_drewN ?_ _ | refine blk_drew ?_ | refine blk_alloc ?_ _)); refine blk_put (cs := #[.int .i64 ((rd_T51 l0_2 x38_2).f0), .int .i64 0, .int .i64 0]) ?_ 1 _ rfl; (with_reducible repeat (first | refine blk_drewN ?_ _ | refine blk_drew ?_ | refine blk_alloc ?_ _)); refine blk_put (cs := #[.int .i64 0, .int .i64 0, .int .i64 0]) ?_ 0 _ rfl; (with_reducible repeat (first | refine blk_drewN ?_ _ | refine blk_drew ?_ | refine blk_alloc ?_ _)); exact BK213.out⟩
               have n2_ : Aside0 (Below w.heap.size w (((w52.setCell ⟨gb213, 0, none⟩ (.int .i64 ((rd_T51 l0_2 x38_2).f0))).setCell ⟨gb213, 1, none⟩ (.int .i64 ((rd_T51 l0_2 x38_2).f1))).setCell ⟨gb213, 2, none⟩ (.int .i64 ((rd_T51 l0_2 x38_2).f2)))) := ⟨by repeat (first | (with_reducible first | exact HB.out | apply below_alloc | apply pw_below_drewN | apply below_drew1 | refine below_set ?_ GE209.out | refine below_set ?_ GE213.out) | exact HB.out)⟩
               (try clear BK209)
               (try clear BK213)
               (try clear HB)
               generalize (((w52.setCell ⟨gb213, 0, none⟩ (.int .i64 ((rd_T51 l0_2 x38_2).f0))).setCell ⟨gb213, 1, none⟩ (.int .i64 ((rd_T51 l0_2 x38_2).f1))).setCell ⟨gb213, 2, none⟩ (.int .i64 ((rd_T51 l0_2 x38_2).f2))) = w55 at n0_ n1_ n2_ ⊢
               have BK209 := n0_
               have BK213 := n1_
               have HB := n2_
               clear n0_ n1_ n2_
               have n0_ := am_ (blk_drew BK209.out)
               have n1_ := am_ (blk_drew BK213.out)
               have n2_ := am_ (below_drew1 HB.out)
               clear BK209
               clear BK213
               clear HB
               have BK209 := n0_
               have BK213 := n1_
               have HB := n2_
               clear n0_ n1_ n2_
               refine start_ (n := 47) (S := fun w' => w'.cell? ⟨gb213, 0, none⟩ = some (.int .i64 ((rd_T51 l0_2 x38_2).f0)) ∧ w'.cell? ⟨gb213, 1, none⟩ = some (.int .i64 ((rd_T51 l0_2 x38_2).f1)) ∧ w'.cell? ⟨gb213, 2, none⟩ = some (.int .i64 ((rd_T51 l0_2 x38_2).f2)) ∧ w'.cell? ⟨gb209, 0, none⟩ = some (.int .i64 a0_0) ∧ w'.cell? ⟨gb209, 1, none⟩ = some (.slice A0_1 l0_1.length c0_1) ∧ w'.cell? ⟨gb209, 2, none⟩ = some (.slice (some ad212) l0_2.length c0_2) ∧ w'.cell? ⟨gb209, 3, none⟩ = some (.slice A0_3 l0_3.length c0_3)) (ds := []) #[false, false, false, false, false, false, false, false, false, false, false, false, false, false, false, false, false, false, false, false, false, false, false, false, false, false, false, false, false, false, false, false, false, false, false, false, false, false, false, false, false, false, false, false, false, false, false] (by kernel_rfl) rfl rfl ⟨(blk_cell BK213.out 0).trans rfl, (blk_cell BK213.out 1).trans rfl, (blk_cell BK213.out 2).trans rfl, (blk_cell BK209.out 0).trans rfl, (blk_cell BK209.out 1).trans rfl, (blk_cell BK209.out 2).trans rfl, (blk_cell BK209.out 3).trans rfl⟩ (fun hHeld => ?_); refine with_tabW impl_GoodAuto.tab6 impl_GoodAuto.bits6 (fun HT_ HW_ => ?_)
               generalize w55.drew = w56 at BK209 BK213 HB hHeld ⊢
               refine Sh.pA 0 43 (Sh.pre 47 1) (any_of HT_.out (by kernel_rfl)) ?_
               refine Sh.tA 1 44 (Sh.pre 47 2) (take_ofW HT_.out HW_.out (by kernel_rfl)) hHeld ?_ (hy := by rintro w' ⟨s0, s1, s2, s3, s4, s5, s6⟩; go_simp; with_reducible rfl)
               refine Sh.pA 2 45 (Sh.pre 47 3) (any_of HT_.out (by kernel_rfl)) ?_
               refine Sh.pA 3 46 (Sh.pre 47 4) (any_of HT_.out (by kernel_rfl)) ?_
               refine Sh.pA 4 47 (Sh.pre 47 5) (any_of HT_.out (by kernel_rfl)) ?_
               refine Sh.pA 6 49 #[true, true, true, true, true, false, true, false, false, false, false, false, false, false, false, false, false, false, false, false, false, false, false, false, false, false, false, false, false, false, false, false, false, false, false, false, false, false, false, false, false, false, false, false, false, false, false] (any_of HT_.out (by kernel_rfl)) ?_
               refine Sh.tA 5 48 (Sh.pre 47 7) (take_ofW HT_.out HW_.out (by kernel_rfl)) hHeld ?_ (hy := by rintro w' ⟨s0, s1, s2, s3, s4, s5, s6⟩; go_simp; with_reducible rfl)
               refine Sh.tA 7 50 (Sh.pre 47 8) (take_ofW HT_.out HW_.out (by kernel_rfl)) hHeld ?_ (hy := by rintro w' ⟨s0, s1, s2, s3, s4, s5, s6⟩; go_simp; with_reducible rfl)
               refine Sh.pA 8 51 (Sh.pre 47 9) (any_of HT_.out (by kernel_rfl)) ?_
               refine Sh.pA 9 52 (Sh.pre 47 10) (any_of HT_.out (by kernel_rfl)) ?_
               refine Sh.pA 10 53 (Sh.pre 47 11) (any_of HT_.out (by kernel_rfl)) ?_
               refine Sh.pA 11 54 (Sh.pre 47 12) (any_of HT_.out (by kernel_rfl)) ?_
               refine Sh.tA 12 55 (Sh.pre 47 13) (take_ofW HT_.out HW_.out (by kernel_rfl)) hHeld ?_ (hy := by rintro w' ⟨s0, s1, s2, s3, s4, s5, s6⟩; go_simp; with_reducible rfl)
               refine Sh.pA 13 56 (Sh.pre 47 14) (any_of HT_.out (by kernel_rfl)) ?_
               refine Sh.pA 14 57 (Sh.pre 47 15) (any_of HT_.out (by kernel_rfl)) ?_
               refine Sh.pA 15 58 (Sh.pre 47 16) (any_of HT_.out (by kernel_rfl)) ?_
               refine Sh.pA 16 59 (Sh.pre 47 17) (any_of HT_.out (by kernel_rfl)) ?_
               refine Sh.pA 18 61 #[true, true, true, true, true, true, true, true, true, true, true, true, true, true, true, true, true, false, true, false, false, false, false, false, false, false, false, false, false, false, false, false, false, false, false, false, false, false, false, false, false, false, false, false, false, false, false] (any_of HT_.out (by kernel_rfl)) ?_
               refine Sh.tA 17 60 (Sh.pre 47 19) (take_ofW HT_.out HW_.out (by kernel_rfl)) hHeld ?_ (hy := by rintro w' ⟨s0, s1, s2, s3, s4, s5, s6⟩; go_simp; with_reducible rfl)
               refine Sh.tA 19 62 (Sh.pre 47 20) (take_ofW HT_.out HW_.out (by kernel_rfl)) hHeld ?_ (hy := by rintro w' ⟨s0, s1, s2, s3, s4, s5, s6⟩; go_simp; with_reducible rfl)
               refine Sh.pA 20 63 (Sh.pre 47 21) (any_of HT_.out (by kernel_rfl)) ?_
               refine Sh.pA 21 64 (Sh.pre 47 22) (any_of HT_.out (by kernel_rfl)) ?_
               refine Sh.pA 22 65 (Sh.pre 47 23) (any_of HT_.out (by kernel_rfl)) ?_
               refine Sh.pA 23 66 (Sh.pre 47 24) (any_of HT_.out (by kernel_rfl)) ?_
               refine Sh.tA 24 67 (Sh.pre 47 25) (take_ofW HT_.out HW_.out (by kernel_rfl)) hHeld ?_ (hy := by rintro w' ⟨s0, s1, s2, s3, s4, s5, s6⟩; go_simp; with_reducible rfl)
               refine Sh.pA 25 68 (Sh.pre 47 26) (any_of HT_.out (by kernel_rfl)) ?_
               refine Sh.pA 26 69 (Sh.pre 47 27) (any_of HT_.out (by kernel_rfl)) ?_
               refine Sh.pA 27 70 (Sh.pre 47 28) (any_of HT_.out (by kernel_rfl)) ?_
               refine Sh.pA 28 71 (Sh.pre 47 29) (any_of HT_.out (by kernel_rfl)) ?_
               refine Sh.tA 29 72 (Sh.pre 47 30) (take_ofW HT_.out HW_.out (by kernel_rfl)) hHeld ?_ (hy := by rintro w' ⟨s0, s1, s2, s3, s4, s5, s6⟩; go_simp; with_reducible rfl)
               refine Sh.pA 30 73 (Sh.pre 47 31) (any_of HT_.out (by kernel_rfl)) ?_
               refine Sh.pA 31 74 (Sh.pre 47 32) (any_of HT_.out (by kernel_rfl)) ?_
               refine Sh.pA 32 75 (Sh.pre 47 33) (any_of HT_.out (by kernel_rfl)) ?_
               refine Sh.pU 33 76 (Sh.pre 47 34) (any_of HT_.out (by kernel_rfl)) ?_
               refine Sh.pU 34 77 (Sh.pre 47 35) (any_of HT_.out (by kernel_rfl)) ?_
               refine Sh.pU 35 78 (Sh.pre 47 36) (any_of HT_.out (by kernel_rfl)) ?_
               refine Sh.pU 36 79 (Sh.pre 47 37) (any_of HT_.out (by kernel_rfl)) ?_
               refine Sh.pU 37 80 (Sh.pre 47 38) (any_of HT_.out (by kernel_rfl)) ?_
               refine Sh.pU 38 81 (Sh.pre 47 39) (any_of HT_.out (by kernel_rfl)) ?_
               refine Sh.pU 39 82 (Sh.pre 47 40) (any_of HT_.out (by kernel_rfl)) ?_
               refine Sh.pU 40 83 (Sh.pre 47 41) (any_of HT_.out (by kernel_rfl)) ?_
               refine Sh.pU 41 84 (Sh.pre 47 42) (any_of HT_.out (by kernel_rfl)) ?_
               refine Sh.pU 42 85 (Sh.pre 47 43) (any_of HT_.out (by kernel_rfl)) ?_
               refine Sh.pU 43 86 (Sh.pre 47 44) (any_of HT_.out (by kernel_rfl)) ?_
               refine Sh.pU 44 87 (Sh.pre 47 45) (any_of HT_.out (by kernel_rfl)) ?_
               refine Sh.pU 45 88 (Sh.pre 47 46) (any_of HT_.out (by kernel_rfl)) ?_
               refine Sh.pA 46 89 (Sh.pre 47 47) (any_of HT_.out (by kernel_rfl)) ?_
               refine done_ (done_of HT_.out (by kernel_rfl)) ?_
               try go_wp2
               go_ret
               exact ⟨Sh.eR, Sh.bw⟩
              ·rw [if_neg c51] at H
               have c51b0 : decide (8 ≤ ((rd_T51 l0_2 x38_2).f1)) = false := decide_eq_false c51
               clear c51
               by_cases c57 : x38_2 > 0
               ·rw [if_pos c57] at H
                have c57b0 : decide (0 < x38_2) = true := decide_eq_true c57
                clear c57
                obtain ⟨ji58, hji58⟩ : ∃ j_ : Int, (wrap64 (x38_2 - 1)) = j_ := ⟨_, rfl⟩
                replace H : (if 0 ≤ (ji58) then (if (ji58) < (l0_2.length : Int) then ((impl_compareEdges.f k2 ((rd_T51 l0_2 (ji58)).f0) ((rd_T51 l0_2 (ji58)).f1) ((rd_T51 l0_2 (ji58)).f2) ((rd_T51 l0_2 x38_2).f0) ((rd_T51 l0_2 x38_2).f1) ((rd_T51 l0_2 x38_2).f2)).bind fun t215 => (if t215 ≥ 0 then (some false) else (impl_GoodAuto.l0 k2 l0_2 (l0_2.length : Int) (wrap64 (x38_2 + 1)) a0_0 l0_1 l0_2 l0_3))) else (none)) else (none)) = some r := by first | (rw [hji58] at H; exact H) | (simp only [hji58] at H ⊢; exact H)
                have hji58w : (IntKind.i64.wrap (x38_2 - 1)) = ji58 := (i64_w _).trans hji58
                by_cases c59 : 0 ≤ (ji58)
                ·rw [if_pos c59] at H
                 have c59b0 : decide (0 ≤ (ji58)) = true := decide_eq_true c59
                 clear c59
                 by_cases c60 : (ji58) < (l0_2.length : Int)
                 ·rw [if_pos c60] at H
                  have c60b0 : decide ((ji58) < (l0_2.length : Int)) = true := decide_eq_true c60
                  clear c60
                  replace H := Option.bind_eq_some_iff.mp H
                  obtain ⟨t215, A610, H⟩ := H
                  replace H : (if t215 ≥ 0 then (some false) else (impl_GoodAuto.l0 k2 l0_2 (l0_2.length : Int) (wrap64 (x38_2 + 1)) a0_0 l0_1 l0_2 l0_3)) = some r := H
                  have A61 := am_ A610
                  clear A610
                  by_cases c62 : t215 ≥ 0
                  ·rw [if_pos c62] at H
                   have c62b0 : decide (0 ≤ t215) = true := decide_eq_true c62
                   clear c62
                   obtain rfl := Option.some.inj H
                   have p212 : 0 ≤ (x38_2 : Int) := of_decide_eq_true (by first | (with_reducible assumption) | assumption)
                   have q212 : x38_2 < (l0_2.length : Int) := of_decide_eq_true (by first | (with_reducible assumption) | assumption)
                   obtain ⟨ad212, e212, hx212_0, hx212_1, hx212_2⟩ := at_T51 HR0_2.out x38_2 p212 q212
                   cases e212
                   (try replace hx212_0 := (HB.out.cell (World.block_lt_of_cell? w _ hx212_0)).trans hx212_0)
                   (try replace hx212_1 := (HB.out.cell (World.block_lt_of_cell? w _ hx212_1)).trans hx212_1)
                   (try replace hx212_2 := (HB.out.cell (World.block_lt_of_cell? w _ hx212_2)).trans hx212_2)
                   replace p212 := eq_true p212
                   replace q212 := eq_true q212
                   try go_wp2_with (first | ((with_reducible refine gate_dst (N := 4) rfl ?_); (try (refine gate_guard (by rfl) ?_; dsimp only)); refine Sh.bx (N := 4) (cs := #[.int .i64 0, .int .i64 0, .int .i64 0]) (t := 51) (h := ?_); intro gb213 hg w63 hbox hb; have n0_ := am_ (Sh.bb BK209.out hb); have n1_ := am_ (below_step Sh.bw hb); have n2_ := am_ (hbox); have n3_ := am_ (Sh.gw (w := w) hg); have n4_ := am_ (Sh.gw (w := w) hg); have n5_ := am_ (Sh.nl hg BK209.out); have n6_ := am_ (Sh.ng hg BK209.out); clear BK209; clear HB; have BK209 := n0_; have HB := n1_; have BK213 := n2_; have GW213 := n3_; have GE213 := n4_; have NB209_213 := n5_; have NB213_209 := n6_; clear n0_ n1_ n2_ n3_ n4_ n5_ n6_; clear hb hbox hg; have hnb64 := NB213_209.out; have hnc64 := NB209_213.out; have hcz65_0 := Sh.bc BK213.out 0; have hcz65_1 := Sh.bc BK213.out 1; have hcz65_2 := Sh.bc BK213.out 2; have hfz65_0 := blk_frozen BK213.out 0; have hfz65_1 := blk_frozen BK213.out 1; have hfz65_2 := blk_frozen BK213.out 2))
                   have n0_ : Aside0 ((((w63.setCell ⟨gb213, 0, none⟩ (.int .i64 ((rd_T51 l0_2 x38_2).f0))).setCell ⟨gb213, 1, none⟩ (.int .i64 ((rd_T51 l0_2 x38_2).f1))).setCell ⟨gb213, 2, none⟩ (.int .i64 ((rd_T51 l0_2 x38_2).f2))).heap[gb209]? = some (.cells #[.int .i64 a0_0, .slice A0_1 l0_1.length c0_1, .slice (some ad212) l0_2.length c0_2, .slice A0_3 l0_3.length c0_3] 32 (0, 0))) := ⟨by (with_reducible repeat (first | refine blk_drewN ?_ _ | refine blk_drew ?_ | refine blk_alloc ?_ _)); refine blk_far ?_ NB209_213.out _; (with_reducible repeat (first | refine blk_drewN ?_ _ | refine blk_drew ?_ | refine blk_alloc ?_ _)); refine blk_far ?_ NB209_213.out _; (with_reducible repeat (first | refine blk_drewN ?_ _ | refine blk_drew ?_ | refine blk_alloc ?_ _)); refine blk_far ?_ NB209_213.out _; (with_reducible repeat (first | refine blk_drewN ?_ _ | refine blk_drew ?_ | refine blk_alloc ?_ _)); exact BK209.out⟩
                   have n1_ : Aside0 ((((w63.setCell ⟨gb213, 0, none⟩ (.int .i64 ((rd_T51 l0_2 x38_2).f0))).setCell ⟨gb213, 1, none⟩ (.int .i64 ((rd_T51 l0_2 x38_2).f1))).setCell ⟨gb213, 2, none⟩ (.int .i64 ((rd_T51 l0_2 x38_2).f2))).heap[gb213]? = some (.cells #[.int .i64 ((rd_T51 l0_2 x38_2).f0), .int .i64 ((rd_T51 l0_2 x38_2).f1), .int .i64 ((rd_T51 l0_2 x38_2).f2)] 51 (0, 0))) := ⟨by (with_reducible repeat (first | refine blk_drewN ?_ _ | refine blk_drew ?_ | refine blk_alloc ?_ _)); refine blk_put (cs := #[.int .i64 ((rd_T51 l0_2 x38_2).f0), .int .i64 ((rd_T51 l0_2 x38_2).f1), .int .i64 0]) ?_ 2 _ rfl; (with_reducible repeat (first | refine blk_drewN ?_ _ | refine blk_drew ?_ | refine blk_alloc ?_ _)); refine blk_put (cs := #[.int .i64 ((rd_T51 l0_2 x38_2).f0), .int .i64 0, .int .i64 0]) ?_ 1 _ rfl; (with_reducible repeat (first | refine blk_drewN ?_ _ | refine blk_drew ?_ | refine blk_alloc ?_ _)); refine blk_put (cs := #[.int .i64 0, .int .i64 0, .int .i64 0]) ?_ 0 _ rfl; (with_reducible repeat (first | refine blk_drewN ?_ _ | refine blk_drew ?_ | refine blk_alloc ?_ _)); exact BK213.out⟩
                   have n2_ : Aside0 (Below w.heap.size w (((w63.setCell ⟨gb213, 0, none⟩ (.int .i64 ((rd_T51 l0_2 x38_2).f0))).setCell ⟨gb213, 1, none⟩ (.int .i64 ((rd_T51 l0_2 x38_2).f1))).setCell ⟨gb213, 2, none⟩ (.int .i64 ((rd_T51 l0_2 x38_2).f2)))) := ⟨by repeat (first | (with_reducible first | exact HB.out | apply below_alloc | apply pw_below_drewN | apply below_drew1 | refine below_set ?_ GE209.out | refine below_set ?_ GE213.out) | exact HB.out)⟩
                   (try clear BK209)
                   (try clear BK213)
                   (try clear HB)
                   generalize (((w63.setCell ⟨gb213, 0, none⟩ (.int .i64 ((rd_T51 l0_2 x38_2).f0))).setCell ⟨gb213, 1, none⟩ (.int .i64 ((rd_T51 l0_2 x38_2).f1))).setCell ⟨gb213, 2, none⟩ (.int .i64 ((rd_T51 l0_2 x38_2).f2))) = w66 at n0_ n1_ n2_ ⊢
                   have BK209 := n0_
                   have BK213 := n1_
                   have HB := n2_
                   clear n0_ n1_ n2_
                   have n0_ := am_ (blk_drew BK209.out)
                   have n1_ := am_ (blk_drew BK213.out)
                   have n2_ := am_ (below_drew1 HB.out)
                   clear BK209
                   clear BK213
                   clear HB
                   have BK209 := n0_
                   have BK213 := n1_
                   have HB := n2_
                   clear n0_ n1_ n2_
                   have p214 : 0 ≤ ((ji58) : Int) := of_decide_eq_true (by first | (with_reducible assumption) | assumption)
                   have q214 : (ji58) < (l0_2.length : Int) := of_decide_eq_true (by first | (with_reducible assumption) | assumption)
                   obtain ⟨ad214, e214, hx214_0, hx214_1, hx214_2⟩ := at_T51 HR0_2.out (ji58) p214 q214
                   have hw214_2 := hx214_2
                   have hw214_1 := hx214_1
                   have hw214_0 := hx214_0
                   obtain rfl : ad212 = ad214 := (by injection e214)
                   (try replace hx214_0 := (HB.out.cell (World.block_lt_of_cell? w _ hx214_0)).trans hx214_0)
                   (try replace hx214_1 := (HB.out.cell (World.block_lt_of_cell? w _ hx214_1)).trans hx214_1)
                   (try replace hx214_2 := (HB.out.cell (World.block_lt_of_cell? w _ hx214_2)).trans hx214_2)
                   replace p214 := eq_true p214
                   replace q214 := eq_true q214
                   refine start_ (n := 47) (S := fun w' => w'.cell? ⟨gb213, 0, none⟩ = some (.int .i64 ((rd_T51 l0_2 x38_2).f0)) ∧ w'.cell? ⟨gb213, 1, none⟩ = some (.int .i64 ((rd_T51 l0_2 x38_2).f1)) ∧ w'.cell? ⟨gb213, 2, none⟩ = some (.int .i64 ((rd_T51 l0_2 x38_2).f2)) ∧ w'.cell? ⟨gb209, 0, none⟩ = some (.int .i64 a0_0) ∧ w'.cell? ⟨gb209, 1, none⟩ = some (.slice A0_1 l0_1.length c0_1) ∧ w'.cell? ⟨gb209, 2, none⟩ = some (.slice (some ad212) l0_2.length c0_2) ∧ w'.cell? ⟨gb209, 3, none⟩ = some (.slice A0_3 l0_3.length c0_3) ∧ w'.cell? (ad212.add (((ji58)).toNat * 3)) = some (.int .i64 ((rd_T51 l0_2 (ji58)).f0)) ∧ w'.cell? ⟨(ad212.add (((ji58)).toNat * 3)).block, (ad212.add (((ji58)).toNat * 3)).off + 1, none⟩ = some (.int .i64 ((rd_T51 l0_2 (ji58)).f1)) ∧ w'.cell? ⟨(ad212.add (((ji58)).toNat * 3)).block, (ad212.add (((ji58)).toNat * 3)).off + 2, none⟩ = some (.int .i64 ((rd_T51 l0_2 (ji58)).f2))) (ds := []) #[false, false, false, false, false, false, false, false, false, false, false, false, false, false, false, false, false, false, false, false, false, false, false, false, false, false, false, false, false, false, false, false, false, false, false, false, false, false, false, false, false, false, false, false, false, false, false] (by kernel_rfl) rfl rfl ⟨(blk_cell BK213.out 0).trans rfl, (blk_cell BK213.out 1).trans rfl, (blk_cell BK213.out 2).trans rfl, (blk_cell BK209.out 0).trans rfl, (blk_cell BK209.out 1).trans rfl, (blk_cell BK209.out 2).trans rfl, (blk_cell BK209.out 3).trans rfl, ((HB.out.cell (World.block_lt_of_cell? w _ hw214_0)).trans hw214_0), ((HB.out.cell (World.block_lt_of_cell? w _ hw214_1)).trans hw214_1), ((HB.out.cell (World.block_lt_of_cell? w _ hw214_2)).trans hw214_2)⟩ (fun hHeld => ?_); refine with_tabW impl_GoodAuto.tab6 impl_GoodAuto.bits6 (fun HT_ HW_ => ?_)
                   generalize w66.drew = w67 at BK209 BK213 HB hx214_0 hx214_1 hx214_2 hHeld ⊢
                   refine Sh.pA 0 43 (Sh.pre 47 1) (any_of HT_.out (by kernel_rfl)) ?_ (ha := by simp only [Act.put, List.setIfInBounds_toArray, List.set_cons_zero, List.set_cons_succ, i64_w, i32_w, hji58]; rfl)
                   refine Sh.tA 1 44 (Sh.pre 47 2) (take_ofW HT_.out HW_.out (by kernel_rfl)) hHeld ?_ (hy := by rintro w' ⟨s0, s1, s2, s3, s4, s5, s6, s7, s8, s9⟩; go_simp; with_reducible rfl) (ha := by simp only [Act.put, List.setIfInBounds_toArray, List.set_cons_zero, List.set_cons_succ, i64_w, i32_w, hji58]; rfl)
                   refine Sh.pA 2 45 (Sh.pre 47 3) (any_of HT_.out (by kernel_rfl)) ?_ (ha := by simp only [Act.put, List.setIfInBounds_toArray, List.set_cons_zero, List.set_cons_succ, i64_w, i32_w, hji58]; rfl)
                   refine Sh.pA 3 46 (Sh.pre 47 4) (any_of HT_.out (by kernel_rfl)) ?_ (ha := by simp only [Act.put, List.setIfInBounds_toArray, List.set_cons_zero, List.set_cons_succ, i64_w, i32_w, hji58]; rfl)
                   refine Sh.pA 4 47 (Sh.pre 47 5) (any_of HT_.out (by kernel_rfl)) ?_ (ha := by simp only [Act.put, List.setIfInBounds_toArray, List.set_cons_zero, List.set_cons_succ, i64_w, i32_w, hji58]; rfl)
                   refine Sh.pA 6 49 #[true, true, true, true, true, false, true, false, false, false, false, false, false, false, false, false, false, false, false, false, false, false, false, false, false, false, false, false, false, false, false, false, false, false, false, false, false, false, false, false, false, false, false, false, false, false, false] (any_of HT_.out (by kernel_rfl)) ?_ (ha := by simp only [Act.put, List.setIfInBounds_toArray, List.set_cons_zero, List.set_cons_succ, i64_w, i32_w, hji58]; rfl)
                   refine Sh.tA 5 48 (Sh.pre 47 7) (take_ofW HT_.out HW_.out (by kernel_rfl)) hHeld ?_ (hy := by rintro w' ⟨s0, s1, s2, s3, s4, s5, s6, s7, s8, s9⟩; go_simp; with_reducible rfl) (ha := by simp only [Act.put, List.setIfInBounds_toArray, List.set_cons_zero, List.set_cons_succ, i64_w, i32_w, hji58]; rfl)
                   refine Sh.tA 7 50 (Sh.pre 47 8) (take_ofW HT_.out HW_.out (by kernel_rfl)) hHeld ?_ (hy := by rintro w' ⟨s0, s1, s2, s3, s4, s5, s6, s7, s8, s9⟩; go_simp; with_reducible rfl) (ha := by simp only [Act.put, List.setIfInBounds_toArray, List.set_cons_zero, List.set_cons_succ, i64_w, i32_w, hji58]; rfl)
                   refine Sh.pA 8 51 (Sh.pre 47 9) (any_of HT_.out (by kernel_rfl)) ?_ (ha := by simp only [Act.put, List.setIfInBounds_toArray, List.set_cons_zero, List.set_cons_succ, i64_w, i32_w, hji58]; rfl)
                   refine Sh.pA 9 52 (Sh.pre 47 10) (any_of HT_.out (by kernel_rfl)) ?_ (ha := by simp only [Act.put, List.setIfInBounds_toArray, List.set_cons_zero, List.set_cons_succ, i64_w, i32_w, hji58]; rfl)
                   refine Sh.pA 10 53 (Sh.pre 47 11) (any_of HT_.out (by kernel_rfl)) ?_ (ha := by simp only [Act.put, List.setIfInBounds_toArray, List.set_cons_zero, List.set_cons_succ, i64_w, i32_w, hji58]; rfl)
                   refine Sh.pA 11 54 (Sh.pre 47 12) (any_of HT_.out (by kernel_rfl)) ?_ (ha := by simp only [Act.put, List.setIfInBounds_toArray, List.set_cons_zero, List.set_cons_succ, i64_w, i32_w, hji58]; rfl)
                   refine Sh.tA 12 55 (Sh.pre 47 13) (take_ofW HT_.out HW_.out (by kernel_rfl)) hHeld ?_ (hy := by rintro w' ⟨s0, s1, s2, s3, s4, s5, s6, s7, s8, s9⟩; go_simp; with_reducible rfl) (ha := by simp only [Act.put, List.setIfInBounds_toArray, List.set_cons_zero, List.set_cons_succ, i64_w, i32_w, hji58]; rfl)
                   refine Sh.pA 13 56 (Sh.pre 47 14) (any_of HT_.out (by kernel_rfl)) ?_ (ha := by simp only [Act.put, List.setIfInBounds_toArray, List.set_cons_zero, List.set_cons_succ, i64_w, i32_w, hji58]; rfl)
                   refine Sh.pA 14 57 (Sh.pre 47 15) (any_of HT_.out (by kernel_rfl)) ?_ (ha := by simp only [Act.put, List.setIfInBounds_toArray, List.set_cons_zero, List.set_cons_succ, i64_w, i32_w, hji58]; rfl)
                   refine Sh.pA 15 58 (Sh.pre 47 16) (any_of HT_.out (by kernel_rfl)) ?_ (ha := by simp only [Act.put, List.setIfInBounds_toArray, List.set_cons_zero, List.set_cons_succ, i64_w, i32_w, hji58]; rfl)
                   refine Sh.pA 16 59 (Sh.pre 47 17) (any_of HT_.out (by kernel_rfl)) ?_ (ha := by simp only [Act.put, List.setIfInBounds_toArray, List.set_cons_zero, List.set_cons_succ, i64_w, i32_w, hji58]; rfl)
                   refine Sh.pA 18 61 #[true, true, true, true, true, true, true, true, true, true, true, true, true, true, true, true, true, false, true, false, false, false, false, false, false, false, false, false, false, false, false, false, false, false, false, false, false, false, false, false, false, false, false, false, false, false, false] (any_of HT_.out (by kernel_rfl)) ?_ (ha := by simp only [Act.put, List.setIfInBounds_toArray, List.set_cons_zero, List.set_cons_succ, i64_w, i32_w, hji58]; rfl)
                   refine Sh.tA 17 60 (Sh.pre 47 19) (take_ofW HT_.out HW_.out (by kernel_rfl)) hHeld ?_ (hy := by rintro w' ⟨s0, s1, s2, s3, s4, s5, s6, s7, s8, s9⟩; go_simp; with_reducible rfl) (ha := by simp only [Act.put, List.setIfInBounds_toArray, List.set_cons_zero, List.set_cons_succ, i64_w, i32_w, hji58]; rfl)
                   refine Sh.tA 19 62 (Sh.pre 47 20) (take_ofW HT_.out HW_.out (by kernel_rfl)) hHeld ?_ (hy := by rintro w' ⟨s0, s1, s2, s3, s4, s5, s6, s7, s8, s9⟩; go_simp; with_reducible rfl) (ha := by simp only [Act.put, List.setIfInBounds_toArray, List.set_cons_zero, List.set_cons_succ, i64_w, i32_w, hji58]; rfl)
                   refine Sh.pA 20 63 (Sh.pre 47 21) (any_of HT_.out (by kernel_rfl)) ?_ (ha := by simp only [Act.put, List.setIfInBounds_toArray, List.set_cons_zero, List.set_cons_succ, i64_w, i32_w, hji58]; rfl)
                   refine Sh.pA 21 64 (Sh.pre 47 22) (any_of HT_.out (by kernel_rfl)) ?_ (ha := by simp only [Act.put, List.setIfInBounds_toArray, List.set_cons_zero, List.set_cons_succ, i64_w, i32_w, hji58]; rfl)
                   refine Sh.pA 22 65 (Sh.pre 47 23) (any_of HT_.out (by kernel_rfl)) ?_ (ha := by simp only [Act.put, List.setIfInBounds_toArray, List.set_cons_zero, List.set_cons_succ, i64_w, i32_w, hji58]; rfl)
                   refine Sh.pA 23 66 (Sh.pre 47 24) (any_of HT_.out (by kernel_rfl)) ?_ (ha := by simp only [Act.put, List.setIfInBounds_toArray, List.set_cons_zero, List.set_cons_succ, i64_w, i32_w, hji58]; rfl)
                   refine Sh.tA 24 67 (Sh.pre 47 25) (take_ofW HT_.out HW_.out (by kernel_rfl)) hHeld ?_ (hy := by rintro w' ⟨s0, s1, s2, s3, s4, s5, s6, s7, s8, s9⟩; go_simp; with_reducible rfl) (ha := by simp only [Act.put, List.setIfInBounds_toArray, List.set_cons_zero, List.set_cons_succ, i64_w, i32_w, hji58]; rfl)
                   refine Sh.pA 25 68 (Sh.pre 47 26) (any_of HT_.out (by kernel_rfl)) ?_ (ha := by simp only [Act.put, List.setIfInBounds_toArray, List.set_cons_zero, List.set_cons_succ, i64_w, i32_w, hji58]; rfl)
                   refine Sh.pA 26 69 (Sh.pre 47 27) (any_of HT_.out (by kernel_rfl)) ?_ (ha := by simp only [Act.put, List.setIfInBounds_toArray, List.set_cons_zero, List.set_cons_succ, i64_w, i32_w, hji58]; rfl)
                   refine Sh.pA 27 70 (Sh.pre 47 28) (any_of HT_.out (by kernel_rfl)) ?_ (ha := by simp only [Act.put, List.setIfInBounds_toArray, List.set_cons_zero, List.set_cons_succ, i64_w, i32_w, hji58]; rfl)
                   refine Sh.pA 28 71 (Sh.pre 47 29) (any_of HT_.out (by kernel_rfl)) ?_ (ha := by simp only [Act.put, List.setIfInBounds_toArray, List.set_cons_zero, List.set_cons_succ, i64_w, i32_w, hji58]; rfl)
                   refine Sh.tA 29 72 (Sh.pre 47 30) (take_ofW HT_.out HW_.out (by kernel_rfl)) hHeld ?_ (hy := by rintro w' ⟨s0, s1, s2, s3, s4, s5, s6, s7, s8, s9⟩; go_simp; with_reducible rfl) (ha := by simp only [Act.put, List.setIfInBounds_toArray, List.set_cons_zero, List.set_cons_succ, i64_w, i32_w, hji58]; rfl)
                   refine Sh.pA 30 73 (Sh.pre 47 31) (any_of HT_.out (by kernel_rfl)) ?_ (ha := by simp only [Act.put, List.setIfInBounds_toArray, List.set_cons_zero, List.set_cons_succ, i64_w, i32_w, hji58]; rfl)
                   refine Sh.pA 31 74 (Sh.pre 47 32) (any_of HT_.out (by kernel_rfl)) ?_ (ha := by simp only [Act.put, List.setIfInBounds_toArray, List.set_cons_zero, List.set_cons_succ, i64_w, i32_w, hji58]; rfl)
                   refine Sh.pA 32 75 (Sh.pre 47 33) (any_of HT_.out (by kernel_rfl)) ?_ (ha := by simp only [Act.put, List.setIfInBounds_toArray, List.set_cons_zero, List.set_cons_succ, i64_w, i32_w, hji58]; rfl)
                   refine Sh.pA 33 76 (Sh.pre 47 34) (any_of HT_.out (by kernel_rfl)) ?_ (ha := by simp only [Act.put, List.setIfInBounds_toArray, List.set_cons_zero, List.set_cons_succ, i64_w, i32_w, hji58]; rfl)
                   refine Sh.pA 34 77 (Sh.pre 47 35) (any_of HT_.out (by kernel_rfl)) ?_ (ha := by simp only [Act.put, List.setIfInBounds_toArray, List.set_cons_zero, List.set_cons_succ, i64_w, i32_w, hji58]; rfl)
                   refine Sh.pA 35 78 (Sh.pre 47 36) (any_of HT_.out (by kernel_rfl)) ?_ (ha := by simp only [Act.put, List.setIfInBounds_toArray, List.set_cons_zero, List.set_cons_succ, i64_w, i32_w, hji58]; rfl)
                   refine Sh.pA 36 79 (Sh.pre 47 37) (any_of HT_.out (by kernel_rfl)) ?_ (ha := by simp only [Act.put, List.setIfInBounds_toArray, List.set_cons_zero, List.set_cons_succ, i64_w, i32_w, hji58]; rfl)
                   refine Sh.pA 38 81 #[true, true, true, true, true, true, true, true, true, true, true, true, true, true, true, true, true, true, true, true, true, true, true, true, true, true, true, true, true, true, true, true, true, true, true, true, true, false, true, false, false, false, false, false, false, false, false] (any_of HT_.out (by kernel_rfl)) ?_ (ha := by simp only [Act.put, List.setIfInBounds_toArray, List.set_cons_zero, List.set_cons_succ, i64_w, i32_w, hji58]; rfl)
                   refine Sh.pA 39 82 #[true, true, true, true, true, true, true, true, true, true, true, true, true, true, true, true, true, true, true, true, true, true, true, true, true, true, true, true, true, true, true, true, true, true, true, true, true, false, true, true, false, false, false, false, false, false, false] (any_of HT_.out (by kernel_rfl)) ?_ (ha := by simp only [Act.put, List.setIfInBounds_toArray, List.set_cons_zero, List.set_cons_succ, i64_w, i32_w, hji58]; rfl)
                   refine Sh.tA 37 80 (Sh.pre 47 40) (take_ofW HT_.out HW_.out (by kernel_rfl)) hHeld ?_ (hy := by rintro w' ⟨s0, s1, s2, s3, s4, s5, s6, s7, s8, s9⟩; go_simp; with_reducible rfl) (ha := by simp only [Act.put, List.setIfInBounds_toArray, List.set_cons_zero, List.set_cons_succ, i64_w, i32_w, hji58]; rfl)
                   refine Sh.pA 40 83 (Sh.pre 47 41) (any_of HT_.out (by kernel_rfl)) ?_ (ha := by simp only [Act.put, List.setIfInBounds_toArray, List.set_cons_zero, List.set_cons_succ, i64_w, i32_w, hji58]; rfl)
                   refine Sh.tA 41 84 (Sh.pre 47 42) (take_ofW HT_.out HW_.out (by kernel_rfl)) hHeld ?_ (hy := by rintro w' ⟨s0, s1, s2, s3, s4, s5, s6, s7, s8, s9⟩; go_simp; with_reducible rfl) (ha := by simp only [Act.put, List.setIfInBounds_toArray, List.set_cons_zero, List.set_cons_succ, i64_w, i32_w, hji58]; rfl)
                   refine Sh.tA 42 85 (Sh.pre 47 43) (take_ofW HT_.out HW_.out (by kernel_rfl)) hHeld ?_ (hy := by rintro w' ⟨s0, s1, s2, s3, s4, s5, s6, s7, s8, s9⟩; go_simp; with_reducible rfl) (ha := by simp only [Act.put, List.setIfInBounds_toArray, List.set_cons_zero, List.set_cons_succ, i64_w, i32_w, hji58]; rfl)
                   refine one_ (i := 43) (N := some 86) #[true, true, true, true, true, true, true, true, true, true, true, true, true, true, true, true, true, true, true, true, true, true, true, true, true, true, true, true, true, true, true, true, true, true, true, true, true, true, true, true, true, true, true, true, false, false, false] rfl rfl (one_of HT_.out (by kernel_rfl)) (by decide) (fun K hK => ?_)
                   refine goes_ Try.func39 (by kernel_rfl) rfl #[.agg #[.int .i64 ((rd_T51 l0_2 (ji58)).f0), .int .i64 ((rd_T51 l0_2 (ji58)).f1), .int .i64 ((rd_T51 l0_2 (ji58)).f2)], .agg #[.int .i64 ((rd_T51 l0_2 x38_2).f0), .int .i64 ((rd_T51 l0_2 x38_2).f1), .int .i64 ((rd_T51 l0_2 x38_2).f2)]] (by rfl) rfl rfl (by (try simp only [List.map_toArray, List.map_cons, List.map_nil]); first | done | (simp only [hji58]; rfl) | rfl | (simp only [List.length_drop, List.length_take]; rfl)) ?_
                   with_reducible refine (impl_compareEdges.calls k2 ((rd_T51 l0_2 (ji58)).f0) ((rd_T51 l0_2 (ji58)).f1) ((rd_T51 l0_2 (ji58)).f2) ((rd_T51 l0_2 x38_2).f0) ((rd_T51 l0_2 x38_2).f1) ((rd_T51 l0_2 x38_2).f2) t215 _ A61.out).mono ?_
                   rintro e w68 ⟨rfl, hb⟩
                   refine ⟨_, rfl, ?_⟩
                   have n0_ := am_ (Sh.bb BK209.out hb)
                   have n1_ := am_ (Sh.bb BK213.out hb)
                   have n2_ := am_ (below_step Sh.bw hb)
                   clear BK209
                   clear BK213
                   clear HB
                   have BK209 := n0_
                   have BK213 := n1_
                   have HB := n2_
                   clear n0_ n1_ n2_
                   (try clear hb)
                   (try clear hb2)
                   (try clear hk)
                   (try clear hi)
                   refine hK.out _ _ ⟨(blk_cell BK213.out 0).trans rfl, (blk_cell BK213.out 1).trans rfl, (blk_cell BK213.out 2).trans rfl, (blk_cell BK209.out 0).trans rfl, (blk_cell BK209.out 1).trans rfl, (blk_cell BK209.out 2).trans rfl, (blk_cell BK209.out 3).trans rfl, ((HB.out.cell (World.block_lt_of_cell? w _ hw214_0)).trans hw214_0), ((HB.out.cell (World.block_lt_of_cell? w _ hw214_1)).trans hw214_1), ((HB.out.cell (World.block_lt_of_cell? w _ hw214_2)).trans hw214_2)⟩ (fun hHeld => ?_)
                   clear hK K
                   refine norm_ (a' := ?_) ?_ ?_
                   rotate_left
                   ·show Act.put _ (some 86) _ = _
                    simp only [Act.put, List.setIfInBounds_toArray, List.set_cons_zero, List.set_cons_succ, i64_w, i32_w, hji58]
                    rfl
                   refine Sh.pA 44 87 (Sh.pre 47 45) (any_of HT_.out (by kernel_rfl)) ?_ (ha := by simp only [Act.put, List.setIfInBounds_toArray, List.set_cons_zero, List.set_cons_succ, i64_w, i32_w, hji58]; rfl)
                   refine Sh.pA 45 88 (Sh.pre 47 46) (any_of HT_.out (by kernel_rfl)) ?_ (ha := by simp only [Act.put, List.setIfInBounds_toArray, List.set_cons_zero, List.set_cons_succ, i64_w, i32_w, hji58]; rfl)
                   refine Sh.pA 46 89 (Sh.pre 47 47) (any_of HT_.out (by kernel_rfl)) ?_ (ha := by simp only [Act.put, List.setIfInBounds_toArray, List.set_cons_zero, List.set_cons_succ, i64_w, i32_w, hji58]; rfl)
                   refine done_ (done_of HT_.out (by kernel_rfl)) ?_
                   try go_wp2
                   go_ret
                   exact ⟨by first | rfl | (simp [errW_none, errW_some] <;> rfl) | (simp only [← hji58]; first | rfl | (simp [errW_none, errW_some] <;> rfl)) | (simp [*, errW_none, errW_some] <;> rfl), Sh.bw⟩
                  ·rw [if_neg c62] at H
                   have c62b0 : decide (0 ≤ t215) = false := decide_eq_false c62
                   clear c62
                   have H' := am_ H
                   clear H
                   have p212 : 0 ≤ (x38_2 : Int) := of_decide_eq_true (by first | (with_reducible assumption) | assumption)
                   have q212 : x38_2 < (l0_2.length : Int) := of_decide_eq_true (by first | (with_reducible assumption) | assumption)
                   obtain ⟨ad212, e212, hx212_0, hx212_1, hx212_2⟩ := at_T51 HR0_2.out x38_2 p212 q212
                   cases e212
                   (try replace hx212_0 := (HB.out.cell (World.block_lt_of_cell? w _ hx212_0)).trans hx212_0)
                   (try replace hx212_1 := (HB.out.cell (World.block_lt_of_cell? w _ hx212_1)).trans hx212_1)
                   (try replace hx212_2 := (HB.out.cell (World.block_lt_of_cell? w _ hx212_2)).trans hx212_2)
                   replace p212 := eq_true p212
                   replace q212 := eq_true q212
                   try go_wp2_with (first | ((with_reducible refine gate_dst (N := 4) rfl ?_); (try (refine gate_guard (by rfl) ?_; dsimp only)); refine Sh.bx (N := 4) (cs := #[.int .i64 0, .int .i64 0, .int .i64 0]) (t := 51) (h := ?_); intro gb213 hg w69 hbox hb; have n0_ := am_ (Sh.bb BK209.out hb); have n1_ := am_ (below_step Sh.bw hb); have n2_ := am_ (hbox); have n3_ := am_ (Sh.gw (w := w) hg); have n4_ := am_ (Sh.gw (w := w) hg); have n5_ := am_ (Sh.nl hg BK209.out); have n6_ := am_ (Sh.ng hg BK209.out); clear BK209; clear HB; have BK209 := n0_; have HB := n1_; have BK213 := n2_; have GW213 := n3_; have GE213 := n4_; have NB209_213 := n5_; have NB213_209 := n6_; clear n0_ n1_ n2_ n3_ n4_ n5_ n6_; clear hb hbox hg; have hnb70 := NB213_209.out; have hnc70 := NB209_213.out; have hcz71_0 := Sh.bc BK213.out 0; have hcz71_1 := Sh.bc BK213.out 1; have hcz71_2 := Sh.bc BK213.out 2; have hfz71_0 := blk_frozen BK213.out 0; have hfz71_1 := blk_frozen BK213.out 1; have hfz71_2 := blk_frozen BK213.out 2))
                   have n0_ : Aside0 ((((w69.setCell ⟨gb213, 0, none⟩ (.int .i64 ((rd_T51 l0_2 x38_2).f0))).setCell ⟨gb213, 1, none⟩ (.int .i64 ((rd_T51 l0_2 x38_2).f1))).setCell ⟨gb213, 2, none⟩ (.int .i64 ((rd_T51 l0_2 x38_2).f2))).heap[gb209]? = some (.cells #[.int .i64 a0_0, .slice A0_1 l0_1.length c0_1, .slice (some ad212) l0_2.length c0_2, .slice A0_3 l0_3.length c0_3] 32 (0, 0))) := ⟨by (with_reducible repeat (first | refine blk_drewN ?_ _ | refine blk_drew ?_ | refine blk_alloc ?_ _)); refine blk_far ?_ NB209_213.out _; (with_reducible repeat (first | refine blk_drewN ?_ _ | refine blk_drew ?_ | refine blk_alloc ?_ _)); refine blk_far ?_ NB209_213.out _; (with_reducible repeat (first | refine blk_drewN ?_ _ | refine blk_drew ?_ | refine blk_alloc ?_ _)); refine blk_far ?_ NB209_213.out _; (with_reducible repeat (first | refine blk_drewN ?_ _ | refine blk_drew ?_ | refine blk_alloc ?_ _)); exact BK209.out⟩
                   have n1_ : Aside0 ((((w69.setCell ⟨gb213, 0, none⟩ (.int .i64 ((rd_T51 l0_2 x38_2).f0))).setCell ⟨gb213, 1, none⟩ (.int .i64 ((rd_T51 l0_2 x38_2).f1))).setCell ⟨gb213, 2, none⟩ (.int .i64 ((rd_T51 l0_2 x38_2).f2))).heap[gb213]? = some (.cells #[.int .i64 ((rd_T51 l0_2 x38_2).f0), .int .i64 ((rd_T51 l0_2 x38_2).f1), .int .i64 ((rd_T51 l0_2 x38_2).f2)] 51 (0, 0))) := ⟨by (with_reducible repeat (first | refine blk_drewN ?_ _ | refine blk_drew ?_ | refine blk_alloc ?_ _)); refine blk_put (cs := #[.int .i64 ((rd_T51 l0_2 x38_2).f0), .int .i64 ((rd_T51 l0_2 x38_2).f1), .int .i64 0]) ?_ 2 _ rfl; (with_reducible repeat (first | refine blk_drewN ?_ _ | refine blk_drew ?_ | refine blk_alloc ?_ _)); refine blk_put (cs := #[.int .i64 ((rd_T51 l0_2 x38_2).f0), .int .i64 0, .int .i64 0]) ?_ 1 _ rfl; (with_reducible repeat (first | refine blk_drewN ?_ _ | refine blk_drew ?_ | refine blk_alloc ?_ _)); refine blk_put (cs := #[.int .i64 0, .int .i64 0, .int .i64 0]) ?_ 0 _ rfl; (with_reducible repeat (first | refine blk_drewN ?_ _ | refine blk_drew ?_ | refine blk_alloc ?_ _)); exact BK213.out⟩
                   have n2_ : Aside0 (Below w.heap.size w (((w69.setCell ⟨gb213, 0, none⟩ (.int .i64 ((rd_T51 l0_2 x38_2).f0))).setCell ⟨gb213, 1, none⟩ (.int .i64 ((rd_T51 l0_2 x38_2).f1))).setCell ⟨gb213, 2, none⟩ (.int .i64 ((rd_T51 l0_2 x38_2).f2)))) := ⟨by repeat (first | (with_reducible first | exact HB.out | apply below_alloc | apply pw_below_drewN | apply below_drew1 | refine below_set ?_ GE209.out | refine below_set ?_ GE213.out) | exact HB.out)⟩
                   (try clear BK209)
                   (try clear BK213)
                   (try clear HB)
                   generalize (((w69.setCell ⟨gb213, 0, none⟩ (.int .i64 ((rd_T51 l0_2 x38_2).f0))).setCell ⟨gb213, 1, none⟩ (.int .i64 ((rd_T51 l0_2 x38_2).f1))).setCell ⟨gb213, 2, none⟩ (.int .i64 ((rd_T51 l0_2 x38_2).f2))) = w72 at n0_ n1_ n2_ ⊢
                   have BK209 := n0_
                   have BK213 := n1_
                   have HB := n2_
                   clear n0_ n1_ n2_
                   have n0_ := am_ (blk_drew BK209.out)
                   have n1_ := am_ (blk_drew BK213.out)
                   have n2_ := am_ (below_drew1 HB.out)
                   clear BK209
                   clear BK213
                   clear HB
                   have BK209 := n0_
                   have BK213 := n1_
                   have HB := n2_
                   clear n0_ n1_ n2_
                   have p214 : 0 ≤ ((ji58) : Int) := of_decide_eq_true (by first | (with_reducible assumption) | assumption)
                   have q214 : (ji58) < (l0_2.length : Int) := of_decide_eq_true (by first | (with_reducible assumption) | assumption)
                   obtain ⟨ad214, e214, hx214_0, hx214_1, hx214_2⟩ := at_T51 HR0_2.out (ji58) p214 q214
                   have hw214_2 := hx214_2
                   have hw214_1 := hx214_1
                   have hw214_0 := hx214_0
                   obtain rfl : ad212 = ad214 := (by injection e214)
                   (try replace hx214_0 := (HB.out.cell (World.block_lt_of_cell? w _ hx214_0)).trans hx214_0)
                   (try replace hx214_1 := (HB.out.cell (World.block_lt_of_cell? w _ hx214_1)).trans hx214_1)
                   (try replace hx214_2 := (HB.out.cell (World.block_lt_of_cell? w _ hx214_2)).trans hx214_2)
                   replace p214 := eq_true p214
                   replace q214 := eq_true q214
                   refine start_ (n := 47) (S := fun w' => w'.cell? ⟨gb213, 0, none⟩ = some (.int .i64 ((rd_T51 l0_2 x38_2).f0)) ∧ w'.cell? ⟨gb213, 1, none⟩ = some (.int .i64 ((rd_T51 l0_2 x38_2).f1)) ∧ w'.cell? ⟨gb213, 2, none⟩ = some (.int .i64 ((rd_T51 l0_2 x38_2).f2)) ∧ w'.cell? ⟨gb209, 0, none⟩ = some (.int .i64 a0_0) ∧ w'.cell? ⟨gb209, 1, none⟩ = some (.slice A0_1 l0_1.length c0_1) ∧ w'.cell? ⟨gb209, 2, none⟩ = some (.slice (some ad212) l0_2.length c0_2) ∧ w'.cell? ⟨gb209, 3, none⟩ = some (.slice A0_3 l0_3.length c0_3) ∧ w'.cell? (ad212.add (((ji58)).toNat * 3)) = some (.int .i64 ((rd_T51 l0_2 (ji58)).f0)) ∧ w'.cell? ⟨(ad212.add (((ji58)).toNat * 3)).block, (ad212.add (((ji58)).toNat * 3)).off + 1, none⟩ = some (.int .i64 ((rd_T51 l0_2 (ji58)).f1)) ∧ w'.cell? ⟨(ad212.add (((ji58)).toNat * 3)).block, (ad212.add (((ji58)).toNat * 3)).off + 2, none⟩ = some (.int .i64 ((rd_T51 l0_2 (ji58)).f2))) (ds := []) #[false, false, false, false, false, false, false, false, false, false, false, false, false, false, false, false, false, false, false, false, false, false, false, false, false, false, false, false, false, false, false, false, false, false, false, false, false, false, false, false, false, false, false, false, false, false, false] (by kernel_rfl) rfl rfl ⟨(blk_cell BK213.out 0).trans rfl, (blk_cell BK213.out 1).trans rfl, (blk_cell BK213.out 2).trans rfl, (blk_cell BK209.out 0).trans rfl, (blk_cell BK209.out 1).trans rfl, (blk_cell BK209.out 2).trans rfl, (blk_cell BK209.out 3).trans rfl, ((HB.out.cell (World.block_lt_of_cell? w _ hw214_0)).trans hw214_0), ((HB.out.cell (World.block_lt_of_cell? w _ hw214_1)).trans hw214_1), ((HB.out.cell (World.block_lt_of_cell? w _ hw214_2)).trans hw214_2)⟩ (fun hHeld => ?_); refine with_tabW impl_GoodAuto.tab6 impl_GoodAuto.bits6 (fun HT_ HW_ => ?_)
                   generalize w72.drew = w73 at BK209 BK213 HB hx214_0 hx214_1 hx214_2 hHeld ⊢
                   refine Sh.pA 0 43 (Sh.pre 47 1) (any_of HT_.out (by kernel_rfl)) ?_ (ha := by simp only [Act.put, List.setIfInBounds_toArray, List.set_cons_zero, List.set_cons_succ, i64_w, i32_w, hji58]; rfl)
                   refine Sh.tA 1 44 (Sh.pre 47 2) (take_ofW HT_.out HW_.out (by kernel_rfl)) hHeld ?_ (hy := by rintro w' ⟨s0, s1, s2, s3, s4, s5, s6, s7, s8, s9⟩; go_simp; with_reducible rfl) (ha := by simp only [Act.put, List.setIfInBounds_toArray, List.set_cons_zero, List.set_cons_succ, i64_w, i32_w, hji58]; rfl)
                   refine Sh.pA 2 45 (Sh.pre 47 3) (any_of HT_.out (by kernel_rfl)) ?_ (ha := by simp only [Act.put, List.setIfInBounds_toArray, List.set_cons_zero, List.set_cons_succ, i64_w, i32_w, hji58]; rfl)
                   refine Sh.pA 3 46 (Sh.pre 47 4) (any_of HT_.out (by kernel_rfl)) ?_ (ha := by simp only [Act.put, List.setIfInBounds_toArray, List.set_cons_zero, List.set_cons_succ, i64_w, i32_w, hji58]; rfl)
                   refine Sh.pA 4 47 (Sh.pre 47 5) (any_of HT_.out (by kernel_rfl)) ?_ (ha := by simp only [Act.put, List.setIfInBounds_toArray, List.set_cons_zero, List.set_cons_succ, i64_w, i32_w, hji58]; rfl)
                   refine Sh.pA 6 49 #[true, true, true, true, true, false, true, false, false, false, false, false, false, false, false, false, false, false, false, false, false, false, false, false, false, false, false, false, false, false, false, false, false, false, false, false, false, false, false, false, false, false, false, false, false, false, false] (any_of HT_.out (by kernel_rfl)) ?_ (ha := by simp only [Act.put, List.setIfInBounds_toArray, List.set_cons_zero, List.set_cons_succ, i64_w, i32_w, hji58]; rfl)
                   refine Sh.tA 5 48 (Sh.pre 47 7) (take_ofW HT_.out HW_.out (by kernel_rfl)) hHeld ?_ (hy := by rintro w' ⟨s0, s1, s2, s3, s4, s5, s6, s7, s8, s9⟩; go_simp; with_reducible rfl) (ha := by simp only [Act.put, List.setIfInBounds_toArray, List.set_cons_zero, List.set_cons_succ, i64_w, i32_w, hji58]; rfl)
                   refine Sh.tA 7 50 (Sh.pre 47 8) (take_ofW HT_.out HW_.out (by kernel_rfl)) hHeld ?_ (hy := by rintro w' ⟨s0, s1, s2, s3, s4, s5, s6, s7, s8, s9⟩; go_simp; with_reducible rfl) (ha := by simp only [Act.put, List.setIfInBounds_toArray, List.set_cons_zero, List.set_cons_succ, i64_w, i32_w, hji58]; rfl)
                   refine Sh.pA 8 51 (Sh.pre 47 9) (any_of HT_.out (by kernel_rfl)) ?_ (ha := by simp only [Act.put, List.setIfInBounds_toArray, List.set_cons_zero, List.set_cons_succ, i64_w, i32_w, hji58]; rfl)
                   refine Sh.pA 9 52 (Sh.pre 47 10) (any_of HT_.out (by kernel_rfl)) ?_ (ha := by simp only [Act.put, List.setIfInBounds_toArray, List.set_cons_zero, List.set_cons_succ, i64_w, i32_w, hji58]; rfl)
                   refine Sh.pA 10 53 (Sh.pre 47 11) (any_of HT_.out (by kernel_rfl)) ?_ (ha := by simp only [Act.put, List.setIfInBounds_toArray, List.set_cons_zero, List.set_cons_succ, i64_w, i32_w, hji58]; rfl)
                   refine Sh.pA 11 54 (Sh.pre 47 12) (any_of HT_.out (by kernel_rfl)) ?_ (ha := by simp only [Act.put, List.setIfInBounds_toArray, List.set_cons_zero, List.set_cons_succ, i64_w, i32_w, hji58]; rfl)
                   refine Sh.tA 12 55 (Sh.pre 47 13) (take_ofW HT_.out HW_.out (by kernel_rfl)) hHeld ?_ (hy := by rintro w' ⟨s0, s1, s2, s3, s4, s5, s6, s7, s8, s9⟩; go_simp; with_reducible rfl) (ha := by simp only [Act.put, List.setIfInBounds_toArray, List.set_cons_zero, List.set_cons_succ, i64_w, i32_w, hji58]; rfl)
                   refine Sh.pA 13 56 (Sh.pre 47 14) (any_of HT_.out (by kernel_rfl)) ?_ (ha := by simp only [Act.put, List.setIfInBounds_toArray, List.set_cons_zero, List.set_cons_succ, i64_w, i32_w, hji58]; rfl)
                   refine Sh.pA 14 57 (Sh.pre 47 15) (any_of HT_.out (by kernel_rfl)) ?_ (ha := by simp only [Act.put, List.setIfInBounds_toArray, List.set_cons_zero, List.set_cons_succ, i64_w, i32_w, hji58]; rfl)
                   refine Sh.pA 15 58 (Sh.pre 47 16) (any_of HT_.out (by kernel_rfl)) ?_ (ha := by simp only [Act.put, List.setIfInBounds_toArray, List.set_cons_zero, List.set_cons_succ, i64_w, i32_w, hji58]; rfl)
                   refine Sh.pA 16 59 (Sh.pre 47 17) (any_of HT_.out (by kernel_rfl)) ?_ (ha := by simp only [Act.put, List.setIfInBounds_toArray, List.set_cons_zero, List.set_cons_succ, i64_w, i32_w, hji58]; rfl)
                   refine Sh.pA 18 61 #[true, true, true, true, true, true, true, true, true, true, true, true, true, true, true, true, true, false, true, false, false, false, false, false, false, false, false, false, false, false, false, false, false, false, false, false, false, false, false, false, false, false, false, false, false, false, false] (any_of HT_.out (by kernel_rfl)) ?_ (ha := by simp only [Act.put, List.setIfInBounds_toArray, List.set_cons_zero, List.set_cons_succ, i64_w, i32_w, hji58]; rfl)
                   refine Sh.tA 17 60 (Sh.pre 47 19) (take_ofW HT_.out HW_.out (by kernel_rfl)) hHeld ?_ (hy := by rintro w' ⟨s0, s1, s2, s3, s4, s5, s6, s7, s8, s9⟩; go_simp; with_reducible rfl) (ha := by simp only [Act.put, List.setIfInBounds_toArray, List.set_cons_zero, List.set_cons_succ, i64_w, i32_w, hji58]; rfl)
                   refine Sh.tA 19 62 (Sh.pre 47 20) (take_ofW HT_.out HW_.out (by kernel_rfl)) hHeld ?_ (hy := by rintro w' ⟨s0, s1, s2, s3, s4, s5, s6, s7, s8, s9⟩; go_simp; with_reducible rfl) (ha := by simp only [Act.put, List.setIfInBounds_toArray, List.set_cons_zero, List.set_cons_succ, i64_w, i32_w, hji58]; rfl)
                   refine Sh.pA 20 63 (Sh.pre 47 21) (any_of HT_.out (by kernel_rfl)) ?_ (ha := by simp only [Act.put, List.setIfInBounds_toArray, List.set_cons_zero, List.set_cons_succ, i64_w, i32_w, hji58]; rfl)
                   refine Sh.pA 21 64 (Sh.pre 47 22) (any_of HT_.out (by kernel_rfl)) ?_ (ha := by simp only [Act.put, List.setIfInBounds_toArray, List.set_cons_zero, List.set_cons_succ, i64_w, i32_w, hji58]; rfl)
                   refine Sh.pA 22 65 (Sh.pre 47 23) (any_of HT_.out (by kernel_rfl)) ?_ (ha := by simp only [Act.put, List.setIfInBounds_toArray, List.set_cons_zero, List.set_cons_succ, i64_w, i32_w, hji58]; rfl)
                   refine Sh.pA 23 66 (Sh.pre 47 24) (any_of HT_.out (by kernel_rfl)) ?_ (ha := by simp only [Act.put, List.setIfInBounds_toArray, List.set_cons_zero, List.set_cons_succ, i64_w, i32_w, hji58]; rfl)
                   refine Sh.tA 24 67 (Sh.pre 47 25) (take_ofW HT_.out HW_.out (by kernel_rfl)) hHeld ?_ (hy := by rintro w' ⟨s0, s1, s2, s3, s4, s5, s6, s7, s8, s9⟩; go_simp; with_reducible rfl) (ha := by simp only [Act.put, List.setIfInBounds_toArray, List.set_cons_zero, List.set_cons_succ, i64_w, i32_w, hji58]; rfl)
                   refine Sh.pA 25 68 (Sh.pre 47 26) (any_of HT_.out (by kernel_rfl)) ?_ (ha := by simp only [Act.put, List.setIfInBounds_toArray, List.set_cons_zero, List.set_cons_succ, i64_w, i32_w, hji58]; rfl)
                   refine Sh.pA 26 69 (Sh.pre 47 27) (any_of HT_.out (by kernel_rfl)) ?_ (ha := by simp only [Act.put, List.setIfInBounds_toArray, List.set_cons_zero, List.set_cons_succ, i64_w, i32_w, hji58]; rfl)
                   refine Sh.pA 27 70 (Sh.pre 47 28) (any_of HT_.out (by kernel_rfl)) ?_ (ha := by simp only [Act.put, List.setIfInBounds_toArray, List.set_cons_zero, List.set_cons_succ, i64_w, i32_w, hji58]; rfl)
                   refine Sh.pA 28 71 (Sh.pre 47 29) (any_of HT_.out (by kernel_rfl)) ?_ (ha := by simp only [Act.put, List.setIfInBounds_toArray, List.set_cons_zero, List.set_cons_succ, i64_w, i32_w, hji58]; rfl)
                   refine Sh.tA 29 72 (Sh.pre 47 30) (take_ofW HT_.out HW_.out (by kernel_rfl)) hHeld ?_ (hy := by rintro w' ⟨s0, s1, s2, s3, s4, s5, s6, s7, s8, s9⟩; go_simp; with_reducible rfl) (ha := by simp only [Act.put, List.setIfInBounds_toArray, List.set_cons_zero, List.set_cons_succ, i64_w, i32_w, hji58]; rfl)
                   refine Sh.pA 30 73 (Sh.pre 47 31) (any_of HT_.out (by kernel_rfl)) ?_ (ha := by simp only [Act.put, List.setIfInBounds_toArray, List.set_cons_zero, List.set_cons_succ, i64_w, i32_w, hji58]; rfl)
                   refine Sh.pA 31 74 (Sh.pre 47 32) (any_of HT_.out (by kernel_rfl)) ?_ (ha := by simp only [Act.put, List.setIfInBounds_toArray, List.set_cons_zero, List.set_cons_succ, i64_w, i32_w, hji58]; rfl)
                   refine Sh.pA 32 75 (Sh.pre 47 33) (any_of HT_.out (by kernel_rfl)) ?_ (ha := by simp only [Act.put, List.setIfInBounds_toArray, List.set_cons_zero, List.set_cons_succ, i64_w, i32_w, hji58]; rfl)
                   refine Sh.pA 33 76 (Sh.pre 47 34) (any_of HT_.out (by kernel_rfl)) ?_ (ha := by simp only [Act.put, List.setIfInBounds_toArray, List.set_cons_zero, List.set_cons_succ, i64_w, i32_w, hji58]; rfl)
                   refine Sh.pA 34 77 (Sh.pre 47 35) (any_of HT_.out (by kernel_rfl)) ?_ (ha := by simp only [Act.put, List.setIfInBounds_toArray, List.set_cons_zero, List.set_cons_succ, i64_w, i32_w, hji58]; rfl)
                   refine Sh.pA 35 78 (Sh.pre 47 36) (any_of HT_.out (by kernel_rfl)) ?_ (ha := by simp only [Act.put, List.setIfInBounds_toArray, List.set_cons_zero, List.set_cons_succ, i64_w, i32_w, hji58]; rfl)
                   refine Sh.pA 36 79 (Sh.pre 47 37) (any_of HT_.out (by kernel_rfl)) ?_ (ha := by simp only [Act.put, List.setIfInBounds_toArray, List.set_cons_zero, List.set_cons_succ, i64_w, i32_w, hji58]; rfl)
                   refine Sh.pA 38 81 #[true, true, true, true, true, true, true, true, true, true, true, true, true, true, true, true, true, true, true, true, true, true, true, true, true, true, true, true, true, true, true, true, true, true, true, true, true, false, true, false, false, false, false, false, false, false, false] (any_of HT_.out (by kernel_rfl)) ?_ (ha := by simp only [Act.put, List.setIfInBounds_toArray, List.set_cons_zero, List.set_cons_succ, i64_w, i32_w, hji58]; rfl)
                   refine Sh.pA 39 82 #[true, true, true, true, true, true, true, true, true, true, true, true, true, true, true, true, true, true, true, true, true, true, true, true, true, true, true, true, true, true, true, true, true, true, true, true, true, false, true, true, false, false, false, false, false, false, false] (any_of HT_.out (by kernel_rfl)) ?_ (ha := by simp only [Act.put, List.setIfInBounds_toArray, List.set_cons_zero, List.set_cons_succ, i64_w, i32_w, hji58]; rfl)
                   refine Sh.tA 37 80 (Sh.pre 47 40) (take_ofW HT_.out HW_.out (by kernel_rfl)) hHeld ?_ (hy := by rintro w' ⟨s0, s1, s2, s3, s4, s5, s6, s7, s8, s9⟩; go_simp; with_reducible rfl) (ha := by simp only [Act.put, List.setIfInBounds_toArray, List.set_cons_zero, List.set_cons_succ, i64_w, i32_w, hji58]; rfl)
                   refine Sh.pA 40 83 (Sh.pre 47 41) (any_of HT_.out (by kernel_rfl)) ?_ (ha := by simp only [Act.put, List.setIfInBounds_toArray, List.set_cons_zero, List.set_cons_succ, i64_w, i32_w, hji58]; rfl)
                   refine Sh.tA 41 84 (Sh.pre 47 42) (take_ofW HT_.out HW_.out (by kernel_rfl)) hHeld ?_ (hy := by rintro w' ⟨s0, s1, s2, s3, s4, s5, s6, s7, s8, s9⟩; go_simp; with_reducible rfl) (ha := by simp only [Act.put, List.setIfInBounds_toArray, List.set_cons_zero, List.set_cons_succ, i64_w, i32_w, hji58]; rfl)
                   refine Sh.tA 42 85 (Sh.pre 47 43) (take_ofW HT_.out HW_.out (by kernel_rfl)) hHeld ?_ (hy := by rintro w' ⟨s0, s1, s2, s3, s4, s5, s6, s7, s8, s9⟩; go_simp; with_reducible rfl) (ha := by simp only [Act.put, List.setIfInBounds_toArray, List.set_cons_zero, List.set_cons_succ, i64_w, i32_w, hji58]; rfl)
                   refine one_ (i := 43) (N := some 86) #[true, true, true, true, true, true, true, true, true, true, true, true, true, true, true, true, true, true, true, true, true, true, true, true, true, true, true, true, true, true, true, true, true, true, true, true, true, true, true, true, true, true, true, true, false, false, false] rfl rfl (one_of HT_.out (by kernel_rfl)) (by decide) (fun K hK => ?_)
                   refine goes_ Try.func39 (by kernel_rfl) rfl #[.agg #[.int .i64 ((rd_T51 l0_2 (ji58)).f0), .int .i64 ((rd_T51 l0_2 (ji58)).f1), .int .i64 ((rd_T51 l0_2 (ji58)).f2)], .agg #[.int .i64 ((rd_T51 l0_2 x38_2).f0), .int .i64 ((rd_T51 l0_2 x38_2).f1), .int .i64 ((rd_T51 l0_2 x38_2).f2)]] (by rfl) rfl rfl (by (try simp only [List.map_toArray, List.map_cons, List.map_nil]); first | done | (simp only [hji58]; rfl) | rfl | (simp only [List.length_drop, List.length_take]; rfl)) ?_
                   with_reducible refine (impl_compareEdges.calls k2 ((rd_T51 l0_2 (ji58)).f0) ((rd_T51 l0_2 (ji58)).f1) ((rd_T51 l0_2 (ji58)).f2) ((rd_T51 l0_2 x38_2).f0) ((rd_T51 l0_2 x38_2).f1) ((rd_T51 l0_2 x38_2).f2) t215 _ A61.out).mono ?_
                   rintro e w74 ⟨rfl, hb⟩
                   refine ⟨_, rfl, ?_⟩
                   have n0_ := am_ (Sh.bb BK209.out hb)
                   have n1_ := am_ (Sh.bb BK213.out hb)
                   have n2_ := am_ (below_step Sh.bw hb)
                   clear BK209
                   clear BK213
                   clear HB
                   have BK209 := n0_
                   have BK213 := n1_
                   have HB := n2_
                   clear n0_ n1_ n2_
                   (try clear hb)
                   (try clear hb2)
                   (try clear hk)
                   (try clear hi)
                   refine hK.out _ _ ⟨(blk_cell BK213.out 0).trans rfl, (blk_cell BK213.out 1).trans rfl, (blk_cell BK213.out 2).trans rfl, (blk_cell BK209.out 0).trans rfl, (blk_cell BK209.out 1).trans rfl, (blk_cell BK209.out 2).trans rfl, (blk_cell BK209.out 3).trans rfl, ((HB.out.cell (World.block_lt_of_cell? w _ hw214_0)).trans hw214_0), ((HB.out.cell (World.block_lt_of_cell? w _ hw214_1)).trans hw214_1), ((HB.out.cell (World.block_lt_of_cell? w _ hw214_2)).trans hw214_2)⟩ (fun hHeld => ?_)
                   clear hK K
                   refine norm_ (a' := ?_) ?_ ?_
                   rotate_left
                   ·show Act.put _ (some 86) _ = _
                    simp only [Act.put, List.setIfInBounds_toArray, List.set_cons_zero, List.set_cons_succ, i64_w, i32_w, hji58]
                    rfl
                   refine Sh.pA 44 87 (Sh.pre 47 45) (any_of HT_.out (by kernel_rfl)) ?_ (ha := by simp only [Act.put, List.setIfInBounds_toArray, List.set_cons_zero, List.set_cons_succ, i64_w, i32_w, hji58]; rfl)
                   refine Sh.pA 45 88 (Sh.pre 47 46) (any_of HT_.out (by kernel_rfl)) ?_ (ha := by simp only [Act.put, List.setIfInBounds_toArray, List.set_cons_zero, List.set_cons_succ, i64_w, i32_w, hji58]; rfl)
                   refine Sh.pA 46 89 (Sh.pre 47 47) (any_of HT_.out (by kernel_rfl)) ?_ (ha := by simp only [Act.put, List.setIfInBounds_toArray, List.set_cons_zero, List.set_cons_succ, i64_w, i32_w, hji58]; rfl)
                   refine done_ (done_of HT_.out (by kernel_rfl)) ?_
                   try go_wp2
                   go_roundg k2
                   case measure => have := HJ1.out; have := HK2.out; omega
                   case rel => exact ⟨(wrap64 (x38_2 + 1)), (by first | rfl | (simp; done) | (simp [*]; done)), H', ⟨by have := HJ1.out; have := HK2.out; omega⟩, ⟨by (with_reducible repeat (first | refine blk_drewN ?_ _ | refine blk_drew ?_ | refine blk_alloc ?_ _)); exact BK209.out⟩, ⟨by repeat (first | (with_reducible first | exact HB.out | apply below_alloc | apply pw_below_drewN | apply below_drew1 | refine below_set ?_ GE209.out | refine below_set ?_ GE213.out) | exact HB.out)⟩⟩
                 ·rw [if_neg c60] at H
                  exact absurd H (by simp)
                ·rw [if_neg c59] at H
                 exact absurd H (by simp)
               ·rw [if_neg c57] at H
                have c57b0 : decide (0 < x38_2) = false := decide_eq_false c57
                clear c57
                have H' := am_ H
                clear H
                have p212 : 0 ≤ (x38_2 : Int) := of_decide_eq_true (by first | (with_reducible assumption) | assumption)
                have q212 : x38_2 < (l0_2.length : Int) := of_decide_eq_true (by first | (with_reducible assumption) | assumption)
                obtain ⟨ad212, e212, hx212_0, hx212_1, hx212_2⟩ := at_T51 HR0_2.out x38_2 p212 q212
                cases e212
                (try replace hx212_0 := (HB.out.cell (World.block_lt_of_cell? w _ hx212_0)).trans hx212_0)
                (try replace hx212_1 := (HB.out.cell (World.block_lt_of_cell? w _ hx212_1)).trans hx212_1)
                (try replace hx212_2 := (HB.out.cell (World.block_lt_of_cell? w _ hx212_2)).trans hx212_2)
                replace p212 := eq_true p212
                replace q212 := eq_true q212
                try go_wp2_with (first | ((with_reducible refine gate_dst (N := 4) rfl ?_); (try (refine gate_guard (by rfl) ?_; dsimp only)); refine Sh.bx (N := 4) (cs := #[.int .i64 0, .int .i64 0, .int .i64 0]) (t := 51) (h := ?_); intro gb213 hg w75 hbox hb; have n0_ := am_ (Sh.bb BK209.out hb); have n1_ := am_ (below_step Sh.bw hb); have n2_ := am_ (hbox); have n3_ := am_ (Sh.gw (w := w) hg); have n4_ := am_ (Sh.gw (w := w) hg); have n5_ := am_ (Sh.nl hg BK209.out); have n6_ := am_ (Sh.ng hg BK209.out); clear BK209; clear HB; have BK209 := n0_; have HB := n1_; have BK213 := n2_; have GW213 := n3_; have GE213 := n4_; have NB209_213 := n5_; have NB213_209 := n6_; clear n0_ n1_ n2_ n3_ n4_ n5_ n6_; clear hb hbox hg; have hnb76 := NB213_209.out; have hnc76 := NB209_213.out; have hcz77_0 := Sh.bc BK213.out 0; have hcz77_1 := Sh.bc BK213.out 1; have hcz77_2 := Sh.bc BK213.out 2; have hfz77_0 := blk_frozen BK213.out 0; have hfz77_1 := blk_frozen BK213.out 1; have hfz77_2 := blk_frozen BK213.out 2))
                have n0_ : Aside0 ((((w75.setCell ⟨gb213, 0, none⟩ (.int .i64 ((rd_T51 l0_2 x38_2).f0))).setCell ⟨gb213, 1, none⟩ (.int .i64 ((rd_T51 l0_2 x38_2).f1))).setCell ⟨gb213, 2, none⟩ (.int .i64 ((rd_T51 l0_2 x38_2).f2))).heap[gb209]? = some (.cells #[.int .i64 a0_0, .slice A0_1 l0_1.length c0_1, .slice (some ad212) l0_2.length c0_2, .slice A0_3 l0_3.length c0_3] 32 (0, 0))) := ⟨by (with_reducible repeat (first | refine blk_drewN ?_ _ | refine blk_drew ?_ | refine blk_alloc ?_ _)); refine blk_far ?_ NB209_213.out _; (with_reducible repeat (first | refine blk_drewN ?_ _ | refine blk_drew ?_ | refine blk_alloc ?_ _)); refine blk_far ?_ NB209_213.out _; (with_reducible repeat (first | refine blk_drewN ?_ _ | refine blk_drew ?_ | refine blk_alloc ?_ _)); refine blk_far ?_ NB209_213.out _; (with_reducible repeat (first | refine blk_drewN ?_ _ | refine blk_drew ?_ | refine blk_alloc ?_ _)); exact BK209.out⟩
                have n1_ : Aside0 ((((w75.setCell ⟨gb213, 0, none⟩ (.int .i64 ((rd_T51 l0_2 x38_2).f0))).setCell ⟨gb213, 1, none⟩ (.int .i64 ((rd_T51 l0_2 x38_2).f1))).setCell ⟨gb213, 2, none⟩ (.int .i64 ((rd_T51 l0_2 x38_2).f2))).heap[gb213]? = some (.cells #[.int .i64 ((rd_T51 l0_2 x38_2).f0), .int .i64 ((rd_T51 l0_2 x38_2).f1), .int .i64 ((rd_T51 l0_2 x38_2).f2)] 51 (0, 0))) := ⟨by (with_reducible repeat (first | refine blk_drewN ?_ _ | refine blk_drew ?_ | refine blk_alloc ?_ _)); refine blk_put (cs := #[.int .i64 ((rd_T51 l0_2 x38_2).f0), .int .i64 ((rd_T51 l0_2 x38_2).f1), .int .i64 0]) ?_ 2 _ rfl; (with_reducible repeat (first | refine blk_drewN ?_ _ | refine blk_drew ?_ | refine blk_alloc ?_ _)); refine blk_put (cs := #[.int .i64 ((rd_T51 l0_2 x38_2).f0), .int .i64 0, .int .i64 0]) ?_ 1 _ rfl; (with_reducible repeat (first | refine blk_drewN ?_ _ | refine blk_drew ?_ | refine blk_alloc ?_ _)); refine blk_put (cs := #[.int .i64 0, .int .i64 0, .int .i64 0]) ?_ 0 _ rfl; (with_reducible repeat (first | refine blk_drewN ?_ _ | refine blk_drew ?_ | refine blk_alloc ?_ _)); exact BK213.out⟩
                have n2_ : Aside0 (Below w.heap.size w (((w75.setCell ⟨gb213, 0, none⟩ (.int .i64 ((rd_T51 l0_2 x38_2).f0))).setCell ⟨gb213, 1, none⟩ (.int .i64 ((rd_T51 l0_2 x38_2).f1))).setCell ⟨gb213, 2, none⟩ (.int .i64 ((rd_T51 l0_2 x38_2).f2)))) := ⟨by repeat (first | (with_reducible first | exact HB.out | apply below_alloc | apply pw_below_drewN | apply below_drew1 | refine below_set ?_ GE209.out | refine below_set ?_ GE213.out) | exact HB.out)⟩
                (try clear BK209)
                (try clear BK213)
                (try clear HB)
                generalize (((w75.setCell ⟨gb213, 0, none⟩ (.int .i64 ((rd_T51 l0_2 x38_2).f0))).setCell ⟨gb213, 1, none⟩ (.int .i64 ((rd_T51 l0_2 x38_2).f1))).setCell ⟨gb213, 2, none⟩ (.int .i64 ((rd_T51 l0_2 x38_2).f2))) = w78 at n0_ n1_ n2_ ⊢
                have BK209 := n0_
                have BK213 := n1_
                have HB := n2_
                clear n0_ n1_ n2_
                have n0_ := am_ (blk_drew BK209.out)
                have n1_ := am_ (blk_drew BK213.out)
                have n2_ := am_ (below_drew1 HB.out)
                clear BK209
                clear BK213
                clear HB
                have BK209 := n0_
                have BK213 := n1_
                have HB := n2_
                clear n0_ n1_ n2_
                refine start_ (n := 47) (S := fun w' => w'.cell? ⟨gb213, 0, none⟩ = some (.int .i64 ((rd_T51 l0_2 x38_2).f0)) ∧ w'.cell? ⟨gb213, 1, none⟩ = some (.int .i64 ((rd_T51 l0_2 x38_2).f1)) ∧ w'.cell? ⟨gb213, 2, none⟩ = some (.int .i64 ((rd_T51 l0_2 x38_2).f2)) ∧ w'.cell? ⟨gb209, 0, none⟩ = some (.int .i64 a0_0) ∧ w'.cell? ⟨gb209, 1, none⟩ = some (.slice A0_1 l0_1.length c0_1) ∧ w'.cell? ⟨gb209, 2, none⟩ = some (.slice (some ad212) l0_2.length c0_2) ∧ w'.cell? ⟨gb209, 3, none⟩ = some (.slice A0_3 l0_3.length c0_3)) (ds := []) #[false, false, false, false, false, false, false, false, false, false, false, false, false, false, false, false, false, false, false, false, false, false, false, false, false, false, false, false, false, false, false, false, false, false, false, false, false, false, false, false, false, false, false, false, false, false, false] (by kernel_rfl) rfl rfl ⟨(blk_cell BK213.out 0).trans rfl, (blk_cell BK213.out 1).trans rfl, (blk_cell BK213.out 2).trans rfl, (blk_cell BK209.out 0).trans rfl, (blk_cell BK209.out 1).trans rfl, (blk_cell BK209.out 2).trans rfl, (blk_cell BK209.out 3).trans rfl⟩ (fun hHeld => ?_); refine with_tabW impl_GoodAuto.tab6 impl_GoodAuto.bits6 (fun HT_ HW_ => ?_)
                generalize w78.drew = w79 at BK209 BK213 HB hHeld ⊢
                refine Sh.pA 0 43 (Sh.pre 47 1) (any_of HT_.out (by kernel_rfl)) ?_
                refine Sh.tA 1 44 (Sh.pre 47 2) (take_ofW HT_.out HW_.out (by kernel_rfl)) hHeld ?_ (hy := by rintro w' ⟨s0, s1, s2, s3, s4, s5, s6⟩; go_simp; with_reducible rfl)
                refine Sh.pA 2 45 (Sh.pre 47 3) (any_of HT_.out (by kernel_rfl)) ?_
                refine Sh.pA 3 46 (Sh.pre 47 4) (any_of HT_.out (by kernel_rfl)) ?_
                refine Sh.pA 4 47 (Sh.pre 47 5) (any_of HT_.out (by kernel_rfl)) ?_
                refine Sh.pA 6 49 #[true, true, true, true, true, false, true, false, false, false, false, false, false, false, false, false, false, false, false, false, false, false, false, false, false, false, false, false, false, false, false, false, false, false, false, false, false, false, false, false, false, false, false, false, false, false, false] (any_of HT_.out (by kernel_rfl)) ?_
                refine Sh.tA 5 48 (Sh.pre 47 7) (take_ofW HT_.out HW_.out (by kernel_rfl)) hHeld ?_ (hy := by rintro w' ⟨s0, s1, s2, s3, s4, s5, s6⟩; go_simp; with_reducible rfl)
                refine Sh.tA 7 50 (Sh.pre 47 8) (take_ofW HT_.out HW_.out (by kernel_rfl)) hHeld ?_ (hy := by rintro w' ⟨s0, s1, s2, s3, s4, s5, s6⟩; go_simp; with_reducible rfl)
                refine Sh.pA 8 51 (Sh.pre 47 9) (any_of HT_.out (by kernel_rfl)) ?_
                refine Sh.pA 9 52 (Sh.pre 47 10) (any_of HT_.out (by kernel_rfl)) ?_
                refine Sh.pA 10 53 (Sh.pre 47 11) (any_of HT_.out (by kernel_rfl)) ?_
                refine Sh.pA 11 54 (Sh.pre 47 12) (any_of HT_.out (by kernel_rfl)) ?_
                refine Sh.tA 12 55 (Sh.pre 47 13) (take_ofW HT_.out HW_.out (by kernel_rfl)) hHeld ?_ (hy := by rintro w' ⟨s0, s1, s2, s3, s4, s5, s6⟩; go_simp; with_reducible rfl)
                refine Sh.pA 13 56 (Sh.pre 47 14) (any_of HT_.out (by kernel_rfl)) ?_
                refine Sh.pA 14 57 (Sh.pre 47 15) (any_of HT_.out (by kernel_rfl)) ?_
                refine Sh.pA 15 58 (Sh.pre 47 16) (any_of HT_.out (by kernel_rfl)) ?_
                refine Sh.pA 16 59 (Sh.pre 47 17) (any_of HT_.out (by kernel_rfl)) ?_
                refine Sh.pA 18 61 #[true, true, true, true, true, true, true, true, true, true, true, true, true, true, true, true, true, false, true, false, false, false, false, false, false, false, false, false, false, false, false, false, false, false, false, false, false, false, false, false, false, false, false, false, false, false, false] (any_of HT_.out (by kernel_rfl)) ?_
                refine Sh.tA 17 60 (Sh.pre 47 19) (take_ofW HT_.out HW_.out (by kernel_rfl)) hHeld ?_ (hy := by rintro w' ⟨s0, s1, s2, s3, s4, s5, s6⟩; go_simp; with_reducible rfl)
                refine Sh.tA 19 62 (Sh.pre 47 20) (take_ofW HT_.out HW_.out (by kernel_rfl)) hHeld ?_ (hy := by rintro w' ⟨s0, s1, s2, s3, s4, s5, s6⟩; go_simp; with_reducible rfl)
                refine Sh.pA 20 63 (Sh.pre 47 21) (any_of HT_.out (by kernel_rfl)) ?_
                refine Sh.pA 21 64 (Sh.pre 47 22) (any_of HT_.out (by kernel_rfl)) ?_
                refine Sh.pA 22 65 (Sh.pre 47 23) (any_of HT_.out (by kernel_rfl)) ?_
                refine Sh.pA 23 66 (Sh.pre 47 24) (any_of HT_.out (by kernel_rfl)) ?_
                refine Sh.tA 24 67 (Sh.pre 47 25) (take_ofW HT_.out HW_.out (by kernel_rfl)) hHeld ?_ (hy := by rintro w' ⟨s0, s1, s2, s3, s4, s5, s6⟩; go_simp; with_reducible rfl)
                refine Sh.pA 25 68 (Sh.pre 47 26) (any_of HT_.out (by kernel_rfl)) ?_
                refine Sh.pA 26 69 (Sh.pre 47 27) (any_of HT_.out (by kernel_rfl)) ?_
                refine Sh.pA 27 70 (Sh.pre 47 28) (any_of HT_.out (by kernel_rfl)) ?_
                refine Sh.pA 28 71 (Sh.pre 47 29) (any_of HT_.out (by kernel_rfl)) ?_
                refine Sh.tA 29 72 (Sh.pre 47 30) (take_ofW HT_.out HW_.out (by kernel_rfl)) hHeld ?_ (hy := by rintro w' ⟨s0, s1, s2, s3, s4, s5, s6⟩; go_simp; with_reducible rfl)
                refine Sh.pA 30 73 (Sh.pre 47 31) (any_of HT_.out (by kernel_rfl)) ?_
                refine Sh.pA 31 74 (Sh.pre 47 32) (any_of HT_.out (by kernel_rfl)) ?_
                refine Sh.pA 32 75 (Sh.pre 47 33) (any_of HT_.out (by kernel_rfl)) ?_
                refine Sh.pA 33 76 (Sh.pre 47 34) (any_of HT_.out (by kernel_rfl)) ?_
                refine Sh.pA 34 77 (Sh.pre 47 35) (any_of HT_.out (by kernel_rfl)) ?_
                refine Sh.pA 35 78 (Sh.pre 47 36) (any_of HT_.out (by kernel_rfl)) ?_
                refine Sh.pU 36 79 (Sh.pre 47 37) (any_of HT_.out (by kernel_rfl)) ?_
                refine Sh.pU 37 80 (Sh.pre 47 38) (any_of HT_.out (by kernel_rfl)) ?_
                refine Sh.pU 38 81 (Sh.pre 47 39) (any_of HT_.out (by kernel_rfl)) ?_
                refine Sh.pU 39 82 (Sh.pre 47 40) (any_of HT_.out (by kernel_rfl)) ?_
                refine Sh.pU 40 83 (Sh.pre 47 41) (any_of HT_.out (by kernel_rfl)) ?_
                refine Sh.pU 41 84 (Sh.pre 47 42) (any_of HT_.out (by kernel_rfl)) ?_
                refine Sh.pU 42 85 (Sh.pre 47 43) (any_of HT_.out (by kernel_rfl)) ?_
                refine Sh.pU 43 86 (Sh.pre 47 44) (any_of HT_.out (by kernel_rfl)) ?_
                refine Sh.pU 44 87 (Sh.pre 47 45) (any_of HT_.out (by kernel_rfl)) ?_
                refine Sh.pA 45 88 (Sh.pre 47 46) (any_of HT_.out (by kernel_rfl)) ?_
                refine Sh.pA 46 89 (Sh.pre 47 47) (any_of HT_.out (by kernel_rfl)) ?_
                refine done_ (done_of HT_.out (by kernel_rfl)) ?_
                try go_wp2
                go_roundg k2
                case measure => have := HJ1.out; have := HK2.out; omega
                case rel => exact ⟨(wrap64 (x38_2 + 1)), (by first | rfl | (simp; done) | (simp [*]; done)), H', ⟨by have := HJ1.out; have := HK2.out; omega⟩, ⟨by (with_reducible repeat (first | refine blk_drewN ?_ _ | refine blk_drew ?_ | refine blk_alloc ?_ _)); exact BK209.out⟩, ⟨by repeat (first | (with_reducible first | exact HB.out | apply below_alloc | apply pw_below_drewN | apply below_drew1 | refine below_set ?_ GE209.out | refine below_set ?_ GE213.out) | exact HB.out)⟩⟩
        ·rw [if_neg c20] at H
         exact absurd H (by simp)
       ·rw [if_neg c19] at H
        exact absurd H (by simp)
      ·rw [if_neg c18] at H
       have c18b0 : decide (x38_2 < (l0_2.length : Int)) = false := decide_eq_false c18
       clear c18
       obtain rfl := Option.some.inj H
       go_wp2
       go_ret
       exact ⟨Sh.eR, Sh.bw⟩

end Go.Proofs.Ytijgdncmancolaa.P
namespace Go.Proofs.Ytijgdncmancolaa.P
open Go.RowKit Go.Proofs.YtijgdncmancolaaW.PrintWords Go.Proofs.YtijgdncmancolaaW.PrintLast Go.Proofs.YtijgdncmancolaaW.PrintMore Go.Proofs.Ytijgdncmancolaa.Hof
attribute [local go_sem] max2_int min2_int max_two min_two max_three min_three max_four min_four   -- for this text's walks alone
set_option linter.unusedVariables false
set_option linter.unusedSimpArgs false

/-! ### impl_isOneLetter: function 25 -/
def impl_isOneLetter.f (a0 : Int) : Option (Bool) := if a0 ≥ 0 then (some (decide (a0 < 8))) else (some false)
set_option maxHeartbeats 8000000 in
set_option maxRecDepth 100000 in
theorem impl_isOneLetter.calls (a0 : Int) (r : Bool) (w : World) (h : impl_isOneLetter.f a0 = some r) :
  Calls Try.prog 25 #[.int .i64 a0] w fun e w' => e = .returned (.bool r) ∧ Drawn0 w w' := by
 have H : (if a0 ≥ 0 then (some (decide (a0 < 8))) else (some false)) = some r := h
 clear h
 by_cases c2 : a0 ≥ 0
 ·rw [if_pos c2] at H
  have c2b0 : decide (0 ≤ a0) = true := decide_eq_true c2
  clear c2
  obtain rfl := Option.some.inj H
  go_enter Try.func25, Try.ntmps25
  go_wp2
  go_ret
  exact ⟨by first | rfl | (simp; done) | (simp [*]; done), by repeat (first | exact Drawn0.refl _ | apply Drawn0.step)⟩
 ·rw [if_neg c2] at H
  have c2b0 : decide (0 ≤ a0) = false := decide_eq_false c2
  clear c2
  obtain rfl := Option.some.inj H
  go_enter Try.func25, Try.ntmps25
  go_wp2
  go_ret
  exact ⟨by first | rfl | (simp; done) | (simp [*]; done), by repeat (first | exact Drawn0.refl _ | apply Drawn0.step)⟩

end Go.Proofs.Ytijgdncmancolaa.P
namespace Go.Proofs.Ytijgdncmancolaa.P
open Go.RowKit Go.Proofs.YtijgdncmancolaaW.PrintWords Go.Proofs.YtijgdncmancolaaW.PrintLast Go.Proofs.YtijgdncmancolaaW.PrintMore Go.Proofs.Ytijgdncmancolaa.Hof
attribute [local go_sem] max2_int min2_int max_two min_two max_three min_three max_four min_four   -- for this text's walks alone
set_option linter.unusedVariables false
set_option linter.unusedSimpArgs false

/-! ### slices_Index_int_int: function 40 -/
def slices_Index_int_int.l0 : Nat → List Int → Int → Int → Int → Option (Int)
 | 0, _, _, _, _ => none
 | k + 1, x0, x1, x7, x8 => if x8 < x7 then (if 0 ≤ x8 then (if x8 < (x0.length : Int) then (if x1 = (rd x0 x8) then (some x8) else (slices_Index_int_int.l0 k x0 x1 x7 (wrap64 (x8 + 1)))) else (none)) else (none)) else (some (-1))
def slices_Index_int_int.f (k : Nat) (l0 : List Int) (a1 : Int) : Option (Int) := slices_Index_int_int.l0 k l0 a1 (l0.length : Int) 0
theorem slices_Index_int_int.mono_l : ∀ k, (∀ y0 y1 y2 y3, LeO (slices_Index_int_int.l0 k y0 y1 y2 y3) (slices_Index_int_int.l0 (k + 1) y0 y1 y2 y3))
 | 0 => fun _ _ _ _ r h => by simp [slices_Index_int_int.l0] at h
 | k + 1 => by
  have ih0 := slices_Index_int_int.mono_l k
  ·intro y0 y1 y2 y3
   unfold slices_Index_int_int.l0
   repeat' first
   | (with_reducible exact ih0 _ _ _ _)
   | (with_reducible exact LeO.refl _)
   | (with_reducible exact LeO.none _)
   | (with_reducible refine LeO.ite ?_ ?_)
   | (with_reducible refine LeO.bind ?_ (fun _ => ?_))
   | exact ih0 _ _ _ _
   | exact LeO.none _
   | refine LeO.ite ?_ ?_
   | refine LeO.bind ?_ (fun _ => ?_)
theorem slices_Index_int_int.mono : ∀ a0 a1 k, LeO (slices_Index_int_int.f k a0 a1) (slices_Index_int_int.f (k + 1) a0 a1) := by
 intro a0 a1 k
 have ih0 := slices_Index_int_int.mono_l k
 unfold slices_Index_int_int.f
 repeat' first
   | (with_reducible exact ih0 _ _ _ _)
   | (with_reducible exact LeO.refl _)
   | (with_reducible exact LeO.none _)
   | (with_reducible refine LeO.ite ?_ ?_)
   | (with_reducible refine LeO.bind ?_ (fun _ => ?_))
   | exact ih0 _ _ _ _
   | exact LeO.none _
   | refine LeO.ite ?_ ?_
   | refine LeO.bind ?_ (fun _ => ?_)
set_option maxHeartbeats 8000000 in
set_option maxRecDepth 100000 in
theorem slices_Index_int_int.calls (k : Nat) (A0 : Option Addr) (c0 : Nat) (l0 : List Int) (a1 : Int) (r : Int) (w : World) (hr0 : Kd.C (Kd.int .i64) w A0 l0.length l0) (hc0 : l0.length ≤ c0) (h : slices_Index_int_int.f k l0 a1 = some r) :
  Calls Try.prog 40 #[.slice A0 l0.length c0, .int .i64 a1] w fun e w' => e = .returned (.int .i64 r) ∧ Drawn0 w w' := by
 have HR0 := am_ hr0
 have HC0 := am_ hc0
 clear hr0 hc0
 have H : (slices_Index_int_int.l0 k l0 a1 (l0.length : Int) 0) = some r := h
 clear h
 have H' := am_ H
 clear H
 go_enter Try.func40, Try.ntmps40
 go_wp2
 go_loopg [8] k (fun kq v8 w' => ∃ (x8_1 : Int), v8 = .int .i64 x8_1 ∧ Aside0 (slices_Index_int_int.l0 kq l0 a1 (l0.length : Int) x8_1 = some r) ∧ Aside0 (kq ≤ k) ∧ Drawn0 w w')
 case atStart => exact ⟨(0), (by first | rfl | (simp; done) | (simp [*]; done)), H', ⟨Nat.le_refl _⟩, by repeat (first | exact Drawn0.refl _ | apply Drawn0.step)⟩
 case round =>
  clear H'
  try clear p2
  obtain ⟨x8_1, rfl, HA, HK1, ⟨m1, rfl⟩⟩ := hrel
  cases gk with
  | zero => exact absurd HA.out (by simp [slices_Index_int_int.l0])
  | succ k1 =>
   have H := HA.out
   clear HA
   simp only [slices_Index_int_int.l0] at H
   by_cases c3 : x8_1 < (l0.length : Int)
   ·rw [if_pos c3] at H
    have c3b0 : decide (x8_1 < (l0.length : Int)) = true := decide_eq_true c3
    clear c3
    by_cases c4 : 0 ≤ x8_1
    ·rw [if_pos c4] at H
     have c4b0 : decide (0 ≤ x8_1) = true := decide_eq_true c4
     clear c4
     by_cases c5 : x8_1 < (l0.length : Int)
     ·rw [if_pos c5] at H
      have c5b0 : decide (x8_1 < (l0.length : Int)) = true := decide_eq_true c5
      clear c5
      by_cases c6 : a1 = (rd l0 x8_1)
      ·rw [if_pos c6] at H
       have c6b0 : (a1 == (rd l0 x8_1)) = true := beq_iff_eq.mpr c6
       have c6b1 : (a1 != (rd l0 x8_1)) = false := bne_eq_false_iff_eq.mpr c6
       clear c6
       obtain rfl := Option.some.inj H
       have p216 : 0 ≤ (x8_1 : Int) := of_decide_eq_true (by first | (with_reducible assumption) | assumption)
       have q216 : x8_1 < (l0.length : Int) := of_decide_eq_true (by first | (with_reducible assumption) | assumption)
       obtain ⟨ad216, e216, hx216_0⟩ := Kd.at_int HR0.out x8_1 p216 q216
       cases e216
       replace p216 := eq_true p216
       replace q216 := eq_true q216
       go_wp2
       go_ret
       exact ⟨by first | rfl | (simp; done) | (simp [*]; done), by repeat (first | exact Drawn0.refl _ | apply Drawn0.step)⟩
      ·rw [if_neg c6] at H
       have c6b0 : (a1 == (rd l0 x8_1)) = false := beq_eq_false_iff_ne.mpr c6
       have c6b1 : (a1 != (rd l0 x8_1)) = true := bne_iff_ne.mpr c6
       have H' := am_ H
       clear H
       have p216 : 0 ≤ (x8_1 : Int) := of_decide_eq_true (by first | (with_reducible assumption) | assumption)
       have q216 : x8_1 < (l0.length : Int) := of_decide_eq_true (by first | (with_reducible assumption) | assumption)
       obtain ⟨ad216, e216, hx216_0⟩ := Kd.at_int HR0.out x8_1 p216 q216
       cases e216
       replace p216 := eq_true p216
       replace q216 := eq_true q216
       go_wp2
       go_roundg k1
       case measure => have := HK1.out; omega
       case rel => exact ⟨(wrap64 (x8_1 + 1)), (by first | rfl | (simp; done) | (simp [*]; done)), H', ⟨by have := HK1.out; omega⟩, by repeat (first | exact Drawn0.refl _ | apply Drawn0.step)⟩
     ·rw [if_neg c5] at H
      exact absurd H (by simp)
    ·rw [if_neg c4] at H
     exact absurd H (by simp)
   ·rw [if_neg c3] at H
    have c3b0 : decide (x8_1 < (l0.length : Int)) = false := decide_eq_false c3
    clear c3
    obtain rfl := Option.some.inj H
    go_wp2
    go_ret
    exact ⟨by first | rfl | (simp; done) | (simp [*]; done), by repeat (first | exact Drawn0.refl _ | apply Drawn0.step)⟩

end Go.Proofs.Ytijgdncmancolaa.P
namespace Go.Proofs.Ytijgdncmancolaa.P
open Go.RowKit Go.Proofs.YtijgdncmancolaaW.PrintWords Go.Proofs.YtijgdncmancolaaW.PrintLast Go.Proofs.YtijgdncmancolaaW.PrintMore Go.Proofs.Ytijgdncmancolaa.Hof
attribute [local go_sem] max2_int min2_int max_two min_two max_three min_three max_four min_four   -- for this text's walks alone
set_option linter.unusedVariables false
set_option linter.unusedSimpArgs false

/-! ### slices_Contains_int_int: function 26 -/
def slices_Contains_int_int.f (k : Nat) (l0 : List Int) (a1 : Int) : Option (Bool) := (slices_Index_int_int.f k l0 a1).bind fun t217 => (some (decide (t217 ≥ 0)))
theorem slices_Contains_int_int.mono : ∀ a0 a1 k, LeO (slices_Contains_int_int.f k a0 a1) (slices_Contains_int_int.f (k + 1) a0 a1) := by
 intro a0 a1 k
 unfold slices_Contains_int_int.f
 repeat' first
   | (with_reducible exact slices_Index_int_int.mono _ _ _)
   | (with_reducible exact LeO.refl _)
   | (with_reducible exact LeO.none _)
   | (with_reducible refine LeO.ite ?_ ?_)
   | (with_reducible refine LeO.bind ?_ (fun _ => ?_))
   | exact slices_Index_int_int.mono _ _ _
   | exact LeO.none _
   | refine LeO.ite ?_ ?_
   | refine LeO.bind ?_ (fun _ => ?_)
set_option maxHeartbeats 8000000 in
set_option maxRecDepth 100000 in
theorem slices_Contains_int_int.calls (k : Nat) (A0 : Option Addr) (c0 : Nat) (l0 : List Int) (a1 : Int) (r : Bool) (w : World) (hr0 : Kd.C (Kd.int .i64) w A0 l0.length l0) (hc0 : l0.length ≤ c0) (h : slices_Contains_int_int.f k l0 a1 = some r) :
  Calls Try.prog 26 #[.slice A0 l0.length c0, .int .i64 a1] w fun e w' => e = .returned (.bool r) ∧ Drawn0 w w' := by
 have HR0 := am_ hr0
 have HC0 := am_ hc0
 clear hr0 hc0
 have H : ((slices_Index_int_int.f k l0 a1).bind fun t217 => (some (decide (t217 ≥ 0)))) = some r := h
 clear h
 replace H := Option.bind_eq_some_iff.mp H
 obtain ⟨t217, A30, H⟩ := H
 replace H : (some (decide (t217 ≥ 0))) = some r := H
 have A3 := am_ A30
 clear A30
 obtain rfl := Option.some.inj H
 go_enter Try.func26, Try.ntmps26
 go_wp2_with (first | ((with_reducible refine gate_callee (f := 40) rfl ?_); refine Sh.gL (some 7) Try.func40 #[.slice A0 l0.length c0, .int .i64 a1] (h := ?_); (with_reducible refine (slices_Index_int_int.calls k _ _ l0 a1 t217 _ ?side1 ?side2 A3.out).mono ?_); (case side1 => repeat (first | exact HR0.out | (with_reducible first | refine Kd.C_alloc ?_ _ | refine Kd.C_drewN ?_ _ | refine Kd.C_drew ?_))); (case side2 => exact HC0.out); rintro e w' ⟨rfl, ⟨nd, rfl⟩⟩; refine ⟨_, rfl, ?_⟩))
 go_ret
 exact ⟨by first | rfl | (simp; done) | (simp [*]; done), by repeat (first | exact Drawn0.refl _ | apply Drawn0.step)⟩

end Go.Proofs.Ytijgdncmancolaa.P
namespace Go.Proofs.Ytijgdncmancolaa.P
open Go.RowKit Go.Proofs.YtijgdncmancolaaW.PrintWords Go.Proofs.YtijgdncmancolaaW.PrintLast Go.Proofs.YtijgdncmancolaaW.PrintMore Go.Proofs.Ytijgdncmancolaa.Hof
attribute [local go_sem] max2_int min2_int max_two min_two max_three min_three max_four min_four   -- for this text's walks alone
set_option linter.unusedVariables false
set_option linter.unusedSimpArgs false

/-! ### impl_marked: function 27 -/
def impl_marked.l0 : Nat → List Int → List Bool → Int → Int → Option (List Int)
 | 0, _, _, _, _ => none
 | k + 1, x3, x7, x8, x9 => if x9 < x8 then (if 0 ≤ x9 then (if x9 < (x7.length : Int) then (if rdOf false x7 x9 = true then (if x3.length < 17592186044416 then (impl_marked.l0 k (x3 ++ [x9]) x7 x8 (wrap64 (x9 + 1))) else (none)) else (impl_marked.l0 k x3 x7 x8 (wrap64 (x9 + 1)))) else (none)) else (none)) else (some x3)
def impl_marked.f (k : Nat) (l0 : List Bool) : Option (List Int) := impl_marked.l0 k (([] : List Int)) l0 (l0.length : Int) 0
theorem impl_marked.mono_l : ∀ k, (∀ y0 y1 y2 y3, LeO (impl_marked.l0 k y0 y1 y2 y3) (impl_marked.l0 (k + 1) y0 y1 y2 y3))
 | 0 => fun _ _ _ _ r h => by simp [impl_marked.l0] at h
 | k + 1 => by
  have ih0 := impl_marked.mono_l k
  ·intro y0 y1 y2 y3
   unfold impl_marked.l0
   repeat' first
   | (with_reducible exact ih0 _ _ _ _)
   | (with_reducible exact LeO.refl _)
   | (with_reducible exact LeO.none _)
   | (with_reducible refine LeO.ite ?_ ?_)
   | (with_reducible refine LeO.bind ?_ (fun _ => ?_))
   | exact ih0 _ _ _ _
   | exact LeO.none _
   | refine LeO.ite ?_ ?_
   | refine LeO.bind ?_ (fun _ => ?_)
theorem impl_marked.mono : ∀ a0 k, LeO (impl_marked.f k a0) (impl_marked.f (k + 1) a0) := by
 intro a0 k
 have ih0 := impl_marked.mono_l k
 unfold impl_marked.f
 repeat' first
   | (with_reducible exact ih0 _ _ _ _)
   | (with_reducible exact LeO.refl _)
   | (with_reducible exact LeO.none _)
   | (with_reducible refine LeO.ite ?_ ?_)
   | (with_reducible refine LeO.bind ?_ (fun _ => ?_))
   | exact ih0 _ _ _ _
   | exact LeO.none _
   | refine LeO.ite ?_ ?_
   | refine LeO.bind ?_ (fun _ => ?_)
set_option maxHeartbeats 8000000 in
set_option maxRecDepth 100000 in
theorem impl_marked.calls (k : Nat) (A0 : Option Addr) (c0 : Nat) (l0 : List Bool) (r : List Int) (w : World) (hr0 : Kd.C Kd.bool w A0 l0.length l0) (hc0 : l0.length ≤ c0) (h : impl_marked.f k l0 = some r) :
  Calls Try.prog 27 #[.slice A0 l0.length c0] w fun e w' => ∃ v0_ : Value, e = .returned (v0_) ∧ Kd.R (Kd.int .i64) 3 w' w.heap.size (fun _ => True) v0_ r ∧ Below w.heap.size w w' := by
 have HR0 := am_ hr0
 have HC0 := am_ hc0
 clear hr0 hc0
 have HB := am_ (Below.refl w.heap.size w)
 have H : (impl_marked.l0 k (([] : List Int)) l0 (l0.length : Int) 0) = some r := h
 clear h
 obtain ⟨y218, hy218⟩ : ∃ y_ : List Int, y_ = (([] : List Int)) := ⟨_, rfl⟩
 replace H : (impl_marked.l0 k y218 l0 (l0.length : Int) 0) = some r := by first | (rw [hy218]; with_reducible exact H) | (have H2_ := (Option.bind_some _ _).symm.trans H; rw [hy218]; with_reducible exact H2_) | (have H2_ := (Option.bind_some _ _).symm.trans H; with_reducible exact H2_) | with_reducible exact H | (rw [hy218]; exact H) | exact H
 have Ny218 := am_ hy218
 clear hy218
 have H' := am_ H
 clear H
 go_enter Try.func27, Try.ntmps27
 go_wp2_with (first | ((with_reducible refine gate_dst (N := 6) rfl ?_); refine Kd.R_lit (Kd.int .i64) _ 3 ?hg (N := 6) ?hd (xs := ([] : List Int)) (inner := []) (ok := fun _ => True) (okp := fun _ => True) ?hr ?hp (fun _ hk => hk) trivial (Below.refl _ _) (Nat.le_refl _) (by simp) ?_; (case hd => rfl); (case hg => rfl); (case hr => first | (go_simp; done) | (go_simp; rfl)); (case hp => exact (Reps.none _ _)); intro v219 w2 ho3 hb hg_ hnew_; clear hg_ hnew_; (first | rw [← Ny218.out] at ho3 | (simp only [Int.reduceToNat] at ho3; rw [← Ny218.out] at ho3)); have n0_ := am_ (Kd.R_lower ho3 (below_size Sh.bw)); have n1_ := am_ (below_step Sh.bw hb); clear HB; have HO220 := n0_; have HB := n1_; clear n0_ n1_; clear hb ho3))
 go_loopg [3, 9] k (fun kq v3 v9 w' => ∃ (x3_1 : List Int) (x9_1 : Int), v9 = .int .i64 x9_1 ∧ Aside0 (impl_marked.l0 kq x3_1 l0 (l0.length : Int) x9_1 = some r) ∧ Aside0 (kq ≤ k) ∧ Aside0 (Kd.R (Kd.int .i64) 3 w' w.heap.size (fun _ => True) v3 x3_1) ∧ Aside0 (Below w.heap.size w w'))
 case atStart => exact ⟨(y218), (0), (by first | rfl | (simp; done) | (simp [*]; done)), H', ⟨Nat.le_refl _⟩, ⟨by (with_reducible repeat (first | apply Kd.R_alloc | apply Kd.R_drewN | apply Kd.R_drew)); exact HO220.out⟩, ⟨by repeat (first | (with_reducible first | exact HB.out | apply below_alloc | apply pw_below_drewN | apply below_drew1) | exact HB.out)⟩⟩
 case round =>
  clear H'
  try clear c2
  try clear p2
  obtain ⟨x3_1, x9_1, rfl, HA, HK1, HO_3, HB⟩ := hrel
  cases gk with
  | zero => exact absurd HA.out (by simp [impl_marked.l0])
  | succ k1 =>
   have H := HA.out
   clear HA
   simp only [impl_marked.l0] at H
   by_cases c4 : x9_1 < (l0.length : Int)
   ·rw [if_pos c4] at H
    have c4b0 : decide (x9_1 < (l0.length : Int)) = true := decide_eq_true c4
    clear c4
    by_cases c5 : 0 ≤ x9_1
    ·rw [if_pos c5] at H
     have c5b0 : decide (0 ≤ x9_1) = true := decide_eq_true c5
     clear c5
     by_cases c6 : x9_1 < (l0.length : Int)
     ·rw [if_pos c6] at H
      have c6b0 : decide (x9_1 < (l0.length : Int)) = true := decide_eq_true c6
      clear c6
      obtain ⟨bq7, hbq7⟩ : ∃ b_ : Bool, b_ = (rdOf false l0 x9_1) := ⟨_, rfl⟩
      replace H : (if bq7 = true then (if x3_1.length < 17592186044416 then (impl_marked.l0 k1 (x3_1 ++ [x9_1]) l0 (l0.length : Int) (wrap64 (x9_1 + 1))) else (none)) else (impl_marked.l0 k1 x3_1 l0 (l0.length : Int) (wrap64 (x9_1 + 1)))) = some r := by rw [← hbq7] at H; exact H
      have Nbq7 := am_ hbq7
      clear hbq7
      by_cases c8 : bq7 = true
      ·subst c8
       have H1 : (if x3_1.length < 17592186044416 then (impl_marked.l0 k1 (x3_1 ++ [x9_1]) l0 (l0.length : Int) (wrap64 (x9_1 + 1))) else (none)) = some r := by rw [if_pos rfl] at H; exact H
       clear H
       have H := H1
       clear H1
       by_cases c9 : x3_1.length < 17592186044416
       ·rw [if_pos c9] at H
        have LMc9 := am_ c9
        clear c9
        obtain ⟨y222, hy222⟩ : ∃ y_ : List Int, y_ = (x3_1 ++ [x9_1]) := ⟨_, rfl⟩
        replace H : (impl_marked.l0 k1 y222 l0 (l0.length : Int) (wrap64 (x9_1 + 1))) = some r := by first | (rw [hy222]; with_reducible exact H) | (have H2_ := (Option.bind_some _ _).symm.trans H; rw [hy222]; with_reducible exact H2_) | (have H2_ := (Option.bind_some _ _).symm.trans H; with_reducible exact H2_) | with_reducible exact H | (rw [hy222]; exact H) | exact H
        have Ny222 := am_ hy222
        clear hy222
        have H' := am_ H
        clear H
        have p221 : 0 ≤ (x9_1 : Int) := of_decide_eq_true (by first | (with_reducible assumption) | assumption)
        have q221 : x9_1 < (l0.length : Int) := of_decide_eq_true (by first | (with_reducible assumption) | assumption)
        obtain ⟨ad221, e221, hx221_0⟩ := Kd.at_bool HR0.out x9_1 p221 q221
        (try rw [← Nbq7.out] at hx221_0)
        cases e221
        (try replace hx221_0 := (HB.out.cell (World.block_lt_of_cell? w _ hx221_0)).trans hx221_0)
        replace p221 := eq_true p221
        replace q221 := eq_true q221
        go_wp2_with (first | ((with_reducible refine gate_builtin (b := .append) (xs := #[.tmp 15, .tmp 17]) rfl ?_); at_builtin; refine Kd.R_append (Kd.int .i64) (w0 := w) w.heap.size rfl (.tmp 15) (.tmp 17) 22 3 (.int .i64 0) 8 rfl Try.underlying22 info3 rfl (by decide) (by omega) u3 x3_1 x9_1 [.int .i64 x9_1] (fun _ => True) (fun _ => False) rfl rfl ?aP (fun _ hk => hk.elim) ?aF ?aO ?aB ?aS ?aL ?_; (case aP => exact rfl); (case aB => exact Sh.bw); (case aF => exact (fun _ _ => trivial)); (case aO => exact (by (with_reducible repeat (first | apply Kd.R_alloc | apply Kd.R_drewN | apply Kd.R_drew)); exact HO_3.out)); (case aS => exact (below_size Sh.bw)); (case aL => have := LMc9.out; omega); intro v223 w10 ho hb hg hat; rw [← Ny222.out] at ho; have n0_ := am_ (hb); have n1_ := am_ (ho); clear HB; clear HO_3; have HB := n0_; have HO224 := n1_; clear n0_ n1_; clear ho hb hg hat))
        go_roundg k1
        case measure => have := HK1.out; omega
        case rel => exact ⟨(y222), (wrap64 (x9_1 + 1)), (by first | rfl | (simp; done) | (simp [*]; done)), H', ⟨by have := HK1.out; omega⟩, ⟨by (with_reducible repeat (first | apply Kd.R_alloc | apply Kd.R_drewN | apply Kd.R_drew)); exact HO224.out⟩, ⟨by repeat (first | (with_reducible first | exact HB.out | apply below_alloc | apply pw_below_drewN | apply below_drew1) | exact HB.out)⟩⟩
       ·rw [if_neg c9] at H
        exact absurd H (by simp)
      ·replace c8 := Bool.eq_false_iff.mpr c8
       subst c8
       have H1 : (impl_marked.l0 k1 x3_1 l0 (l0.length : Int) (wrap64 (x9_1 + 1))) = some r := by rw [if_neg (show ¬ (false = true) by decide)] at H; exact H
       clear H
       have H := H1
       clear H1
       have H' := am_ H
       clear H
       have p221 : 0 ≤ (x9_1 : Int) := of_decide_eq_true (by first | (with_reducible assumption) | assumption)
       have q221 : x9_1 < (l0.length : Int) := of_decide_eq_true (by first | (with_reducible assumption) | assumption)
       obtain ⟨ad221, e221, hx221_0⟩ := Kd.at_bool HR0.out x9_1 p221 q221
       (try rw [← Nbq7.out] at hx221_0)
       cases e221
       (try replace hx221_0 := (HB.out.cell (World.block_lt_of_cell? w _ hx221_0)).trans hx221_0)
       replace p221 := eq_true p221
       replace q221 := eq_true q221
       go_wp2
       go_roundg k1
       case measure => have := HK1.out; omega
       case rel => exact ⟨(x3_1), (wrap64 (x9_1 + 1)), (by first | rfl | (simp; done) | (simp [*]; done)), H', ⟨by have := HK1.out; omega⟩, ⟨by (with_reducible repeat (first | apply Kd.R_alloc | apply Kd.R_drewN | apply Kd.R_drew)); exact HO_3.out⟩, ⟨by repeat (first | (with_reducible first | exact HB.out | apply below_alloc | apply pw_below_drewN | apply below_drew1) | exact HB.out)⟩⟩
     ·rw [if_neg c6] at H
      exact absurd H (by simp)
    ·rw [if_neg c5] at H
     exact absurd H (by simp)
   ·rw [if_neg c4] at H
    have c4b0 : decide (x9_1 < (l0.length : Int)) = false := decide_eq_false c4
    clear c4
    obtain rfl := Option.some.inj H
    go_wp2
    go_ret
    exact ⟨_, Sh.eR, by (with_reducible repeat (first | apply Kd.R_alloc | apply Kd.R_drewN | apply Kd.R_drew)); exact HO_3.out, Sh.bw⟩

end Go.Proofs.Ytijgdncmancolaa.P
namespace Go.Proofs.Ytijgdncmancolaa.P
open Go.RowKit Go.Proofs.YtijgdncmancolaaW.PrintWords Go.Proofs.YtijgdncmancolaaW.PrintLast Go.Proofs.YtijgdncmancolaaW.PrintMore Go.Proofs.Ytijgdncmancolaa.Hof
attribute [local go_sem] max2_int min2_int max_two min_two max_three min_three max_four min_four   -- for this text's walks alone
set_option linter.unusedVariables false
set_option linter.unusedSimpArgs false

/-! ### impl_StepAuto: function 8 -/
mutual
def impl_StepAuto.j0 : Nat → List Int → Int → Bool → Int → List Int → List (S51) → List (List Int) → Option (List Int × Bool)
 | 0, _, _, _, _, _, _, _ => none
 | k + 1, x1, x2, x25, x226000, x226001, x226002, x226003 => if x25 = true then (some (([] : List Int), false)) else (if 0 ≤ x226000 then (if (x226000 : Int).toNat ≤ 281474976710656 then (impl_StepAuto.l0 k x1 x2 (List.replicate (x226000 : Int).toNat false) x226002 (x226002.length : Int) 0) else (none)) else (none))
def impl_StepAuto.l0 : Nat → List Int → Int → List Bool → List (S51) → Int → Int → Option (List Int × Bool)
 | 0, _, _, _, _, _, _ => none
 | k + 1, x1, x2, x8, x30, x31, x32 => if x32 < x31 then (if 0 ≤ x32 then (if x32 < (x30.length : Int) then (if ((rd_T51 x30 x32).f1) = x2 then ((slices_Contains_int_int.f k x1 ((rd_T51 x30 x32).f0)).bind fun t234 => (if t234 = true then (if 0 ≤ ((rd_T51 x30 x32).f2) then (if ((rd_T51 x30 x32).f2) < (x8.length : Int) then (impl_StepAuto.l0 k x1 x2 (x8.set (((rd_T51 x30 x32).f2) : Int).toNat true) x30 x31 (wrap64 (x32 + 1))) else (none)) else (none)) else (impl_StepAuto.l0 k x1 x2 x8 x30 x31 (wrap64 (x32 + 1))))) else (impl_StepAuto.l0 k x1 x2 x8 x30 x31 (wrap64 (x32 + 1)))) else (none)) else (none)) else ((impl_marked.f k x8).bind fun t236 => (some (t236, true)))
end
def impl_StepAuto.f (k : Nat) (a0_0 : Int) (l0_1 : List Int) (l0_2 : List (S51)) (l0_3 : List (List Int)) (l1 : List Int) (a2 : Int) : Option (List Int × Bool) := (impl_GoodAuto.f k a0_0 l0_1 l0_2 l0_3).bind fun t226 => (if t226 = true then ((impl_isIncreasing.f k l1 a0_0).bind fun t227 => (if t227 = true then ((impl_isOneLetter.f a2).bind fun t228 => (impl_StepAuto.j0 k l1 a2 (!t228) a0_0 l0_1 l0_2 l0_3)) else (impl_StepAuto.j0 k l1 a2 true a0_0 l0_1 l0_2 l0_3))) else (impl_StepAuto.j0 k l1 a2 true a0_0 l0_1 l0_2 l0_3))
theorem impl_StepAuto.mono_l : ∀ k, (∀ y0 y1 y2 y3 y4 y5 y6, LeO (impl_StepAuto.j0 k y0 y1 y2 y3 y4 y5 y6) (impl_StepAuto.j0 (k + 1) y0 y1 y2 y3 y4 y5 y6)) ∧ (∀ y0 y1 y2 y3 y4 y5, LeO (impl_StepAuto.l0 k y0 y1 y2 y3 y4 y5) (impl_StepAuto.l0 (k + 1) y0 y1 y2 y3 y4 y5))
 | 0 => ⟨fun _ _ _ _ _ _ _ r h => by simp [impl_StepAuto.j0] at h, fun _ _ _ _ _ _ r h => by simp [impl_StepAuto.l0] at h⟩
 | k + 1 => by
  obtain ⟨ih0, ih1⟩ := impl_StepAuto.mono_l k
  refine ⟨?_, ?_⟩
  ·intro y0 y1 y2 y3 y4 y5 y6
   unfold impl_StepAuto.j0
   repeat' first
   | (with_reducible exact ih0 _ _ _ _ _ _ _)
   | (with_reducible exact ih1 _ _ _ _ _ _)
   | (with_reducible exact impl_GoodAuto.mono _ _ _ _ _)
   | (with_reducible exact impl_isIncreasing.mono _ _ _)
   | (with_reducible exact impl_marked.mono _ _)
   | (with_reducible exact slices_Contains_int_int.mono _ _ _)
   | (with_reducible exact LeO.refl _)
   | (with_reducible exact LeO.none _)
   | (with_reducible refine LeO.ite ?_ ?_)
   | (with_reducible refine LeO.bind ?_ (fun _ => ?_))
   | exact ih0 _ _ _ _ _ _ _
   | exact ih1 _ _ _ _ _ _
   | exact impl_GoodAuto.mono _ _ _ _ _
   | exact impl_isIncreasing.mono _ _ _
   | exact impl_marked.mono _ _
   | exact slices_Contains_int_int.mono _ _ _
   | exact LeO.none _
   | refine LeO.ite ?_ ?_
   | refine LeO.bind ?_ (fun _ => ?_)
  ·intro y0 y1 y2 y3 y4 y5
   unfold impl_StepAuto.l0
   repeat' first
   | (with_reducible exact ih0 _ _ _ _ _ _ _)
   | (with_reducible exact ih1 _ _ _ _ _ _)
   | (with_reducible exact impl_GoodAuto.mono _ _ _ _ _)
   | (with_reducible exact impl_isIncreasing.mono _ _ _)
   | (with_reducible exact impl_marked.mono _ _)
   | (with_reducible exact slices_Contains_int_int.mono _ _ _)
   | (with_reducible exact LeO.refl _)
   | (with_reducible exact LeO.none _)
   | (with_reducible refine LeO.ite ?_ ?_)
   | (with_reducible refine LeO.bind ?_ (fun _ => ?_))
   | exact ih0 _ _ _ _ _ _ _
   | exact ih1 _ _ _ _ _ _
   | exact impl_GoodAuto.mono _ _ _ _ _
   | exact impl_isIncreasing.mono _ _ _
   | exact impl_marked.mono _ _
   | exact slices_Contains_int_int.mono _ _ _
   | exact LeO.none _
   | refine LeO.ite ?_ ?_
   | refine LeO.bind ?_ (fun _ => ?_)
theorem impl_StepAuto.mono : ∀ a0 a1 a2 a3 a4 a5 k, LeO (impl_StepAuto.f k a0 a1 a2 a3 a4 a5) (impl_StepAuto.f (k + 1) a0 a1 a2 a3 a4 a5) := by
 intro a0 a1 a2 a3 a4 a5 k
 obtain ⟨ih0, ih1⟩ := impl_StepAuto.mono_l k
 unfold impl_StepAuto.f
 repeat' first
   | (with_reducible exact ih0 _ _ _ _ _ _ _)
   | (with_reducible exact ih1 _ _ _ _ _ _)
   | (with_reducible exact impl_GoodAuto.mono _ _ _ _ _)
   | (with_reducible exact impl_isIncreasing.mono _ _ _)
   | (with_reducible exact impl_marked.mono _ _)
   | (with_reducible exact slices_Contains_int_int.mono _ _ _)
   | (with_reducible exact LeO.refl _)
   | (with_reducible exact LeO.none _)
   | (with_reducible refine LeO.ite ?_ ?_)
   | (with_reducible refine LeO.bind ?_ (fun _ => ?_))
   | exact ih0 _ _ _ _ _ _ _
   | exact ih1 _ _ _ _ _ _
   | exact impl_GoodAuto.mono _ _ _ _ _
   | exact impl_isIncreasing.mono _ _ _
   | exact impl_marked.mono _ _
   | exact slices_Contains_int_int.mono _ _ _
   | exact LeO.none _
   | refine LeO.ite ?_ ?_
   | refine LeO.bind ?_ (fun _ => ?_)
set_option maxHeartbeats 8000000 in
set_option maxRecDepth 100000 in
theorem impl_StepAuto.calls (k : Nat) (a0_0 : Int) (A0_1 : Option Addr) (c0_1 : Nat) (l0_1 : List Int) (A0_2 : Option Addr) (c0_2 : Nat) (l0_2 : List (S51)) (A0_3 : Option Addr) (c0_3 : Nat) (l0_3 : List (List Int)) (A1 : Option Addr) (c1 : Nat) (l1 : List Int) (a2 : Int) (r1 : List Int) (r2 : Bool) (w : World) (hr0_1 : Kd.C (Kd.int .i64) w A0_1 l0_1.length l0_1) (hc0_1 : l0_1.length ≤ c0_1) (hr0_2 : Kd.C k51 w A0_2 l0_2.length l0_2) (hc0_2 : l0_2.length ≤ c0_2) (hr0_3 : Kd.C (Kd.slice 3 (Kd.int .i64)) w A0_3 l0_3.length l0_3) (hc0_3 : l0_3.length ≤ c0_3) (hr1 : Kd.C (Kd.int .i64) w A1 l1.length l1) (hc1 : l1.length ≤ c1) (h : impl_StepAuto.f k a0_0 l0_1 l0_2 l0_3 l1 a2 = some (r1, r2)) :
  Calls Try.prog 8 #[.agg #[.int .i64 a0_0, .slice A0_1 l0_1.length c0_1, .slice A0_2 l0_2.length c0_2, .slice A0_3 l0_3.length c0_3], .slice A1 l1.length c1, .int .i64 a2] w fun e w' => ∃ v0_ : Value, e = .returned (.tuple #[v0_, .bool r2]) ∧ Kd.R (Kd.int .i64) 3 w' w.heap.size (fun _ => True) v0_ r1 ∧ Below w.heap.size w w' := by
 have hu32 := Try.underlying32
 have hu51 := Try.underlying51
 have HR0_1 := am_ hr0_1
 have HC0_1 := am_ hc0_1
 clear hr0_1 hc0_1
 have HR0_2 := am_ hr0_2
 have HC0_2 := am_ hc0_2
 clear hr0_2 hc0_2
 have HR0_3 := am_ hr0_3
 have HC0_3 := am_ hc0_3
 clear hr0_3 hc0_3
 have HR1 := am_ hr1
 have HC1 := am_ hc1
 clear hr1 hc1
 have HB := am_ (Below.refl w.heap.size w)
 have H : ((impl_GoodAuto.f k a0_0 l0_1 l0_2 l0_3).bind fun t226 => (if t226 = true then ((impl_isIncreasing.f k l1 a0_0).bind fun t227 => (if t227 = true then ((impl_isOneLetter.f a2).bind fun t228 => (impl_StepAuto.j0 k l1 a2 (!t228) a0_0 l0_1 l0_2 l0_3)) else (impl_StepAuto.j0 k l1 a2 true a0_0 l0_1 l0_2 l0_3))) else (impl_StepAuto.j0 k l1 a2 true a0_0 l0_1 l0_2 l0_3))) = some (r1, r2) := h
 clear h
 have HC4 := am_ H
 clear H
 go_enter Try.func8, Try.ntmps8
 go_upto_region 1 with (first | ((with_reducible refine gate_dst (N := 3) rfl ?_); refine Sh.bx (N := 3) (cs := #[.int .i64 a0_0, .slice A0_1 l0_1.length c0_1, .slice A0_2 l0_2.length c0_2, .slice A0_3 l0_3.length c0_3]) (t := 32) (h := ?_); intro gb225 hg w5 hbox hb; have n0_ := am_ (below_step Sh.bw hb); have n1_ := am_ (hbox); have n2_ := am_ (Sh.gw (w := w) hg); have n3_ := am_ (Sh.gw (w := w) hg); clear HB; have HB := n0_; have BK225 := n1_; have GW225 := n2_; have GE225 := n3_; clear n0_ n1_ n2_ n3_; clear hb hbox hg))
 (try simp only [Act.put, List.setIfInBounds_toArray, List.set_cons_zero, List.set_cons_succ])
 go_cut [25] (fun v25 wc => ∃ (kq : Nat) (x25_3 : Bool), v25 = .bool x25_3 ∧ Aside0 (impl_StepAuto.j0 kq l1 a2 x25_3 a0_0 l0_1 l0_2 l0_3 = some (r1, r2)) ∧ Aside0 (kq ≤ k) ∧ Aside0 (wc.heap[gb225]? = some (.cells #[.int .i64 a0_0, (.slice A0_1 l0_1.length c0_1), (.slice A0_2 l0_2.length c0_2), (.slice A0_3 l0_3.length c0_3)] 32 (0, 0))) ∧ Aside0 (Below w.heap.size w wc))
 case first =>
  have H := HC4.out
  clear HC4
  replace H := Option.bind_eq_some_iff.mp H
  obtain ⟨t226, A60, H⟩ := H
  replace H : (if t226 = true then ((impl_isIncreasing.f k l1 a0_0).bind fun t227 => (if t227 = true then ((impl_isOneLetter.f a2).bind fun t228 => (impl_StepAuto.j0 k l1 a2 (!t228) a0_0 l0_1 l0_2 l0_3)) else (impl_StepAuto.j0 k l1 a2 true a0_0 l0_1 l0_2 l0_3))) else (impl_StepAuto.j0 k l1 a2 true a0_0 l0_1 l0_2 l0_3)) = some (r1, r2) := H
  have A6 := am_ A60
  clear A60
  by_cases c7 : t226 = true
  ·subst c7
   have H1 : ((impl_isIncreasing.f k l1 a0_0).bind fun t227 => (if t227 = true then ((impl_isOneLetter.f a2).bind fun t228 => (impl_StepAuto.j0 k l1 a2 (!t228) a0_0 l0_1 l0_2 l0_3)) else (impl_StepAuto.j0 k l1 a2 true a0_0 l0_1 l0_2 l0_3))) = some (r1, r2) := by rw [if_pos rfl] at H; exact H
   clear H
   have H := H1
   clear H1
   replace H := Option.bind_eq_some_iff.mp H
   obtain ⟨t227, A80, H⟩ := H
   replace H : (if t227 = true then ((impl_isOneLetter.f a2).bind fun t228 => (impl_StepAuto.j0 k l1 a2 (!t228) a0_0 l0_1 l0_2 l0_3)) else (impl_StepAuto.j0 k l1 a2 true a0_0 l0_1 l0_2 l0_3)) = some (r1, r2) := H
   have A8 := am_ A80
   clear A80
   by_cases c9 : t227 = true
   ·subst c9
    have H1 : ((impl_isOneLetter.f a2).bind fun t228 => (impl_StepAuto.j0 k l1 a2 (!t228) a0_0 l0_1 l0_2 l0_3)) = some (r1, r2) := by rw [if_pos rfl] at H; exact H
    clear H
    have H := H1
    clear H1
    replace H := Option.bind_eq_some_iff.mp H
    obtain ⟨t228, A100, H⟩ := H
    replace H : (impl_StepAuto.j0 k l1 a2 (!t228) a0_0 l0_1 l0_2 l0_3) = some (r1, r2) := H
    have A10 := am_ A100
    clear A100
    have H' := am_ H
    clear H
    have hcz11_0 := Sh.bc BK225.out 0
    have hcz11_1 := Sh.bc BK225.out 1
    have hcz11_2 := Sh.bc BK225.out 2
    have hcz11_3 := Sh.bc BK225.out 3
    have hfz11_0 := blk_frozen BK225.out 0
    have hfz11_1 := blk_frozen BK225.out 1
    have hfz11_2 := blk_frozen BK225.out 2
    have hfz11_3 := blk_frozen BK225.out 3
    go_wp2_with (first | ((with_reducible refine gate_callee (f := 23) rfl ?_); refine Sh.gL (some 12) Try.func23 #[.agg #[.int .i64 a0_0, .slice A0_1 l0_1.length c0_1, .slice A0_2 l0_2.length c0_2, .slice A0_3 l0_3.length c0_3]] (h := ?_); (with_reducible refine (impl_GoodAuto.calls k a0_0 _ _ l0_1 _ _ l0_2 _ _ l0_3 true _ (Sh.cB HR0_1.out) HC0_1.out (Sh.cB HR0_2.out) HC0_2.out (Sh.cB HR0_3.out) HC0_3.out A6.out).mono ?_); rintro e w12 ⟨rfl, hb⟩; refine ⟨_, rfl, ?_⟩; have n0_ := am_ (Sh.bb BK225.out hb); have n1_ := am_ (below_step Sh.bw hb); clear BK225; clear HB; have BK225 := n0_; have HB := n1_; clear n0_ n1_; (try clear hb); (try clear hb2); (try clear hk); (try clear hi); have hcz13_0 := Sh.bc BK225.out 0; have hcz13_1 := Sh.bc BK225.out 1; have hcz13_2 := Sh.bc BK225.out 2; have hcz13_3 := Sh.bc BK225.out 3; have hfz13_0 := blk_frozen BK225.out 0; have hfz13_1 := blk_frozen BK225.out 1; have hfz13_2 := blk_frozen BK225.out 2; have hfz13_3 := blk_frozen BK225.out 3) | (go_at_call 24; (with_reducible refine (impl_isIncreasing.calls k _ _ l1 a0_0 true _ (Sh.cB HR1.out) HC1.out A8.out).mono ?_); rintro e w' ⟨rfl, ⟨nd, rfl⟩⟩) | (go_at_call 25; (with_reducible refine (impl_isOneLetter.calls a2 t228 _ A10.out).mono ?_); rintro e w' ⟨rfl, ⟨nd, rfl⟩⟩))
    go_meet
    case rel => exact ⟨_, (!t228), (by first | rfl | (simp; done) | (simp [*]; done)), H', ⟨by first | omega | exact Nat.le_refl _⟩, ⟨by (with_reducible repeat (first | refine blk_drewN ?_ _ | refine blk_drew ?_ | refine blk_alloc ?_ _)); exact BK225.out⟩, ⟨by repeat (first | (with_reducible first | exact HB.out | apply below_alloc | apply pw_below_drewN | apply below_drew1 | refine below_set ?_ GE225.out) | exact HB.out)⟩⟩
   ·replace c9 := Bool.eq_false_iff.mpr c9
    subst c9
    have H1 : (impl_StepAuto.j0 k l1 a2 true a0_0 l0_1 l0_2 l0_3) = some (r1, r2) := by rw [if_neg (show ¬ (false = true) by decide)] at H; exact H
    clear H
    have H := H1
    clear H1
    have H' := am_ H
    clear H
    have hcz14_0 := Sh.bc BK225.out 0
    have hcz14_1 := Sh.bc BK225.out 1
    have hcz14_2 := Sh.bc BK225.out 2
    have hcz14_3 := Sh.bc BK225.out 3
    have hfz14_0 := blk_frozen BK225.out 0
    have hfz14_1 := blk_frozen BK225.out 1
    have hfz14_2 := blk_frozen BK225.out 2
    have hfz14_3 := blk_frozen BK225.out 3
    go_wp2_with (first | ((with_reducible refine gate_callee (f := 23) rfl ?_); refine Sh.gL (some 12) Try.func23 #[.agg #[.int .i64 a0_0, .slice A0_1 l0_1.length c0_1, .slice A0_2 l0_2.length c0_2, .slice A0_3 l0_3.length c0_3]] (h := ?_); (with_reducible refine (impl_GoodAuto.calls k a0_0 _ _ l0_1 _ _ l0_2 _ _ l0_3 true _ (Sh.cB HR0_1.out) HC0_1.out (Sh.cB HR0_2.out) HC0_2.out (Sh.cB HR0_3.out) HC0_3.out A6.out).mono ?_); rintro e w15 ⟨rfl, hb⟩; refine ⟨_, rfl, ?_⟩; have n0_ := am_ (Sh.bb BK225.out hb); have n1_ := am_ (below_step Sh.bw hb); clear BK225; clear HB; have BK225 := n0_; have HB := n1_; clear n0_ n1_; (try clear hb); (try clear hb2); (try clear hk); (try clear hi); have hcz16_0 := Sh.bc BK225.out 0; have hcz16_1 := Sh.bc BK225.out 1; have hcz16_2 := Sh.bc BK225.out 2; have hcz16_3 := Sh.bc BK225.out 3; have hfz16_0 := blk_frozen BK225.out 0; have hfz16_1 := blk_frozen BK225.out 1; have hfz16_2 := blk_frozen BK225.out 2; have hfz16_3 := blk_frozen BK225.out 3) | (go_at_call 24; (with_reducible refine (impl_isIncreasing.calls k _ _ l1 a0_0 false _ (Sh.cB HR1.out) HC1.out A8.out).mono ?_); rintro e w' ⟨rfl, ⟨nd, rfl⟩⟩))
    go_meet
    case rel => exact ⟨_, (true), (by first | rfl | (simp; done) | (simp [*]; done)), H', ⟨by first | omega | exact Nat.le_refl _⟩, ⟨by (with_reducible repeat (first | refine blk_drewN ?_ _ | refine blk_drew ?_ | refine blk_alloc ?_ _)); exact BK225.out⟩, ⟨by repeat (first | (with_reducible first | exact HB.out | apply below_alloc | apply pw_below_drewN | apply below_drew1 | refine below_set ?_ GE225.out) | exact HB.out)⟩⟩
  ·replace c7 := Bool.eq_false_iff.mpr c7
   subst c7
   have H1 : (impl_StepAuto.j0 k l1 a2 true a0_0 l0_1 l0_2 l0_3) = some (r1, r2) := by rw [if_neg (show ¬ (false = true) by decide)] at H; exact H
   clear H
   have H := H1
   clear H1
   have H' := am_ H
   clear H
   have hcz17_0 := Sh.bc BK225.out 0
   have hcz17_1 := Sh.bc BK225.out 1
   have hcz17_2 := Sh.bc BK225.out 2
   have hcz17_3 := Sh.bc BK225.out 3
   have hfz17_0 := blk_frozen BK225.out 0
   have hfz17_1 := blk_frozen BK225.out 1
   have hfz17_2 := blk_frozen BK225.out 2
   have hfz17_3 := blk_frozen BK225.out 3
   go_wp2_with (first | ((with_reducible refine gate_callee (f := 23) rfl ?_); refine Sh.gL (some 12) Try.func23 #[.agg #[.int .i64 a0_0, .slice A0_1 l0_1.length c0_1, .slice A0_2 l0_2.length c0_2, .slice A0_3 l0_3.length c0_3]] (h := ?_); (with_reducible refine (impl_GoodAuto.calls k a0_0 _ _ l0_1 _ _ l0_2 _ _ l0_3 false _ (Sh.cB HR0_1.out) HC0_1.out (Sh.cB HR0_2.out) HC0_2.out (Sh.cB HR0_3.out) HC0_3.out A6.out).mono ?_); rintro e w18 ⟨rfl, hb⟩; refine ⟨_, rfl, ?_⟩; have n0_ := am_ (Sh.bb BK225.out hb); have n1_ := am_ (below_step Sh.bw hb); clear BK225; clear HB; have BK225 := n0_; have HB := n1_; clear n0_ n1_; (try clear hb); (try clear hb2); (try clear hk); (try clear hi)))
   go_meet
   case rel => exact ⟨_, (true), (by first | rfl | (simp; done) | (simp [*]; done)), H', ⟨by first | omega | exact Nat.le_refl _⟩, ⟨by (with_reducible repeat (first | refine blk_drewN ?_ _ | refine blk_drew ?_ | refine blk_alloc ?_ _)); exact BK225.out⟩, ⟨by repeat (first | (with_reducible first | exact HB.out | apply below_alloc | apply pw_below_drewN | apply below_drew1 | refine below_set ?_ GE225.out) | exact HB.out)⟩⟩
 case rest =>
  clear HC4
  try clear c1
  try clear c2
  try clear p2
  try clear c7
  try clear c8
  try clear c9
  try clear hcz11_0
  try clear hcz11_1
  try clear hcz11_2
  try clear hcz11_3
  try clear hcz13_0
  try clear hcz13_1
  try clear hcz13_2
  try clear hcz13_3
  try clear hcz14_0
  try clear hcz14_1
  try clear hcz14_2
  try clear hcz14_3
  try clear hcz16_0
  try clear hcz16_1
  try clear hcz16_2
  try clear hcz16_3
  try clear hcz17_0
  try clear hcz17_1
  try clear hcz17_2
  try clear hcz17_3
  try clear hfz11_0
  try clear hfz11_1
  try clear hfz11_2
  try clear hfz11_3
  try clear hfz13_0
  try clear hfz13_1
  try clear hfz13_2
  try clear hfz13_3
  try clear hfz14_0
  try clear hfz14_1
  try clear hfz14_2
  try clear hfz14_3
  try clear hfz16_0
  try clear hfz16_1
  try clear hfz16_2
  try clear hfz16_3
  try clear hfz17_0
  try clear hfz17_1
  try clear hfz17_2
  try clear hfz17_3
  obtain ⟨kq, x25_3, rfl, HA, HJ3, BK225, HB⟩ := hcut
  cases kq with
  | zero => exact absurd HA.out (by simp [impl_StepAuto.j0])
  | succ kj3 =>
   have H := HA.out
   clear HA
   simp only [impl_StepAuto.j0] at H
   by_cases c19 : x25_3 = true
   ·subst c19
    have H1 : (some (([] : List Int), false)) = some (r1, r2) := by rw [if_pos rfl] at H; exact H
    clear H
    have H := H1
    clear H1
    simp only [Option.some.injEq, Prod.mk.injEq] at H
    obtain ⟨rfl, rfl⟩ := H
    go_wp2
    go_ret2
    exact ⟨_, Sh.eR, by first | exact Kd.R_nil _ _ _ _ _ | exact Kd.N_nil _ _ _ _ _ | exact Kd.V_nil _ _ _ _ _ | exact Kd.Q_nil _ _ _ _ _ | exact Kd.S_nil _ _ _ _ _, Sh.bw⟩
   ·replace c19 := Bool.eq_false_iff.mpr c19
    subst c19
    have H1 : (if 0 ≤ a0_0 then (if (a0_0 : Int).toNat ≤ 281474976710656 then (impl_StepAuto.l0 kj3 l1 a2 (List.replicate (a0_0 : Int).toNat false) l0_2 (l0_2.length : Int) 0) else (none)) else (none)) = some (r1, r2) := by rw [if_neg (show ¬ (false = true) by decide)] at H; exact H
    clear H
    have H := H1
    clear H1
    by_cases c20 : 0 ≤ a0_0
    ·rw [if_pos c20] at H
     have c20b0 := eq_true c20
     have c20b1 : decide (0 ≤ a0_0) = true := decide_eq_true c20
     clear c20
     by_cases c21 : (a0_0 : Int).toNat ≤ 281474976710656
     ·rw [if_pos c21] at H
      have c21b0 := eq_true c21
      have c21b1 : decide ((a0_0 : Int).toNat ≤ 281474976710656) = true := decide_eq_true c21
      clear c21
      obtain ⟨y229, hy229⟩ : ∃ y_ : List Bool, y_ = (List.replicate (a0_0 : Int).toNat false) := ⟨_, rfl⟩
      replace H : (impl_StepAuto.l0 kj3 l1 a2 y229 l0_2 (l0_2.length : Int) 0) = some (r1, r2) := by first | (rw [hy229]; with_reducible exact H) | (have H2_ := (Option.bind_some _ _).symm.trans H; rw [hy229]; with_reducible exact H2_) | (have H2_ := (Option.bind_some _ _).symm.trans H; with_reducible exact H2_) | with_reducible exact H | (rw [hy229]; exact H) | exact H
      have Ny229 := am_ hy229
      clear hy229
      have H' := am_ H
      clear H
      have hcz22_0 := Sh.bc BK225.out 0
      have hcz22_1 := Sh.bc BK225.out 1
      have hcz22_2 := Sh.bc BK225.out 2
      have hcz22_3 := Sh.bc BK225.out 3
      have hfz22_0 := blk_frozen BK225.out 0
      have hfz22_1 := blk_frozen BK225.out 1
      have hfz22_2 := blk_frozen BK225.out 2
      have hfz22_3 := blk_frozen BK225.out 3
      go_wp2_with (first | ((with_reducible refine gate_dst (N := 28) rfl ?_); refine Kd.R_make Kd.bool _ 4 rfl (N := 28) rfl 49 _ _ rfl a0_0 rfl rfl Try.underlying49 (.bool false) 1 info4 rfl (by decide) (by omega) false (ok := fun _ => True) (okp := fun _ => True) rfl (fun _ hk => hk) trivial (of_decide_eq_true (by first | (with_reducible assumption) | assumption)) (Nat.le_trans (Nat.mul_le_mul_right _ (of_decide_eq_true (by first | (with_reducible assumption) | assumption) : a0_0.toNat ≤ 281474976710656)) (by omega)) (Below.refl _ _) (Nat.le_refl _) ?_; intro v230 w23 ho24 hb hg_ hnew_; clear hg_ hnew_; (first | rw [← Ny229.out] at ho24 | (simp only [Int.reduceToNat] at ho24; rw [← Ny229.out] at ho24)); have n0_ := am_ (Kd.R_lower ho24 (below_size Sh.bw)); have n1_ := am_ (Sh.bb BK225.out hb); have n2_ := am_ (below_step Sh.bw hb); clear BK225; clear HB; have HO231 := n0_; have BK225 := n1_; have HB := n2_; clear n0_ n1_ n2_; clear hb ho24; have hcz25_0 := Sh.bc BK225.out 0; have hcz25_1 := Sh.bc BK225.out 1; have hcz25_2 := Sh.bc BK225.out 2; have hcz25_3 := Sh.bc BK225.out 3; have hfz25_0 := blk_frozen BK225.out 0; have hfz25_1 := blk_frozen BK225.out 1; have hfz25_2 := blk_frozen BK225.out 2; have hfz25_3 := blk_frozen BK225.out 3))
      go_loopg [32] kj3 (fun kq v32 w' => ∃ (x8_2 : List Bool) (x32_2 : Int), v32 = .int .i64 x32_2 ∧ Aside0 (impl_StepAuto.l0 kq l1 a2 x8_2 l0_2 (l0_2.length : Int) x32_2 = some (r1, r2)) ∧ Aside0 (kq ≤ kj3) ∧ Aside0 (Kd.R Kd.bool 4 w' w.heap.size (fun _ => True) v230 x8_2) ∧ Aside0 (w'.heap[gb225]? = some (.cells #[.int .i64 a0_0, (.slice A0_1 l0_1.length c0_1), (.slice A0_2 l0_2.length c0_2), (.slice A0_3 l0_3.length c0_3)] 32 (0, 0))) ∧ Aside0 (Below w.heap.size w w'))
      case atStart => exact ⟨(y229), (0), (by first | rfl | (simp; done) | (simp [*]; done)), H', ⟨Nat.le_refl _⟩, ⟨by (with_reducible repeat (first | apply Kd.R_alloc | apply Kd.R_drewN | apply Kd.R_drew)); exact HO231.out⟩, ⟨by (with_reducible repeat (first | refine blk_drewN ?_ _ | refine blk_drew ?_ | refine blk_alloc ?_ _)); exact BK225.out⟩, ⟨by repeat (first | (with_reducible first | exact HB.out | apply below_alloc | apply pw_below_drewN | apply below_drew1 | refine below_set ?_ GE225.out) | exact HB.out)⟩⟩
      case round =>
       clear H'
       try clear c1
       try clear c2
       try clear p2
       try clear c7
       try clear c8
       try clear c9
       try clear c19
       try clear c20
       try clear c20b0
       try clear c20b1
       try clear c21
       try clear c21b0
       try clear c21b1
       try clear c23
       try clear hcz11_0
       try clear hcz11_1
       try clear hcz11_2
       try clear hcz11_3
       try clear hcz13_0
       try clear hcz13_1
       try clear hcz13_2
       try clear hcz13_3
       try clear hcz14_0
       try clear hcz14_1
       try clear hcz14_2
       try clear hcz14_3
       try clear hcz16_0
       try clear hcz16_1
       try clear hcz16_2
       try clear hcz16_3
       try clear hcz17_0
       try clear hcz17_1
       try clear hcz17_2
       try clear hcz17_3
       try clear hcz22_0
       try clear hcz22_1
       try clear hcz22_2
       try clear hcz22_3
       try clear hcz25_0
       try clear hcz25_1
       try clear hcz25_2
       try clear hcz25_3
       try clear hfz11_0
       try clear hfz11_1
       try clear hfz11_2
       try clear hfz11_3
       try clear hfz13_0
       try clear hfz13_1
       try clear hfz13_2
       try clear hfz13_3
       try clear hfz14_0
       try clear hfz14_1
       try clear hfz14_2
       try clear hfz14_3
       try clear hfz16_0
       try clear hfz16_1
       try clear hfz16_2
       try clear hfz16_3
       try clear hfz17_0
       try clear hfz17_1
       try clear hfz17_2
       try clear hfz17_3
       try clear hfz22_0
       try clear hfz22_1
       try clear hfz22_2
       try clear hfz22_3
       try clear hfz25_0
       try clear hfz25_1
       try clear hfz25_2
       try clear hfz25_3
       try clear p2
       obtain ⟨x8_2, x32_2, rfl, HA, HK2, HO_8, BK225, HB⟩ := hrel
       cases gk with
       | zero => exact absurd HA.out (by simp [impl_StepAuto.l0])
       | succ k2 =>
        have H := HA.out
        clear HA
        simp only [impl_StepAuto.l0] at H
        by_cases c26 : x32_2 < (l0_2.length : Int)
        ·rw [if_pos c26] at H
         have c26b0 : decide (x32_2 < (l0_2.length : Int)) = true := decide_eq_true c26
         clear c26
         by_cases c27 : 0 ≤ x32_2
         ·rw [if_pos c27] at H
          have c27b0 : decide (0 ≤ x32_2) = true := decide_eq_true c27
          clear c27
          by_cases c28 : x32_2 < (l0_2.length : Int)
          ·rw [if_pos c28] at H
           have c28b0 : decide (x32_2 < (l0_2.length : Int)) = true := decide_eq_true c28
           clear c28
           by_cases c29 : ((rd_T51 l0_2 x32_2).f1) = a2
           ·rw [if_pos c29] at H
            have c29b0 : (((rd_T51 l0_2 x32_2).f1) == a2) = true := beq_iff_eq.mpr c29
            have c29b1 : (((rd_T51 l0_2 x32_2).f1) != a2) = false := bne_eq_false_iff_eq.mpr c29
            clear c29
            replace H := Option.bind_eq_some_iff.mp H
            obtain ⟨t234, A300, H⟩ := H
            replace H : (if t234 = true then (if 0 ≤ ((rd_T51 l0_2 x32_2).f2) then (if ((rd_T51 l0_2 x32_2).f2) < (x8_2.length : Int) then (impl_StepAuto.l0 k2 l1 a2 (x8_2.set (((rd_T51 l0_2 x32_2).f2) : Int).toNat true) l0_2 (l0_2.length : Int) (wrap64 (x32_2 + 1))) else (none)) else (none)) else (impl_StepAuto.l0 k2 l1 a2 x8_2 l0_2 (l0_2.length : Int) (wrap64 (x32_2 + 1)))) = some (r1, r2) := H
            have A30 := am_ A300
            clear A300
            by_cases c31 : t234 = true
            ·subst c31
             have H1 : (if 0 ≤ ((rd_T51 l0_2 x32_2).f2) then (if ((rd_T51 l0_2 x32_2).f2) < (x8_2.length : Int) then (impl_StepAuto.l0 k2 l1 a2 (x8_2.set (((rd_T51 l0_2 x32_2).f2) : Int).toNat true) l0_2 (l0_2.length : Int) (wrap64 (x32_2 + 1))) else (none)) else (none)) = some (r1, r2) := by rw [if_pos rfl] at H; exact H
             clear H
             have H := H1
             clear H1
             by_cases c32 : 0 ≤ ((rd_T51 l0_2 x32_2).f2)
             ·rw [if_pos c32] at H
              have c32b0 : decide (0 ≤ ((rd_T51 l0_2 x32_2).f2)) = true := decide_eq_true c32
              clear c32
              by_cases c33 : ((rd_T51 l0_2 x32_2).f2) < (x8_2.length : Int)
              ·rw [if_pos c33] at H
               have c33b0 : decide (((rd_T51 l0_2 x32_2).f2) < (x8_2.length : Int)) = true := decide_eq_true c33
               clear c33
               obtain ⟨y235, hy235⟩ : ∃ y_ : List Bool, y_ = (x8_2.set (((rd_T51 l0_2 x32_2).f2) : Int).toNat true) := ⟨_, rfl⟩
               replace H : (impl_StepAuto.l0 k2 l1 a2 y235 l0_2 (l0_2.length : Int) (wrap64 (x32_2 + 1))) = some (r1, r2) := by first | (rw [hy235]; with_reducible exact H) | (have H2_ := (Option.bind_some _ _).symm.trans H; rw [hy235]; with_reducible exact H2_) | (have H2_ := (Option.bind_some _ _).symm.trans H; with_reducible exact H2_) | with_reducible exact H | (rw [hy235]; exact H) | exact H
               have Ny235 := am_ hy235
               clear hy235
               have H' := am_ H
               clear H
               have p232 : 0 ≤ (x32_2 : Int) := of_decide_eq_true (by first | (with_reducible assumption) | assumption)
               have q232 : x32_2 < (l0_2.length : Int) := of_decide_eq_true (by first | (with_reducible assumption) | assumption)
               obtain ⟨ad232, e232, hx232_0, hx232_1, hx232_2⟩ := at_T51 HR0_2.out x32_2 p232 q232
               cases e232
               (try replace hx232_0 := (HB.out.cell (World.block_lt_of_cell? w _ hx232_0)).trans hx232_0)
               (try replace hx232_1 := (HB.out.cell (World.block_lt_of_cell? w _ hx232_1)).trans hx232_1)
               (try replace hx232_2 := (HB.out.cell (World.block_lt_of_cell? w _ hx232_2)).trans hx232_2)
               replace p232 := eq_true p232
               replace q232 := eq_true q232
               go_wp2_with (first | ((with_reducible refine gate_dst (N := 10) rfl ?_); refine Sh.bx (N := 10) (cs := #[.int .i64 0, .int .i64 0, .int .i64 0]) (t := 51) (h := ?_); intro gb233 hg w35 hbox hb; have n0_ := am_ (Kd.R_below (by (with_reducible repeat (first | apply Kd.R_alloc | apply Kd.R_drewN | apply Kd.R_drew)); exact HO_8.out) hb); have n1_ := am_ (Sh.bb BK225.out hb); have n2_ := am_ (below_step Sh.bw hb); have n3_ := am_ (hbox); have n4_ := am_ (Sh.gw (w := w) hg); have n5_ := am_ (Sh.gw (w := w) hg); have n6_ := am_ (Sh.nl hg BK225.out); have n7_ := am_ (Sh.ng hg BK225.out); clear HO_8; clear BK225; clear HB; have HO_8 := n0_; have BK225 := n1_; have HB := n2_; have BK233 := n3_; have GW233 := n4_; have GE233 := n5_; have NB225_233 := n6_; have NB233_225 := n7_; clear n0_ n1_ n2_ n3_ n4_ n5_ n6_ n7_; clear hb hbox hg; have hnb36 := NB233_225.out; have hnc36 := NB225_233.out; have hcz37_0 := Sh.bc BK233.out 0; have hcz37_1 := Sh.bc BK233.out 1; have hcz37_2 := Sh.bc BK233.out 2; have hfz37_0 := blk_frozen BK233.out 0; have hfz37_1 := blk_frozen BK233.out 1; have hfz37_2 := blk_frozen BK233.out 2) | ((with_reducible refine gate_store (t := 51) (p := 10) rfl ?_); refine store_event (t := 51) (p := 10) (v := ?vo_w38) (w1 := (((w35.setCell ⟨gb233, 0, none⟩ (.int .i64 ((rd_T51 l0_2 x32_2).f0))).setCell ⟨gb233, 1, none⟩ (.int .i64 ((rd_T51 l0_2 x32_2).f1))).setCell ⟨gb233, 2, none⟩ (.int .i64 ((rd_T51 l0_2 x32_2).f2)))) ?hg ?ho ?hn ?hr ?_; (case ho => rfl); (case hg => rfl); (case hn => rfl); (case hr => first | (go_simp; done) | (go_simp; rfl)); intro w38 hw; have n0_ : Aside0 (Kd.R Kd.bool 4 w38 w.heap.size (fun _ => True) v230 x8_2) := ⟨(by rw [hw]; exact (by (with_reducible repeat (first | apply Kd.R_alloc | apply Kd.R_drewN | apply Kd.R_drew)); exact Kd.R_mono (Kd.R_far (p := ⟨gb233, 2, none⟩) (Kd.R_far (p := ⟨gb233, 1, none⟩) (Kd.R_far (p := ⟨gb233, 0, none⟩) (Kd.R_types HO_8.out BK233.out (by decide)) (fun _ hk => hk.2) (.int .i64 ((rd_T51 l0_2 x32_2).f0))) (fun _ hk => hk.2) (.int .i64 ((rd_T51 l0_2 x32_2).f1))) (fun _ hk => hk.2) (.int .i64 ((rd_T51 l0_2 x32_2).f2))) (fun _ hk => trivial)))⟩; have n1_ : Aside0 (w38.heap[gb225]? = some (.cells #[.int .i64 a0_0, .slice A0_1 l0_1.length c0_1, .slice (some ad232) l0_2.length c0_2, .slice A0_3 l0_3.length c0_3] 32 (0, 0))) := ⟨(by rw [hw]; exact (by (with_reducible repeat (first | refine blk_drewN ?_ _ | refine blk_drew ?_ | refine blk_alloc ?_ _)); refine blk_far ?_ NB225_233.out _; (with_reducible repeat (first | refine blk_drewN ?_ _ | refine blk_drew ?_ | refine blk_alloc ?_ _)); refine blk_far ?_ NB225_233.out _; (with_reducible repeat (first | refine blk_drewN ?_ _ | refine blk_drew ?_ | refine blk_alloc ?_ _)); refine blk_far ?_ NB225_233.out _; (with_reducible repeat (first | refine blk_drewN ?_ _ | refine blk_drew ?_ | refine blk_alloc ?_ _)); exact BK225.out))⟩; have n2_ : Aside0 (w38.heap[gb233]? = some (.cells #[.int .i64 ((rd_T51 l0_2 x32_2).f0), .int .i64 ((rd_T51 l0_2 x32_2).f1), .int .i64 ((rd_T51 l0_2 x32_2).f2)] 51 (0, 0))) := ⟨(by rw [hw]; exact (by (with_reducible repeat (first | refine blk_drewN ?_ _ | refine blk_drew ?_ | refine blk_alloc ?_ _)); refine blk_put (cs := #[.int .i64 ((rd_T51 l0_2 x32_2).f0), .int .i64 ((rd_T51 l0_2 x32_2).f1), .int .i64 0]) ?_ 2 _ rfl; (with_reducible repeat (first | refine blk_drewN ?_ _ | refine blk_drew ?_ | refine blk_alloc ?_ _)); refine blk_put (cs := #[.int .i64 ((rd_T51 l0_2 x32_2).f0), .int .i64 0, .int .i64 0]) ?_ 1 _ rfl; (with_reducible repeat (first | refine blk_drewN ?_ _ | refine blk_drew ?_ | refine blk_alloc ?_ _)); refine blk_put (cs := #[.int .i64 0, .int .i64 0, .int .i64 0]) ?_ 0 _ rfl; (with_reducible repeat (first | refine blk_drewN ?_ _ | refine blk_drew ?_ | refine blk_alloc ?_ _)); exact BK233.out))⟩; have n3_ : Aside0 (Below w.heap.size w w38) := ⟨(by rw [hw]; exact Sh.bw)⟩; clear hw; clear HO_8; clear BK225; clear BK233; clear HB; have HO_8 := n0_; have BK225 := n1_; have BK233 := n2_; have HB := n3_; clear n0_ n1_ n2_ n3_; have hcz39_0 := Sh.bc BK233.out 0; have hcz39_1 := Sh.bc BK233.out 1; have hcz39_2 := Sh.bc BK233.out 2; have hfz39_0 := blk_frozen BK233.out 0; have hfz39_1 := blk_frozen BK233.out 1; have hfz39_2 := blk_frozen BK233.out 2) | (go_at_call 26; (with_reducible refine (slices_Contains_int_int.calls k2 _ _ l1 ((rd_T51 l0_2 x32_2).f0) true _ (Sh.cB HR1.out) HC1.out A30.out).mono ?_); rintro e w' ⟨rfl, ⟨nd, rfl⟩⟩; (try (rw [drewN_self w38]; generalize hq_ : World.drewN w38 _ = w38; have n0_ : Aside0 (Kd.R Kd.bool 4 w38 w.heap.size (fun _ => True) v230 x8_2) := ⟨by rw [← hq_]; exact (by (with_reducible repeat (first | apply Kd.R_alloc | apply Kd.R_drewN | apply Kd.R_drew)); exact HO_8.out)⟩; have n1_ : Aside0 (w38.heap[gb225]? = some (.cells #[.int .i64 a0_0, .slice A0_1 l0_1.length c0_1, .slice (some ad232) l0_2.length c0_2, .slice A0_3 l0_3.length c0_3] 32 (0, 0))) := ⟨by rw [← hq_]; exact (by (with_reducible repeat (first | refine blk_drewN ?_ _ | refine blk_drew ?_ | refine blk_alloc ?_ _)); exact BK225.out)⟩; have n2_ : Aside0 (w38.heap[gb233]? = some (.cells #[.int .i64 ((rd_T51 l0_2 x32_2).f0), .int .i64 ((rd_T51 l0_2 x32_2).f1), .int .i64 ((rd_T51 l0_2 x32_2).f2)] 51 (0, 0))) := ⟨by rw [← hq_]; exact (by (with_reducible repeat (first | refine blk_drewN ?_ _ | refine blk_drew ?_ | refine blk_alloc ?_ _)); exact BK233.out)⟩; have n3_ : Aside0 (Below w.heap.size w w38) := ⟨by rw [← hq_]; exact Sh.bw⟩; clear HO_8 BK225 BK233 HB hq_; have HO_8 := n0_; have BK225 := n1_; have BK233 := n2_; have HB := n3_; clear n0_ n1_ n2_ n3_)); (try replace hcz39_0 := Sh.bc BK233.out 0); (try replace hcz39_1 := Sh.bc BK233.out 1); (try replace hcz39_2 := Sh.bc BK233.out 2); (try replace hfz39_0 := blk_frozen BK233.out 0); (try replace hfz39_1 := blk_frozen BK233.out 1); (try replace hfz39_2 := blk_frozen BK233.out 2); have p34 : 0 ≤ (((rd_T51 l0_2 x32_2).f2) : Int) := of_decide_eq_true (by first | (with_reducible assumption) | assumption); have q34 : (((rd_T51 l0_2 x32_2).f2) : Int) < ((x8_2.length : Int) : Int) := of_decide_eq_true (by first | (with_reducible assumption) | assumption); obtain ⟨go34, co34, eo34, gb34, gl34, cl34, HG34⟩ := Kd.R_form HO_8.out (by omega); (first | cases eo34 | (injection eo34 with ea_ en_ ec_; (first | subst ea_ | (injection ea_ with ea_; subst ea_)); subst ec_; clear en_)); have GB34 := am_ gb34; have GG34 := am_ HG34; clear gb34 gl34 HG34; obtain ⟨hx34_0, hf34_0⟩ := Kd.R_celln false HO_8.out (((rd_T51 l0_2 x32_2).f2) : Int) p34 q34; replace p34 := eq_true p34; replace q34 := eq_true q34; obtain ⟨hy40_, hz40_⟩ := Kd.R_celln false HO_8.out (((rd_T51 l0_2 x32_2).f2) : Int) (of_decide_eq_true (by first | (with_reducible assumption) | assumption)) (of_decide_eq_true (by first | (with_reducible assumption) | assumption)); have HP40 := Kd.R_putg HO_8.out (((rd_T51 l0_2 x32_2).f2) : Int) true) | ((with_reducible refine gate_store (t := 4) (p := 49) rfl ?_); refine store_event (t := 4) (p := 49) (v := ?vo_w41) (w1 := (w38.setCell ⟨go34, (((rd_T51 l0_2 x32_2).f2) : Int).toNat, none⟩ (.bool true))) ?hg ?ho ?hn ?hr ?_; (case ho => rfl); (case hg => rfl); (case hn => rfl); (case hr => first | (go_simp; done) | (go_simp; rfl)); intro w41 hw; have hg : w38.grownBy w41 (some go34) := (by rw [hw]; exact HP40.2); have hp_ : Kd.R Kd.bool 4 w41 w.heap.size (fun _ => True) (.slice (some ⟨go34, 0, none⟩) x8_2.length co34) y235 := (by rw [hw, Ny235.out]; exact HP40.1); clear HP40; have n0_ := am_ (hp_); have n1_ := am_ (blk_grown (g := gb225) (o := .cells #[.int .i64 a0_0, .slice A0_1 l0_1.length c0_1, .slice (some ad232) l0_2.length c0_2, .slice A0_3 l0_3.length c0_3] 32 (0, 0)) (by (with_reducible repeat (first | refine blk_drewN ?_ _ | refine blk_drew ?_ | refine blk_alloc ?_ _)); exact BK225.out) hg (Kd.R_ne HO_8.out BK225.out (by decide))); have n2_ := am_ (blk_grown (g := gb233) (o := .cells #[.int .i64 ((rd_T51 l0_2 x32_2).f0), .int .i64 ((rd_T51 l0_2 x32_2).f1), .int .i64 ((rd_T51 l0_2 x32_2).f2)] 51 (0, 0)) (by (with_reducible repeat (first | refine blk_drewN ?_ _ | refine blk_drew ?_ | refine blk_alloc ?_ _)); exact BK233.out) hg (Kd.R_ne HO_8.out BK233.out (by decide))); have n3_ := am_ ((by rw [hw]; exact below_set (HB.out) GB34.out : Below w.heap.size w w41)); clear HO_8; clear BK225; clear BK233; clear HB; have HO_8 := n0_; have BK225 := n1_; have BK233 := n2_; have HB := n3_; clear n0_ n1_ n2_ n3_; clear hg hw hp_))
               go_roundg k2
               case measure => have := HJ3.out; have := HK2.out; omega
               case rel => exact ⟨(y235), (wrap64 (x32_2 + 1)), (by first | rfl | (simp; done) | (simp [*]; done)), H', ⟨by have := HJ3.out; have := HK2.out; omega⟩, ⟨by (with_reducible repeat (first | apply Kd.R_alloc | apply Kd.R_drewN | apply Kd.R_drew)); exact HO_8.out⟩, ⟨by (with_reducible repeat (first | refine blk_drewN ?_ _ | refine blk_drew ?_ | refine blk_alloc ?_ _)); exact BK225.out⟩, ⟨by repeat (first | (with_reducible first | exact HB.out | apply below_alloc | apply pw_below_drewN | apply below_drew1 | refine below_set ?_ GE225.out | refine below_set ?_ GE233.out) | exact HB.out)⟩⟩
              ·rw [if_neg c33] at H
               exact absurd H (by simp)
             ·rw [if_neg c32] at H
              exact absurd H (by simp)
            ·replace c31 := Bool.eq_false_iff.mpr c31
             subst c31
             have H1 : (impl_StepAuto.l0 k2 l1 a2 x8_2 l0_2 (l0_2.length : Int) (wrap64 (x32_2 + 1))) = some (r1, r2) := by rw [if_neg (show ¬ (false = true) by decide)] at H; exact H
             clear H
             have H := H1
             clear H1
             have H' := am_ H
             clear H
             have p232 : 0 ≤ (x32_2 : Int) := of_decide_eq_true (by first | (with_reducible assumption) | assumption)
             have q232 : x32_2 < (l0_2.length : Int) := of_decide_eq_true (by first | (with_reducible assumption) | assumption)
             obtain ⟨ad232, e232, hx232_0, hx232_1, hx232_2⟩ := at_T51 HR0_2.out x32_2 p232 q232
             cases e232
             (try replace hx232_0 := (HB.out.cell (World.block_lt_of_cell? w _ hx232_0)).trans hx232_0)
             (try replace hx232_1 := (HB.out.cell (World.block_lt_of_cell? w _ hx232_1)).trans hx232_1)
             (try replace hx232_2 := (HB.out.cell (World.block_lt_of_cell? w _ hx232_2)).trans hx232_2)
             replace p232 := eq_true p232
             replace q232 := eq_true q232
             go_wp2_with (first | ((with_reducible refine gate_dst (N := 10) rfl ?_); refine Sh.bx (N := 10) (cs := #[.int .i64 0, .int .i64 0, .int .i64 0]) (t := 51) (h := ?_); intro gb233 hg w42 hbox hb; have n0_ := am_ (Kd.R_below (by (with_reducible repeat (first | apply Kd.R_alloc | apply Kd.R_drewN | apply Kd.R_drew)); exact HO_8.out) hb); have n1_ := am_ (Sh.bb BK225.out hb); have n2_ := am_ (below_step Sh.bw hb); have n3_ := am_ (hbox); have n4_ := am_ (Sh.gw (w := w) hg); have n5_ := am_ (Sh.gw (w := w) hg); have n6_ := am_ (Sh.nl hg BK225.out); have n7_ := am_ (Sh.ng hg BK225.out); clear HO_8; clear BK225; clear HB; have HO_8 := n0_; have BK225 := n1_; have HB := n2_; have BK233 := n3_; have GW233 := n4_; have GE233 := n5_; have NB225_233 := n6_; have NB233_225 := n7_; clear n0_ n1_ n2_ n3_ n4_ n5_ n6_ n7_; clear hb hbox hg; have hnb43 := NB233_225.out; have hnc43 := NB225_233.out; have hcz44_0 := Sh.bc BK233.out 0; have hcz44_1 := Sh.bc BK233.out 1; have hcz44_2 := Sh.bc BK233.out 2; have hfz44_0 := blk_frozen BK233.out 0; have hfz44_1 := blk_frozen BK233.out 1; have hfz44_2 := blk_frozen BK233.out 2) | (go_at_call 26; (with_reducible refine (slices_Contains_int_int.calls k2 _ _ l1 ((rd_T51 l0_2 x32_2).f0) false _ ?side1 ?side2 A30.out).mono ?_); (case side1 => exact Kd.C_below HR1.out Sh.bw); (case side2 => exact HC1.out); rintro e w' ⟨rfl, ⟨nd, rfl⟩⟩))
             go_roundg k2
             case measure => have := HJ3.out; have := HK2.out; omega
             case rel => exact ⟨(x8_2), (wrap64 (x32_2 + 1)), (by first | rfl | (simp; done) | (simp [*]; done)), H', ⟨by have := HJ3.out; have := HK2.out; omega⟩, ⟨by (with_reducible repeat (first | apply Kd.R_alloc | apply Kd.R_drewN | apply Kd.R_drew)); exact Kd.R_mono (Kd.R_far (p := ⟨gb233, 2, none⟩) (Kd.R_far (p := ⟨gb233, 1, none⟩) (Kd.R_far (p := ⟨gb233, 0, none⟩) (Kd.R_types HO_8.out BK233.out (by decide)) (fun _ hk => hk.2) (.int .i64 ((rd_T51 l0_2 x32_2).f0))) (fun _ hk => hk.2) (.int .i64 ((rd_T51 l0_2 x32_2).f1))) (fun _ hk => hk.2) (.int .i64 ((rd_T51 l0_2 x32_2).f2))) (fun _ hk => trivial)⟩, ⟨by (with_reducible repeat (first | refine blk_drewN ?_ _ | refine blk_drew ?_ | refine blk_alloc ?_ _)); refine blk_far ?_ NB225_233.out _; (with_reducible repeat (first | refine blk_drewN ?_ _ | refine blk_drew ?_ | refine blk_alloc ?_ _)); refine blk_far ?_ NB225_233.out _; (with_reducible repeat (first | refine blk_drewN ?_ _ | refine blk_drew ?_ | refine blk_alloc ?_ _)); refine blk_far ?_ NB225_233.out _; (with_reducible repeat (first | refine blk_drewN ?_ _ | refine blk_drew ?_ | refine blk_alloc ?_ _)); exact BK225.out⟩, ⟨by repeat (first | (with_reducible first | exact HB.out | apply below_alloc | apply pw_below_drewN | apply below_drew1 | refine below_set ?_ GE225.out | refine below_set ?_ GE233.out) | exact HB.out)⟩⟩
           ·rw [if_neg c29] at H
            have c29b0 : (((rd_T51 l0_2 x32_2).f1) == a2) = false := beq_eq_false_iff_ne.mpr c29
            have c29b1 : (((rd_T51 l0_2 x32_2).f1) != a2) = true := bne_iff_ne.mpr c29
            have H' := am_ H
            clear H
            have p232 : 0 ≤ (x32_2 : Int) := of_decide_eq_true (by first | (with_reducible assumption) | assumption)
            have q232 : x32_2 < (l0_2.length : Int) := of_decide_eq_true (by first | (with_reducible assumption) | assumption)
            obtain ⟨ad232, e232, hx232_0, hx232_1, hx232_2⟩ := at_T51 HR0_2.out x32_2 p232 q232
            cases e232
            (try replace hx232_0 := (HB.out.cell (World.block_lt_of_cell? w _ hx232_0)).trans hx232_0)
            (try replace hx232_1 := (HB.out.cell (World.block_lt_of_cell? w _ hx232_1)).trans hx232_1)
            (try replace hx232_2 := (HB.out.cell (World.block_lt_of_cell? w _ hx232_2)).trans hx232_2)
            replace p232 := eq_true p232
            replace q232 := eq_true q232
            go_wp2_with (first | ((with_reducible refine gate_dst (N := 10) rfl ?_); refine Sh.bx (N := 10) (cs := #[.int .i64 0, .int .i64 0, .int .i64 0]) (t := 51) (h := ?_); intro gb233 hg w45 hbox hb; have n0_ := am_ (Kd.R_below (by (with_reducible repeat (first | apply Kd.R_alloc | apply Kd.R_drewN | apply Kd.R_drew)); exact HO_8.out) hb); have n1_ := am_ (Sh.bb BK225.out hb); have n2_ := am_ (below_step Sh.bw hb); have n3_ := am_ (hbox); have n4_ := am_ (Sh.gw (w := w) hg); have n5_ := am_ (Sh.gw (w := w) hg); have n6_ := am_ (Sh.nl hg BK225.out); have n7_ := am_ (Sh.ng hg BK225.out); clear HO_8; clear BK225; clear HB; have HO_8 := n0_; have BK225 := n1_; have HB := n2_; have BK233 := n3_; have GW233 := n4_; have GE233 := n5_; have NB225_233 := n6_; have NB233_225 := n7_; clear n0_ n1_ n2_ n3_ n4_ n5_ n6_ n7_; clear hb hbox hg; have hnb46 := NB233_225.out; have hnc46 := NB225_233.out; have hcz47_0 := Sh.bc BK233.out 0; have hcz47_1 := Sh.bc BK233.out 1; have hcz47_2 := Sh.bc BK233.out 2; have hfz47_0 := blk_frozen BK233.out 0; have hfz47_1 := blk_frozen BK233.out 1; have hfz47_2 := blk_frozen BK233.out 2))
            go_roundg k2
            case measure => have := HJ3.out; have := HK2.out; omega
            case rel => exact ⟨(x8_2), (wrap64 (x32_2 + 1)), (by first | rfl | (simp; done) | (simp [*]; done)), H', ⟨by have := HJ3.out; have := HK2.out; omega⟩, ⟨by (with_reducible repeat (first | apply Kd.R_alloc | apply Kd.R_drewN | apply Kd.R_drew)); exact Kd.R_mono (Kd.R_far (p := ⟨gb233, 2, none⟩) (Kd.R_far (p := ⟨gb233, 1, none⟩) (Kd.R_far (p := ⟨gb233, 0, none⟩) (Kd.R_types HO_8.out BK233.out (by decide)) (fun _ hk => hk.2) (.int .i64 ((rd_T51 l0_2 x32_2).f0))) (fun _ hk => hk.2) (.int .i64 ((rd_T51 l0_2 x32_2).f1))) (fun _ hk => hk.2) (.int .i64 ((rd_T51 l0_2 x32_2).f2))) (fun _ hk => trivial)⟩, ⟨by (with_reducible repeat (first | refine blk_drewN ?_ _ | refine blk_drew ?_ | refine blk_alloc ?_ _)); refine blk_far ?_ NB225_233.out _; (with_reducible repeat (first | refine blk_drewN ?_ _ | refine blk_drew ?_ | refine blk_alloc ?_ _)); refine blk_far ?_ NB225_233.out _; (with_reducible repeat (first | refine blk_drewN ?_ _ | refine blk_drew ?_ | refine blk_alloc ?_ _)); refine blk_far ?_ NB225_233.out _; (with_reducible repeat (first | refine blk_drewN ?_ _ | refine blk_drew ?_ | refine blk_alloc ?_ _)); exact BK225.out⟩, ⟨by repeat (first | (with_reducible first | exact HB.out | apply below_alloc | apply pw_below_drewN | apply below_drew1 | refine below_set ?_ GE225.out | refine below_set ?_ GE233.out) | exact HB.out)⟩⟩
          ·rw [if_neg c28] at H
           exact absurd H (by simp)
         ·rw [if_neg c27] at H
          exact absurd H (by simp)
        ·rw [if_neg c26] at H
         have c26b0 : decide (x32_2 < (l0_2.length : Int)) = false := decide_eq_false c26
         clear c26
         replace H := Option.bind_eq_some_iff.mp H
         obtain ⟨t236, A480, H⟩ := H
         replace H : (some (t236, true)) = some (r1, r2) := H
         have A48 := am_ A480
         clear A480
         simp only [Option.some.injEq, Prod.mk.injEq] at H
         obtain ⟨rfl, rfl⟩ := H
         obtain ⟨Ao49, co49, eo49⟩ := Kd.R_slice HO_8.out
         subst eo49
         go_wp2_with (first | ((with_reducible refine gate_callee (f := 27) rfl ?_); refine Sh.gL (some 52) Try.func27 #[.slice Ao49 x8_2.length co49] (h := ?_); (with_reducible refine (impl_marked.calls k2 _ _ x8_2 t236 _ (Sh.cR (Kd.R_reads' HO_8.out).2.2) (Kd.R_reads' HO_8.out).2.1 A48.out).mono ?_); rintro e w50 ⟨v237, rfl, ho0, hb⟩; refine ⟨_, rfl, ?_⟩; have n0_ := am_ (Kd.R_below (by (with_reducible repeat (first | apply Kd.R_alloc | apply Kd.R_drewN | apply Kd.R_drew)); exact HO_8.out) hb); have n1_ := am_ (Kd.R_lower ho0 (below_size Sh.bw)); have n2_ := am_ (Sh.bb BK225.out hb); have n3_ := am_ (below_step Sh.bw hb); clear HO_8; clear BK225; clear HB; have HO_8 := n0_; have HO238 := n1_; have BK225 := n2_; have HB := n3_; clear n0_ n1_ n2_ n3_; (try clear hb); (try clear hb2); (try clear hk); (try clear hi); (try clear ho0)))
         go_ret2
         exact ⟨_, Sh.eR, by (with_reducible repeat (first | apply Kd.R_alloc | apply Kd.R_drewN | apply Kd.R_drew)); exact HO238.out, Sh.bw⟩
     ·rw [if_neg c21] at H
      exact absurd H (by simp)
    ·rw [if_neg c20] at H
     exact absurd H (by simp)

end Go.Proofs.Ytijgdncmancolaa.P
namespace Go.Proofs.Ytijgdncmancolaa.P
open Go.RowKit Go.Proofs.YtijgdncmancolaaW.PrintWords Go.Proofs.YtijgdncmancolaaW.PrintLast Go.Proofs.YtijgdncmancolaaW.PrintMore Go.Proofs.Ytijgdncmancolaa.Hof
attribute [local go_sem] max2_int min2_int max_two min_two max_three min_three max_four min_four   -- for this text's walks alone
set_option linter.unusedVariables false
set_option linter.unusedSimpArgs false

/-! ### laws_eqIntS: function 9 -/
def laws_eqIntS.l0 : Nat → List Int → List Int → Int → Option (Bool)
 | 0, _, _, _ => none
 | k + 1, x0, x1, x5 => if x5 < (x0.length : Int) then (if 0 ≤ x5 then (if x5 < (x1.length : Int) then (if (rd x0 x5) = (rd x1 x5) then (laws_eqIntS.l0 k x0 x1 (wrap64 (x5 + 1))) else (some false)) else (none)) else (none)) else (some true)
def laws_eqIntS.f (k : Nat) (l0 : List Int) (l1 : List Int) : Option (Bool) := if (l0.length : Int) = (l1.length : Int) then (laws_eqIntS.l0 k l0 l1 0) else (some false)
theorem laws_eqIntS.mono_l : ∀ k, (∀ y0 y1 y2, LeO (laws_eqIntS.l0 k y0 y1 y2) (laws_eqIntS.l0 (k + 1) y0 y1 y2))
 | 0 => fun _ _ _ r h => by simp [laws_eqIntS.l0] at h
 | k + 1 => by
  have ih0 := laws_eqIntS.mono_l k
  ·intro y0 y1 y2
   unfold laws_eqIntS.l0
   repeat' first
   | (with_reducible exact ih0 _ _ _)
   | (with_reducible exact LeO.refl _)
   | (with_reducible exact LeO.none _)
   | (with_reducible refine LeO.ite ?_ ?_)
   | (with_reducible refine LeO.bind ?_ (fun _ => ?_))
   | exact ih0 _ _ _
   | exact LeO.none _
   | refine LeO.ite ?_ ?_
   | refine LeO.bind ?_ (fun _ => ?_)
theorem laws_eqIntS.mono : ∀ a0 a1 k, LeO (laws_eqIntS.f k a0 a1) (laws_eqIntS.f (k + 1) a0 a1) := by
 intro a0 a1 k
 have ih0 := laws_eqIntS.mono_l k
 unfold laws_eqIntS.f
 repeat' first
   | (with_reducible exact ih0 _ _ _)
   | (with_reducible exact LeO.refl _)
   | (with_reducible exact LeO.none _)
   | (with_reducible refine LeO.ite ?_ ?_)
   | (with_reducible refine LeO.bind ?_ (fun _ => ?_))
   | exact ih0 _ _ _
   | exact LeO.none _
   | refine LeO.ite ?_ ?_
   | refine LeO.bind ?_ (fun _ => ?_)
set_option maxHeartbeats 8000000 in
set_option maxRecDepth 100000 in
theorem laws_eqIntS.calls (k : Nat) (A0 : Option Addr) (c0 : Nat) (l0 : List Int) (A1 : Option Addr) (c1 : Nat) (l1 : List Int) (r : Bool) (w : World) (hr0 : Kd.C (Kd.int .i64) w A0 l0.length l0) (hc0 : l0.length ≤ c0) (hr1 : Kd.C (Kd.int .i64) w A1 l1.length l1) (hc1 : l1.length ≤ c1) (h : laws_eqIntS.f k l0 l1 = some r) :
  Calls Try.prog 9 #[.slice A0 l0.length c0, .slice A1 l1.length c1] w fun e w' => e = .returned (.bool r) ∧ Drawn0 w w' := by
 have HR0 := am_ hr0
 have HC0 := am_ hc0
 clear hr0 hc0
 have HR1 := am_ hr1
 have HC1 := am_ hc1
 clear hr1 hc1
 have H : (if (l0.length : Int) = (l1.length : Int) then (laws_eqIntS.l0 k l0 l1 0) else (some false)) = some r := h
 clear h
 by_cases c3 : (l0.length : Int) = (l1.length : Int)
 ·rw [if_pos c3] at H
  have c3b0 : ((l0.length : Int) == (l1.length : Int)) = true := beq_iff_eq.mpr c3
  have c3b1 : ((l0.length : Int) != (l1.length : Int)) = false := bne_eq_false_iff_eq.mpr c3
  have c3b2 : (l0.length == l1.length) = true := by first | simpa using c3 | (simp at c3 ⊢; omega)
  clear c3
  have H' := am_ H
  clear H
  go_enter Try.func9, Try.ntmps9
  go_wp2
  repeat (go_quiet (fail); try go_wp2)
  go_loopg [5] k (fun kq v5 w' => ∃ (x5_1 : Int), v5 = .int .i64 x5_1 ∧ Aside0 (laws_eqIntS.l0 kq l0 l1 x5_1 = some r) ∧ Aside0 (kq ≤ k) ∧ Drawn0 w w')
  case atStart => exact ⟨(0), (by first | rfl | (simp; done) | (simp [*]; done)), H', ⟨Nat.le_refl _⟩, by repeat (first | exact Drawn0.refl _ | apply Drawn0.step)⟩
  case round =>
   clear H'
   try clear c1
   try clear p2
   try clear c3
   try clear c3b0
   try clear c3b1
   try clear c3b2
   obtain ⟨x5_1, rfl, HA, HK1, ⟨m1, rfl⟩⟩ := hrel
   cases gk with
   | zero => exact absurd HA.out (by simp [laws_eqIntS.l0])
   | succ k1 =>
    have H := HA.out
    clear HA
    simp only [laws_eqIntS.l0] at H
    by_cases c4 : x5_1 < (l0.length : Int)
    ·rw [if_pos c4] at H
     have c4b0 : decide (x5_1 < (l0.length : Int)) = true := decide_eq_true c4
     clear c4
     by_cases c5 : 0 ≤ x5_1
     ·rw [if_pos c5] at H
      have c5b0 : decide (0 ≤ x5_1) = true := decide_eq_true c5
      clear c5
      by_cases c6 : x5_1 < (l1.length : Int)
      ·rw [if_pos c6] at H
       have c6b0 : decide (x5_1 < (l1.length : Int)) = true := decide_eq_true c6
       clear c6
       by_cases c7 : (rd l0 x5_1) = (rd l1 x5_1)
       ·rw [if_pos c7] at H
        have c7b0 : ((rd l0 x5_1) == (rd l1 x5_1)) = true := beq_iff_eq.mpr c7
        have c7b1 : ((rd l0 x5_1) != (rd l1 x5_1)) = false := bne_eq_false_iff_eq.mpr c7
        clear c7
        have H' := am_ H
        clear H
        have p239 : 0 ≤ (x5_1 : Int) := of_decide_eq_true (by first | (with_reducible assumption) | assumption)
        have q239 : x5_1 < (l0.length : Int) := of_decide_eq_true (by first | (with_reducible assumption) | assumption)
        obtain ⟨ad239, e239, hx239_0⟩ := Kd.at_int HR0.out x5_1 p239 q239
        cases e239
        replace p239 := eq_true p239
        replace q239 := eq_true q239
        have p240 : 0 ≤ (x5_1 : Int) := of_decide_eq_true (by first | (with_reducible assumption) | assumption)
        have q240 : x5_1 < (l1.length : Int) := of_decide_eq_true (by first | (with_reducible assumption) | assumption)
        obtain ⟨ad240, e240, hx240_0⟩ := Kd.at_int HR1.out x5_1 p240 q240
        cases e240
        replace p240 := eq_true p240
        replace q240 := eq_true q240
        go_wp2
        repeat (go_quiet (fail); try go_wp2)
        go_roundg k1
        case measure => have := HK1.out; omega
        case rel => exact ⟨(wrap64 (x5_1 + 1)), (by first | rfl | (simp; done) | (simp [*]; done)), H', ⟨by have := HK1.out; omega⟩, by repeat (first | exact Drawn0.refl _ | apply Drawn0.step)⟩
       ·rw [if_neg c7] at H
        have c7b0 : ((rd l0 x5_1) == (rd l1 x5_1)) = false := beq_eq_false_iff_ne.mpr c7
        have c7b1 : ((rd l0 x5_1) != (rd l1 x5_1)) = true := bne_iff_ne.mpr c7
        obtain rfl := Option.some.inj H
        have p239 : 0 ≤ (x5_1 : Int) := of_decide_eq_true (by first | (with_reducible assumption) | assumption)
        have q239 : x5_1 < (l0.length : Int) := of_decide_eq_true (by first | (with_reducible assumption) | assumption)
        obtain ⟨ad239, e239, hx239_0⟩ := Kd.at_int HR0.out x5_1 p239 q239
        cases e239
        replace p239 := eq_true p239
        replace q239 := eq_true q239
        have p240 : 0 ≤ (x5_1 : Int) := of_decide_eq_true (by first | (with_reducible assumption) | assumption)
        have q240 : x5_1 < (l1.length : Int) := of_decide_eq_true (by first | (with_reducible assumption) | assumption)
        obtain ⟨ad240, e240, hx240_0⟩ := Kd.at_int HR1.out x5_1 p240 q240
        cases e240
        replace p240 := eq_true p240
        replace q240 := eq_true q240
        go_wp2
        repeat (go_quiet (fail); try go_wp2)
        go_ret
        exact ⟨by first | rfl | (simp; done) | (simp [*]; done), by repeat (first | exact Drawn0.refl _ | apply Drawn0.step)⟩
      ·rw [if_neg c6] at H
       exact absurd H (by simp)
     ·rw [if_neg c5] at H
      exact absurd H (by simp)
    ·rw [if_neg c4] at H
     have c4b0 : decide (x5_1 < (l0.length : Int)) = false := decide_eq_false c4
     clear c4
     obtain rfl := Option.some.inj H
     go_wp2
     repeat (go_quiet (fail); try go_wp2)
     go_ret
     exact ⟨by first | rfl | (simp; done) | (simp [*]; done), by repeat (first | exact Drawn0.refl _ | apply Drawn0.step)⟩
 ·rw [if_neg c3] at H
  have c3b0 : ((l0.length : Int) == (l1.length : Int)) = false := beq_eq_false_iff_ne.mpr c3
  have c3b1 : ((l0.length : Int) != (l1.length : Int)) = true := bne_iff_ne.mpr c3
  have c3b2 : (l0.length == l1.length) = false := by first | simpa using c3 | (simp at c3 ⊢; omega)
  obtain rfl := Option.some.inj H
  go_enter Try.func9, Try.ntmps9
  go_wp2
  repeat (go_quiet (fail); try go_wp2)
  go_ret
  exact ⟨by first | rfl | (simp; done) | (simp [*]; done), by repeat (first | exact Drawn0.refl _ | apply Drawn0.step)⟩

end Go.Proofs.Ytijgdncmancolaa.P
namespace Go.Proofs.Ytijgdncmancolaa.P
open Go.RowKit Go.Proofs.YtijgdncmancolaaW.PrintWords Go.Proofs.YtijgdncmancolaaW.PrintLast Go.Proofs.YtijgdncmancolaaW.PrintMore Go.Proofs.Ytijgdncmancolaa.Hof
attribute [local go_sem] max2_int min2_int max_two min_two max_three min_three max_four min_four   -- for this text's walks alone
set_option linter.unusedVariables false
set_option linter.unusedSimpArgs false

/-! ### laws_eqEdge: function 41 -/
def laws_eqEdge.f (a0_0 : Int) (a0_1 : Int) (a0_2 : Int) (a1_0 : Int) (a1_1 : Int) (a1_2 : Int) : Option (Bool) := if a0_0 = a1_0 then (if a0_1 = a1_1 then (if a0_2 = a1_2 then (some true) else (some false)) else (some false)) else (some false)
set_option maxHeartbeats 8000000 in
set_option maxRecDepth 100000 in
theorem laws_eqEdge.calls (a0_0 : Int) (a0_1 : Int) (a0_2 : Int) (a1_0 : Int) (a1_1 : Int) (a1_2 : Int) (r : Bool) (w : World) (h : laws_eqEdge.f a0_0 a0_1 a0_2 a1_0 a1_1 a1_2 = some r) :
  Calls Try.prog 41 #[.agg #[.int .i64 a0_0, .int .i64 a0_1, .int .i64 a0_2], .agg #[.int .i64 a1_0, .int .i64 a1_1, .int .i64 a1_2]] w fun e w' => e = .returned (.bool r) ∧ Below w.heap.size w w' := by
 have hu51 := Try.underlying51
 have HB := am_ (Below.refl w.heap.size w)
 have H : (if a0_0 = a1_0 then (if a0_1 = a1_1 then (if a0_2 = a1_2 then (some true) else (some false)) else (some false)) else (some false)) = some r := h
 clear h
 by_cases c3 : a0_0 = a1_0
 ·rw [if_pos c3] at H
  have c3b0 : (a0_0 == a1_0) = true := beq_iff_eq.mpr c3
  have c3b1 : (a0_0 != a1_0) = false := bne_eq_false_iff_eq.mpr c3
  clear c3
  by_cases c4 : a0_1 = a1_1
  ·rw [if_pos c4] at H
   have c4b0 : (a0_1 == a1_1) = true := beq_iff_eq.mpr c4
   have c4b1 : (a0_1 != a1_1) = false := bne_eq_false_iff_eq.mpr c4
   clear c4
   by_cases c5 : a0_2 = a1_2
   ·rw [if_pos c5] at H
    have c5b0 : (a0_2 == a1_2) = true := beq_iff_eq.mpr c5
    have c5b1 : (a0_2 != a1_2) = false := bne_eq_false_iff_eq.mpr c5
    clear c5
    obtain rfl := Option.some.inj H
    go_enter Try.func41, Try.ntmps41
    go_wp2_with (first | ((with_reducible refine gate_dst (N := 2) rfl ?_); refine Sh.bx (N := 2) (cs := #[.int .i64 a0_0, .int .i64 a0_1, .int .i64 a0_2]) (t := 51) (h := ?_); intro gb241 hg w6 hbox hb; have n0_ := am_ (below_step Sh.bw hb); have n1_ := am_ (hbox); have n2_ := am_ (Sh.gw (w := w) hg); have n3_ := am_ (Sh.gw (w := w) hg); clear HB; have HB := n0_; have BK241 := n1_; have GW241 := n2_; have GE241 := n3_; clear n0_ n1_ n2_ n3_; clear hb hbox hg) | ((with_reducible refine gate_dst (N := 3) rfl ?_); refine Sh.bx (N := 3) (cs := #[.int .i64 a1_0, .int .i64 a1_1, .int .i64 a1_2]) (t := 51) (h := ?_); intro gb242 hg w7 hbox hb; have n0_ := am_ (Sh.bb BK241.out hb); have n1_ := am_ (below_step Sh.bw hb); have n2_ := am_ (hbox); have n3_ := am_ (Sh.gw (w := w) hg); have n4_ := am_ (Sh.gw (w := w) hg); have n5_ := am_ (Sh.nl hg BK241.out); have n6_ := am_ (Sh.ng hg BK241.out); clear BK241; clear HB; have BK241 := n0_; have HB := n1_; have BK242 := n2_; have GW242 := n3_; have GE242 := n4_; have NB241_242 := n5_; have NB242_241 := n6_; clear n0_ n1_ n2_ n3_ n4_ n5_ n6_; clear hb hbox hg; have hnb8 := NB241_242.out; have hnc8 := NB242_241.out; have hcz9_0 := Sh.bc BK241.out 0; have hcz9_1 := Sh.bc BK241.out 1; have hcz9_2 := Sh.bc BK241.out 2; have hfz9_0 := blk_frozen BK241.out 0; have hfz9_1 := blk_frozen BK241.out 1; have hfz9_2 := blk_frozen BK241.out 2; have hcz10_0 := Sh.bc BK242.out 0; have hcz10_1 := Sh.bc BK242.out 1; have hcz10_2 := Sh.bc BK242.out 2; have hfz10_0 := blk_frozen BK242.out 0; have hfz10_1 := blk_frozen BK242.out 1; have hfz10_2 := blk_frozen BK242.out 2))
    go_ret
    exact ⟨Sh.eR, Sh.bw⟩
   ·rw [if_neg c5] at H
    have c5b0 : (a0_2 == a1_2) = false := beq_eq_false_iff_ne.mpr c5
    have c5b1 : (a0_2 != a1_2) = true := bne_iff_ne.mpr c5
    obtain rfl := Option.some.inj H
    go_enter Try.func41, Try.ntmps41
    go_wp2_with (first | ((with_reducible refine gate_dst (N := 2) rfl ?_); refine Sh.bx (N := 2) (cs := #[.int .i64 a0_0, .int .i64 a0_1, .int .i64 a0_2]) (t := 51) (h := ?_); intro gb241 hg w11 hbox hb; have n0_ := am_ (below_step Sh.bw hb); have n1_ := am_ (hbox); have n2_ := am_ (Sh.gw (w := w) hg); have n3_ := am_ (Sh.gw (w := w) hg); clear HB; have HB := n0_; have BK241 := n1_; have GW241 := n2_; have GE241 := n3_; clear n0_ n1_ n2_ n3_; clear hb hbox hg) | ((with_reducible refine gate_dst (N := 3) rfl ?_); refine Sh.bx (N := 3) (cs := #[.int .i64 a1_0, .int .i64 a1_1, .int .i64 a1_2]) (t := 51) (h := ?_); intro gb242 hg w12 hbox hb; have n0_ := am_ (Sh.bb BK241.out hb); have n1_ := am_ (below_step Sh.bw hb); have n2_ := am_ (hbox); have n3_ := am_ (Sh.gw (w := w) hg); have n4_ := am_ (Sh.gw (w := w) hg); have n5_ := am_ (Sh.nl hg BK241.out); have n6_ := am_ (Sh.ng hg BK241.out); clear BK241; clear HB; have BK241 := n0_; have HB := n1_; have BK242 := n2_; have GW242 := n3_; have GE242 := n4_; have NB241_242 := n5_; have NB242_241 := n6_; clear n0_ n1_ n2_ n3_ n4_ n5_ n6_; clear hb hbox hg; have hnb13 := NB241_242.out; have hnc13 := NB242_241.out; have hcz14_0 := Sh.bc BK241.out 0; have hcz14_1 := Sh.bc BK241.out 1; have hcz14_2 := Sh.bc BK241.out 2; have hfz14_0 := blk_frozen BK241.out 0; have hfz14_1 := blk_frozen BK241.out 1; have hfz14_2 := blk_frozen BK241.out 2; have hcz15_0 := Sh.bc BK242.out 0; have hcz15_1 := Sh.bc BK242.out 1; have hcz15_2 := Sh.bc BK242.out 2; have hfz15_0 := blk_frozen BK242.out 0; have hfz15_1 := blk_frozen BK242.out 1; have hfz15_2 := blk_frozen BK242.out 2))
    go_ret
    exact ⟨Sh.eR, Sh.bw⟩
  ·rw [if_neg c4] at H
   have c4b0 : (a0_1 == a1_1) = false := beq_eq_false_iff_ne.mpr c4
   have c4b1 : (a0_1 != a1_1) = true := bne_iff_ne.mpr c4
   obtain rfl := Option.some.inj H
   go_enter Try.func41, Try.ntmps41
   go_wp2_with (first | ((with_reducible refine gate_dst (N := 2) rfl ?_); refine Sh.bx (N := 2) (cs := #[.int .i64 a0_0, .int .i64 a0_1, .int .i64 a0_2]) (t := 51) (h := ?_); intro gb241 hg w16 hbox hb; have n0_ := am_ (below_step Sh.bw hb); have n1_ := am_ (hbox); have n2_ := am_ (Sh.gw (w := w) hg); have n3_ := am_ (Sh.gw (w := w) hg); clear HB; have HB := n0_; have BK241 := n1_; have GW241 := n2_; have GE241 := n3_; clear n0_ n1_ n2_ n3_; clear hb hbox hg) | ((with_reducible refine gate_dst (N := 3) rfl ?_); refine Sh.bx (N := 3) (cs := #[.int .i64 a1_0, .int .i64 a1_1, .int .i64 a1_2]) (t := 51) (h := ?_); intro gb242 hg w17 hbox hb; have n0_ := am_ (Sh.bb BK241.out hb); have n1_ := am_ (below_step Sh.bw hb); have n2_ := am_ (hbox); have n3_ := am_ (Sh.gw (w := w) hg); have n4_ := am_ (Sh.gw (w := w) hg); have n5_ := am_ (Sh.nl hg BK241.out); have n6_ := am_ (Sh.ng hg BK241.out); clear BK241; clear HB; have BK241 := n0_; have HB := n1_; have BK242 := n2_; have GW242 := n3_; have GE242 := n4_; have NB241_242 := n5_; have NB242_241 := n6_; clear n0_ n1_ n2_ n3_ n4_ n5_ n6_; clear hb hbox hg; have hnb18 := NB241_242.out; have hnc18 := NB242_241.out; have hcz19_0 := Sh.bc BK241.out 0; have hcz19_1 := Sh.bc BK241.out 1; have hcz19_2 := Sh.bc BK241.out 2; have hfz19_0 := blk_frozen BK241.out 0; have hfz19_1 := blk_frozen BK241.out 1; have hfz19_2 := blk_frozen BK241.out 2; have hcz20_0 := Sh.bc BK242.out 0; have hcz20_1 := Sh.bc BK242.out 1; have hcz20_2 := Sh.bc BK242.out 2; have hfz20_0 := blk_frozen BK242.out 0; have hfz20_1 := blk_frozen BK242.out 1; have hfz20_2 := blk_frozen BK242.out 2))
   go_ret
   exact ⟨Sh.eR, Sh.bw⟩
 ·rw [if_neg c3] at H
  have c3b0 : (a0_0 == a1_0) = false := beq_eq_false_iff_ne.mpr c3
  have c3b1 : (a0_0 != a1_0) = true := bne_iff_ne.mpr c3
  obtain rfl := Option.some.inj H
  go_enter Try.func41, Try.ntmps41
  go_wp2_with (first | ((with_reducible refine gate_dst (N := 2) rfl ?_); refine Sh.bx (N := 2) (cs := #[.int .i64 a0_0, .int .i64 a0_1, .int .i64 a0_2]) (t := 51) (h := ?_); intro gb241 hg w21 hbox hb; have n0_ := am_ (below_step Sh.bw hb); have n1_ := am_ (hbox); have n2_ := am_ (Sh.gw (w := w) hg); have n3_ := am_ (Sh.gw (w := w) hg); clear HB; have HB := n0_; have BK241 := n1_; have GW241 := n2_; have GE241 := n3_; clear n0_ n1_ n2_ n3_; clear hb hbox hg) | ((with_reducible refine gate_dst (N := 3) rfl ?_); refine Sh.bx (N := 3) (cs := #[.int .i64 a1_0, .int .i64 a1_1, .int .i64 a1_2]) (t := 51) (h := ?_); intro gb242 hg w22 hbox hb; have n0_ := am_ (Sh.bb BK241.out hb); have n1_ := am_ (below_step Sh.bw hb); have n2_ := am_ (hbox); have n3_ := am_ (Sh.gw (w := w) hg); have n4_ := am_ (Sh.gw (w := w) hg); have n5_ := am_ (Sh.nl hg BK241.out); have n6_ := am_ (Sh.ng hg BK241.out); clear BK241; clear HB; have BK241 := n0_; have HB := n1_; have BK242 := n2_; have GW242 := n3_; have GE242 := n4_; have NB241_242 := n5_; have NB242_241 := n6_; clear n0_ n1_ n2_ n3_ n4_ n5_ n6_; clear hb hbox hg; have hnb23 := NB241_242.out; have hnc23 := NB242_241.out; have hcz24_0 := Sh.bc BK241.out 0; have hcz24_1 := Sh.bc BK241.out 1; have hcz24_2 := Sh.bc BK241.out 2; have hfz24_0 := blk_frozen BK241.out 0; have hfz24_1 := blk_frozen BK241.out 1; have hfz24_2 := blk_frozen BK241.out 2; have hcz25_0 := Sh.bc BK242.out 0; have hcz25_1 := Sh.bc BK242.out 1; have hcz25_2 := Sh.bc BK242.out 2; have hfz25_0 := blk_frozen BK242.out 0; have hfz25_1 := blk_frozen BK242.out 1; have hfz25_2 := blk_frozen BK242.out 2))
  go_ret
  exact ⟨Sh.eR, Sh.bw⟩

end Go.Proofs.Ytijgdncmancolaa.P
