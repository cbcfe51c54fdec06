/- Go functions of this seat as Lean functions, and the proofs that the calls come to what these say; printed by a program of this session. No condition. -/
import Derived.Test.YtbgbidgnlioomaaP0
import Derived.Test.YtbgbidgnlioomaaMFnExactGoodAuto2
namespace Go.Proofs.Ytbgbidgnlioomaa.P
open Go.RowKit Go.Proofs.YtbgbidgnlioomaaW.PrintWords Go.Proofs.YtbgbidgnlioomaaW.PrintLast Go.Proofs.YtbgbidgnlioomaaW.PrintMore Go.Proofs.Ytbgbidgnlioomaa.Hof
attribute [local go_sem] max2_int min2_int max_two min_two max_three min_three max_four min_four   -- for this text's walks alone
set_option linter.unusedVariables false
set_option linter.unusedSimpArgs false

/-! ### impl_GoodAuto: function 45 -/
mutual
def impl_GoodAuto.j0 : Nat → Bool → Int → List Int → List (S113) → List (List Int) → Option (Bool)
 | 0, _, _, _, _, _ => none
 | k + 1, x34, x180000, x180001, x180002, x180003 => if x34 = true then (some false) else (impl_GoodAuto.l0 k x180002 (x180002.length : Int) 0 x180000 x180001 x180002 x180003)
def impl_GoodAuto.l0 : Nat → List (S113) → Int → Int → Int → List Int → List (S113) → List (List Int) → Option (Bool)
 | 0, _, _, _, _, _, _, _ => none
 | k + 1, x36, x37, x38, x180000, x180001, x180002, x180003 => if x38 < x37 then (if 0 ≤ x38 then (if x38 < (x36.length : Int) then (if ((rd_T113 x36 x38).f0) < 0 then (some false) else (if ((rd_T113 x36 x38).f0) ≥ x180000 then (some false) else (if ((rd_T113 x36 x38).f2) < 0 then (some false) else (if ((rd_T113 x36 x38).f2) ≥ x180000 then (some false) else (if ((rd_T113 x36 x38).f1) < 0 then (some false) else (if ((rd_T113 x36 x38).f1) ≥ 8 then (some false) else (if x38 > 0 then (if 0 ≤ (wrap64 (x38 - 1)) then (if (wrap64 (x38 - 1)) < (x180002.length : Int) then ((impl_compareEdges.f k ((rd_T113 x180002 (wrap64 (x38 - 1))).f0) ((rd_T113 x180002 (wrap64 (x38 - 1))).f1) ((rd_T113 x180002 (wrap64 (x38 - 1))).f2) ((rd_T113 x36 x38).f0) ((rd_T113 x36 x38).f1) ((rd_T113 x36 x38).f2)).bind fun t185 => (if t185 ≥ 0 then (some false) else (impl_GoodAuto.l0 k x36 x37 (wrap64 (x38 + 1)) x180000 x180001 x180002 x180003))) else (none)) else (none)) else (impl_GoodAuto.l0 k x36 x37 (wrap64 (x38 + 1)) x180000 x180001 x180002 x180003)))))))) else (none)) else (none)) else (some true)
end
def impl_GoodAuto.f (k : Nat) (a0_0 : Int) (l0_1 : List Int) (l0_2 : List (S113)) (l0_3 : List (List Int)) : Option (Bool) := if a0_0 < 1 then (impl_GoodAuto.j0 k true a0_0 l0_1 l0_2 l0_3) else (if a0_0 > 96 then (impl_GoodAuto.j0 k true a0_0 l0_1 l0_2 l0_3) else ((impl_isIncreasing.f k l0_1 a0_0).bind fun t180 => (if t180 = true then (if (l0_2.length : Int) > 2400 then (impl_GoodAuto.j0 k true a0_0 l0_1 l0_2 l0_3) else ((impl_areGoals.f k l0_3 a0_0).bind fun t181 => (impl_GoodAuto.j0 k (!t181) a0_0 l0_1 l0_2 l0_3))) else (impl_GoodAuto.j0 k true a0_0 l0_1 l0_2 l0_3))))
theorem impl_GoodAuto.mono_l : ∀ k, (∀ y0 y1 y2 y3 y4, LeO (impl_GoodAuto.j0 k y0 y1 y2 y3 y4) (impl_GoodAuto.j0 (k + 1) y0 y1 y2 y3 y4)) ∧ (∀ y0 y1 y2 y3 y4 y5 y6, LeO (impl_GoodAuto.l0 k y0 y1 y2 y3 y4 y5 y6) (impl_GoodAuto.l0 (k + 1) y0 y1 y2 y3 y4 y5 y6))
 | 0 => ⟨fun _ _ _ _ _ r h => by simp [impl_GoodAuto.j0] at h, fun _ _ _ _ _ _ _ r h => by simp [impl_GoodAuto.l0] at h⟩
 | k + 1 => by
  obtain ⟨ih0, ih1⟩ := impl_GoodAuto.mono_l k
  refine ⟨?_, ?_⟩
  ·intro y0 y1 y2 y3 y4
   unfold impl_GoodAuto.j0
   repeat' first
   | (with_reducible exact ih0 _ _ _ _ _)
   | (with_reducible exact ih1 _ _ _ _ _ _ _)
   | (with_reducible exact impl_areGoals.mono _ _ _)
   | (with_reducible exact impl_compareEdges.mono _ _ _ _ _ _ _)
   | (with_reducible exact impl_isIncreasing.mono _ _ _)
   | (with_reducible exact LeO.refl _)
   | (with_reducible exact LeO.none _)
   | (with_reducible refine LeO.ite ?_ ?_)
   | (with_reducible refine LeO.bind ?_ (fun _ => ?_))
   | exact ih0 _ _ _ _ _
   | exact ih1 _ _ _ _ _ _ _
   | exact impl_areGoals.mono _ _ _
   | exact impl_compareEdges.mono _ _ _ _ _ _ _
   | exact impl_isIncreasing.mono _ _ _
   | exact LeO.none _
   | refine LeO.ite ?_ ?_
   | refine LeO.bind ?_ (fun _ => ?_)
  ·intro y0 y1 y2 y3 y4 y5 y6
   unfold impl_GoodAuto.l0
   repeat' first
   | (with_reducible exact ih0 _ _ _ _ _)
   | (with_reducible exact ih1 _ _ _ _ _ _ _)
   | (with_reducible exact impl_areGoals.mono _ _ _)
   | (with_reducible exact impl_compareEdges.mono _ _ _ _ _ _ _)
   | (with_reducible exact impl_isIncreasing.mono _ _ _)
   | (with_reducible exact LeO.refl _)
   | (with_reducible exact LeO.none _)
   | (with_reducible refine LeO.ite ?_ ?_)
   | (with_reducible refine LeO.bind ?_ (fun _ => ?_))
   | exact ih0 _ _ _ _ _
   | exact ih1 _ _ _ _ _ _ _
   | exact impl_areGoals.mono _ _ _
   | exact impl_compareEdges.mono _ _ _ _ _ _ _
   | exact impl_isIncreasing.mono _ _ _
   | exact LeO.none _
   | refine LeO.ite ?_ ?_
   | refine LeO.bind ?_ (fun _ => ?_)
theorem impl_GoodAuto.mono : ∀ a0 a1 a2 a3 k, LeO (impl_GoodAuto.f k a0 a1 a2 a3) (impl_GoodAuto.f (k + 1) a0 a1 a2 a3) := by
 intro a0 a1 a2 a3 k
 obtain ⟨ih0, ih1⟩ := impl_GoodAuto.mono_l k
 unfold impl_GoodAuto.f
 repeat' first
   | (with_reducible exact ih0 _ _ _ _ _)
   | (with_reducible exact ih1 _ _ _ _ _ _ _)
   | (with_reducible exact impl_areGoals.mono _ _ _)
   | (with_reducible exact impl_compareEdges.mono _ _ _ _ _ _ _)
   | (with_reducible exact impl_isIncreasing.mono _ _ _)
   | (with_reducible exact LeO.refl _)
   | (with_reducible exact LeO.none _)
   | (with_reducible refine LeO.ite ?_ ?_)
   | (with_reducible refine LeO.bind ?_ (fun _ => ?_))
   | exact ih0 _ _ _ _ _
   | exact ih1 _ _ _ _ _ _ _
   | exact impl_areGoals.mono _ _ _
   | exact impl_compareEdges.mono _ _ _ _ _ _ _
   | exact impl_isIncreasing.mono _ _ _
   | exact LeO.none _
   | refine LeO.ite ?_ ?_
   | refine LeO.bind ?_ (fun _ => ?_)
def impl_GoodAuto.T6 : Bool × List (List Nat × List Nat) := (true, [([], []), ([0], [0]), ([1], [1]), ([2], [2]), ([3], [3]), ([4, 3], [3, 4]), ([3], [3]), ([6, 3], [3, 6]), ([5, 7, 3], [3, 5, 7]), ([3, 8], [3, 8]), ([9, 3], [9]), ([10], [10]), ([11, 10], [10, 11]), ([12, 10], [10, 12]), ([10, 13], [10, 13]), ([14, 10], [14]), ([15], [15]), ([16, 15], [15, 16]), ([15], [15]), ([18, 15], [15, 18]), ([17, 19, 15], [15, 17, 19]), ([15, 20], [15, 20]), ([21, 15], [21]), ([22], [22]), ([23, 22], [22, 23]), ([24, 22], [22, 24]), ([22, 25], [22, 25]), ([26, 22], [26]), ([27], [27]), ([28, 27], [27, 28]), ([29, 27], [27, 29]), ([27, 30], [27, 30]), ([31, 27], [31]), ([32], [32]), ([33, 32], [32, 33]), ([34, 32, 32], [32, 34]), ([35], [35]), ([36, 35], [35, 36]), ([35], [35]), ([38, 35], [35, 38]), ([37, 39, 35], [35, 37, 39]), ([40, 35], [35, 40]), ([35], [35]), ([41, 42, 35, 35], [35, 41, 42]), ([43, 35], [35, 43]), ([35, 44, 32], [32, 35, 44]), ([32, 45], [32, 45])])
def impl_GoodAuto.B6 : List Nat := [0, 1, 3, 7, 15, 31, 15, 79, 255, 511, 1023, 2047, 4095, 8191, 16383, 32767, 65535, 131071, 65535, 327679, 1048575, 2097151, 4194303, 8388607, 16777215, 33554431, 67108863, 134217727, 268435455, 536870911, 1073741823, 2147483647, 4294967295, 8589934591, 17179869183, 34359738367, 68719476735, 137438953471, 68719476735, 343597383679, 1099511627775, 2199023255551, 68719476735, 8796093022207, 17592186044415, 35184372088831, 70368744177663]
theorem impl_GoodAuto.tab6 : rtab .any (opsOf Try.f45 6) = impl_GoodAuto.T6 := by kernel_rfl
theorem impl_GoodAuto.bits6 : waitsOk impl_GoodAuto.T6.2 impl_GoodAuto.B6 = true := by kernel_rfl
set_option maxHeartbeats 8000000 in
set_option maxRecDepth 100000 in
theorem impl_GoodAuto.calls (k : Nat) (a0_0 : Int) (A0_1 : Option Addr) (c0_1 : Nat) (l0_1 : List Int) (A0_2 : Option Addr) (c0_2 : Nat) (l0_2 : List (S113)) (A0_3 : Option Addr) (c0_3 : Nat) (l0_3 : List (List Int)) (r : Bool) (w : World) (hr0_1 : Kd.C (Kd.int .i64) w A0_1 l0_1.length l0_1) (hc0_1 : l0_1.length ≤ c0_1) (hr0_2 : Kd.C k113 w A0_2 l0_2.length l0_2) (hc0_2 : l0_2.length ≤ c0_2) (hr0_3 : Kd.C (Kd.slice 3 (Kd.int .i64)) w A0_3 l0_3.length l0_3) (hc0_3 : l0_3.length ≤ c0_3) (h : impl_GoodAuto.f k a0_0 l0_1 l0_2 l0_3 = some r) :
  Calls Try.prog 45 #[.agg #[.int .i64 a0_0, .slice A0_1 l0_1.length c0_1, .slice A0_2 l0_2.length c0_2, .slice A0_3 l0_3.length c0_3]] w fun e w' => e = .returned (.bool r) ∧ Below w.heap.size w w' := by
 have hu67 := Try.underlying67
 have hu113 := Try.underlying113
 have HR0_1 := am_ hr0_1
 have HC0_1 := am_ hc0_1
 clear hr0_1 hc0_1
 have HR0_2 := am_ hr0_2
 have HC0_2 := am_ hc0_2
 clear hr0_2 hc0_2
 have HR0_3 := am_ hr0_3
 have HC0_3 := am_ hc0_3
 clear hr0_3 hc0_3
 have HB := am_ (Below.refl w.heap.size w)
 have H : (if a0_0 < 1 then (impl_GoodAuto.j0 k true a0_0 l0_1 l0_2 l0_3) else (if a0_0 > 96 then (impl_GoodAuto.j0 k true a0_0 l0_1 l0_2 l0_3) else ((impl_isIncreasing.f k l0_1 a0_0).bind fun t180 => (if t180 = true then (if (l0_2.length : Int) > 2400 then (impl_GoodAuto.j0 k true a0_0 l0_1 l0_2 l0_3) else ((impl_areGoals.f k l0_3 a0_0).bind fun t181 => (impl_GoodAuto.j0 k (!t181) a0_0 l0_1 l0_2 l0_3))) else (impl_GoodAuto.j0 k true a0_0 l0_1 l0_2 l0_3))))) = some r := h
 clear h
 have HC2 := am_ H
 clear H
 go_enter Try.func45, Try.ntmps45
 go_upto_region 1 with (first | ((with_reducible refine gate_dst (N := 1) rfl ?_); (try (refine gate_guard (by rfl) ?_; dsimp only)); refine box_event ?hg (N := 1) ?hd (cs := #[.int .i64 a0_0, .slice A0_1 l0_1.length c0_1, .slice A0_2 l0_2.length c0_2, .slice A0_3 l0_3.length c0_3]) (t := 67) ?hr ?_; (case hd => rfl); (case hg => rfl); (case hr => first | (go_simp; done) | (go_simp; rfl)); intro gb179 hg w3 hbox hb; have n0_ := am_ (below_step (by repeat (first | (with_reducible first | exact HB.out | apply below_alloc | apply pw_below_drewN | apply below_drew1) | exact HB.out)) hb); have n1_ := am_ (hbox); have n2_ := am_ ((by rw [hg]; exact (below_size (by repeat (first | (with_reducible first | exact HB.out | apply below_alloc | apply pw_below_drewN | apply below_drew1) | exact HB.out))) : w.heap.size ≤ gb179)); have n3_ := am_ ((by rw [hg]; exact (below_size (by repeat (first | (with_reducible first | exact HB.out | apply below_alloc | apply pw_below_drewN | apply below_drew1) | exact HB.out))) : w.heap.size ≤ gb179)); clear HB; have HB := n0_; have BK179 := n1_; have GW179 := n2_; have GE179 := n3_; clear n0_ n1_ n2_ n3_; clear hb hbox hg))
 (try simp only [Act.put, List.setIfInBounds_toArray, List.set_cons_zero, List.set_cons_succ])
 go_cut [34] (fun v34 wc => ∃ (kq : Nat) (x34_1 : Bool), v34 = .bool x34_1 ∧ Aside0 (impl_GoodAuto.j0 kq x34_1 a0_0 l0_1 l0_2 l0_3 = some r) ∧ Aside0 (kq ≤ k) ∧ Aside0 (wc.heap[gb179]? = some (.cells #[.int .i64 a0_0, (.slice A0_1 l0_1.length c0_1), (.slice A0_2 l0_2.length c0_2), (.slice A0_3 l0_3.length c0_3)] 67 (0, 0))) ∧ Aside0 (Below w.heap.size w wc))
 case first =>
  have H := HC2.out
  clear HC2
  by_cases c4 : a0_0 < 1
  ·rw [if_pos c4] at H
   have c4b0 : decide (a0_0 < 1) = true := decide_eq_true c4
   clear c4
   (first | rw [c4b0] | (simp only [i64_w, i32_w]; rw [c4b0]) | skip)
   have H' := am_ H
   clear H
   have hcz5_0 : w3.cell? ⟨gb179, 0, none⟩ = some (.int .i64 a0_0) := (blk_cell BK179.out 0).trans rfl
   have hcz5_1 : w3.cell? ⟨gb179, 1, none⟩ = some (.slice A0_1 l0_1.length c0_1) := (blk_cell BK179.out 1).trans rfl
   have hcz5_2 : w3.cell? ⟨gb179, 2, none⟩ = some (.slice A0_2 l0_2.length c0_2) := (blk_cell BK179.out 2).trans rfl
   have hcz5_3 : w3.cell? ⟨gb179, 3, none⟩ = some (.slice A0_3 l0_3.length c0_3) := (blk_cell BK179.out 3).trans rfl
   have hfz5_0 := blk_frozen BK179.out 0
   have hfz5_1 := blk_frozen BK179.out 1
   have hfz5_2 := blk_frozen BK179.out 2
   have hfz5_3 := blk_frozen BK179.out 3
   go_wp2
   go_meet
   case rel => exact ⟨_, (true), (by first | rfl | (simp; done) | (simp [*]; done)), H', ⟨by first | omega | exact Nat.le_refl _⟩, ⟨by (with_reducible repeat (first | refine blk_drewN ?_ _ | refine blk_drew ?_ | refine blk_alloc ?_ _)); exact BK179.out⟩, ⟨by repeat (first | (with_reducible first | exact HB.out | apply below_alloc | apply pw_below_drewN | apply below_drew1 | refine below_set ?_ GE179.out) | exact HB.out)⟩⟩
  ·rw [if_neg c4] at H
   have c4b0 : decide (a0_0 < 1) = false := decide_eq_false c4
   clear c4
   (first | rw [c4b0] | (simp only [i64_w, i32_w]; rw [c4b0]) | skip)
   by_cases c6 : a0_0 > 96
   ·rw [if_pos c6] at H
    have c6b0 : decide (96 < a0_0) = true := decide_eq_true c6
    clear c6
    have H' := am_ H
    clear H
    have hcz7_0 : w3.cell? ⟨gb179, 0, none⟩ = some (.int .i64 a0_0) := (blk_cell BK179.out 0).trans rfl
    have hcz7_1 : w3.cell? ⟨gb179, 1, none⟩ = some (.slice A0_1 l0_1.length c0_1) := (blk_cell BK179.out 1).trans rfl
    have hcz7_2 : w3.cell? ⟨gb179, 2, none⟩ = some (.slice A0_2 l0_2.length c0_2) := (blk_cell BK179.out 2).trans rfl
    have hcz7_3 : w3.cell? ⟨gb179, 3, none⟩ = some (.slice A0_3 l0_3.length c0_3) := (blk_cell BK179.out 3).trans rfl
    have hfz7_0 := blk_frozen BK179.out 0
    have hfz7_1 := blk_frozen BK179.out 1
    have hfz7_2 := blk_frozen BK179.out 2
    have hfz7_3 := blk_frozen BK179.out 3
    go_wp2
    go_meet
    case rel => exact ⟨_, (true), (by first | rfl | (simp; done) | (simp [*]; done)), H', ⟨by first | omega | exact Nat.le_refl _⟩, ⟨by (with_reducible repeat (first | refine blk_drewN ?_ _ | refine blk_drew ?_ | refine blk_alloc ?_ _)); exact BK179.out⟩, ⟨by repeat (first | (with_reducible first | exact HB.out | apply below_alloc | apply pw_below_drewN | apply below_drew1 | refine below_set ?_ GE179.out) | exact HB.out)⟩⟩
   ·rw [if_neg c6] at H
    have c6b0 : decide (96 < a0_0) = false := decide_eq_false c6
    clear c6
    replace H := Option.bind_eq_some_iff.mp H
    obtain ⟨t180, A80, H⟩ := H
    replace H : (if t180 = true then (if (l0_2.length : Int) > 2400 then (impl_GoodAuto.j0 k true a0_0 l0_1 l0_2 l0_3) else ((impl_areGoals.f k l0_3 a0_0).bind fun t181 => (impl_GoodAuto.j0 k (!t181) a0_0 l0_1 l0_2 l0_3))) else (impl_GoodAuto.j0 k true a0_0 l0_1 l0_2 l0_3)) = some r := H
    have A8 := am_ A80
    clear A80
    by_cases c9 : t180 = true
    ·subst c9
     have H1 : (if (l0_2.length : Int) > 2400 then (impl_GoodAuto.j0 k true a0_0 l0_1 l0_2 l0_3) else ((impl_areGoals.f k l0_3 a0_0).bind fun t181 => (impl_GoodAuto.j0 k (!t181) a0_0 l0_1 l0_2 l0_3))) = some r := by rw [if_pos rfl] at H; exact H
     clear H
     have H := H1
     clear H1
     by_cases c10 : (l0_2.length : Int) > 2400
     ·rw [if_pos c10] at H
      have c10b0 : decide (2400 < (l0_2.length : Int)) = true := decide_eq_true c10
      have c10b1 : decide (2400 < l0_2.length) = true := decide_eq_true (by omega)
      clear c10
      have H' := am_ H
      clear H
      have hcz11_0 : w3.cell? ⟨gb179, 0, none⟩ = some (.int .i64 a0_0) := (blk_cell BK179.out 0).trans rfl
      have hcz11_1 : w3.cell? ⟨gb179, 1, none⟩ = some (.slice A0_1 l0_1.length c0_1) := (blk_cell BK179.out 1).trans rfl
      have hcz11_2 : w3.cell? ⟨gb179, 2, none⟩ = some (.slice A0_2 l0_2.length c0_2) := (blk_cell BK179.out 2).trans rfl
      have hcz11_3 : w3.cell? ⟨gb179, 3, none⟩ = some (.slice A0_3 l0_3.length c0_3) := (blk_cell BK179.out 3).trans rfl
      have hfz11_0 := blk_frozen BK179.out 0
      have hfz11_1 := blk_frozen BK179.out 1
      have hfz11_2 := blk_frozen BK179.out 2
      have hfz11_3 := blk_frozen BK179.out 3
      go_wp2_with (first | (go_at_call 100; (with_reducible refine (impl_isIncreasing.calls k _ _ l0_1 a0_0 true _ ?side1 ?side2 A8.out).mono ?_); (case side1 => repeat (first | exact (Kd.C_below HR0_1.out HB.out) | (with_reducible first | refine Kd.C_alloc ?_ _ | refine Kd.C_drewN ?_ _ | refine Kd.C_drew ?_))); (case side2 => exact HC0_1.out); rintro e w' ⟨rfl, ⟨nd, rfl⟩⟩))
      go_meet
      case rel => exact ⟨_, (true), (by first | rfl | (simp; done) | (simp [*]; done)), H', ⟨by first | omega | exact Nat.le_refl _⟩, ⟨by (with_reducible repeat (first | refine blk_drewN ?_ _ | refine blk_drew ?_ | refine blk_alloc ?_ _)); exact BK179.out⟩, ⟨by repeat (first | (with_reducible first | exact HB.out | apply below_alloc | apply pw_below_drewN | apply below_drew1 | refine below_set ?_ GE179.out) | exact HB.out)⟩⟩
     ·rw [if_neg c10] at H
      have c10b0 : decide (2400 < (l0_2.length : Int)) = false := decide_eq_false c10
      have c10b1 : decide (2400 < l0_2.length) = false := decide_eq_false (by omega)
      clear c10
      replace H := Option.bind_eq_some_iff.mp H
      obtain ⟨t181, A120, H⟩ := H
      replace H : (impl_GoodAuto.j0 k (!t181) a0_0 l0_1 l0_2 l0_3) = some r := H
      have A12 := am_ A120
      clear A120
      have H' := am_ H
      clear H
      have hcz13_0 : w3.cell? ⟨gb179, 0, none⟩ = some (.int .i64 a0_0) := (blk_cell BK179.out 0).trans rfl
      have hcz13_1 : w3.cell? ⟨gb179, 1, none⟩ = some (.slice A0_1 l0_1.length c0_1) := (blk_cell BK179.out 1).trans rfl
      have hcz13_2 : w3.cell? ⟨gb179, 2, none⟩ = some (.slice A0_2 l0_2.length c0_2) := (blk_cell BK179.out 2).trans rfl
      have hcz13_3 : w3.cell? ⟨gb179, 3, none⟩ = some (.slice A0_3 l0_3.length c0_3) := (blk_cell BK179.out 3).trans rfl
      have hfz13_0 := blk_frozen BK179.out 0
      have hfz13_1 := blk_frozen BK179.out 1
      have hfz13_2 := blk_frozen BK179.out 2
      have hfz13_3 := blk_frozen BK179.out 3
      go_wp2_with (first | (go_at_call 100; (with_reducible refine (impl_isIncreasing.calls k _ _ l0_1 a0_0 true _ ?side1 ?side2 A8.out).mono ?_); (case side1 => repeat (first | exact (Kd.C_below HR0_1.out HB.out) | (with_reducible first | refine Kd.C_alloc ?_ _ | refine Kd.C_drewN ?_ _ | refine Kd.C_drew ?_))); (case side2 => exact HC0_1.out); rintro e w' ⟨rfl, ⟨nd, rfl⟩⟩) | (go_at_call 101; (with_reducible refine (impl_areGoals.calls k _ _ l0_3 a0_0 t181 _ ?side1 ?side2 A12.out).mono ?_); (case side1 => repeat (first | exact (Kd.C_below HR0_3.out (by repeat (first | (with_reducible first | exact HB.out | apply below_alloc | apply pw_below_drewN | apply below_drew1 | refine below_set ?_ GE179.out) | exact HB.out))) | (with_reducible first | refine Kd.C_alloc ?_ _ | refine Kd.C_drewN ?_ _ | refine Kd.C_drew ?_))); (case side2 => exact HC0_3.out); rintro e w14 ⟨rfl, hb⟩; have n0_ := am_ (blk_below (g := gb179) (o := .cells #[.int .i64 a0_0, .slice A0_1 l0_1.length c0_1, .slice A0_2 l0_2.length c0_2, .slice A0_3 l0_3.length c0_3] 67 (0, 0)) (by (with_reducible repeat (first | refine blk_drewN ?_ _ | refine blk_drew ?_ | refine blk_alloc ?_ _)); exact BK179.out) hb); have n1_ := am_ (below_step (by repeat (first | (with_reducible first | exact HB.out | apply below_alloc | apply pw_below_drewN | apply below_drew1 | refine below_set ?_ GE179.out) | exact HB.out)) hb); clear BK179; clear HB; have BK179 := n0_; have HB := n1_; clear n0_ n1_; (try clear hb); (try clear hb2); (try clear hk); (try clear hi)))
      go_meet
      case rel => exact ⟨_, (!t181), (by first | rfl | (simp; done) | (simp [*]; done)), H', ⟨by first | omega | exact Nat.le_refl _⟩, ⟨by (with_reducible repeat (first | refine blk_drewN ?_ _ | refine blk_drew ?_ | refine blk_alloc ?_ _)); exact BK179.out⟩, ⟨by repeat (first | (with_reducible first | exact HB.out | apply below_alloc | apply pw_below_drewN | apply below_drew1 | refine below_set ?_ GE179.out) | exact HB.out)⟩⟩
    ·replace c9 := Bool.eq_false_iff.mpr c9
     subst c9
     have H1 : (impl_GoodAuto.j0 k true a0_0 l0_1 l0_2 l0_3) = some r := by rw [if_neg (show ¬ (false = true) by decide)] at H; exact H
     clear H
     have H := H1
     clear H1
     have H' := am_ H
     clear H
     have hcz15_0 : w3.cell? ⟨gb179, 0, none⟩ = some (.int .i64 a0_0) := (blk_cell BK179.out 0).trans rfl
     have hcz15_1 : w3.cell? ⟨gb179, 1, none⟩ = some (.slice A0_1 l0_1.length c0_1) := (blk_cell BK179.out 1).trans rfl
     have hcz15_2 : w3.cell? ⟨gb179, 2, none⟩ = some (.slice A0_2 l0_2.length c0_2) := (blk_cell BK179.out 2).trans rfl
     have hcz15_3 : w3.cell? ⟨gb179, 3, none⟩ = some (.slice A0_3 l0_3.length c0_3) := (blk_cell BK179.out 3).trans rfl
     have hfz15_0 := blk_frozen BK179.out 0
     have hfz15_1 := blk_frozen BK179.out 1
     have hfz15_2 := blk_frozen BK179.out 2
     have hfz15_3 := blk_frozen BK179.out 3
     go_wp2_with (first | (go_at_call 100; (with_reducible refine (impl_isIncreasing.calls k _ _ l0_1 a0_0 false _ ?side1 ?side2 A8.out).mono ?_); (case side1 => repeat (first | exact (Kd.C_below HR0_1.out HB.out) | (with_reducible first | refine Kd.C_alloc ?_ _ | refine Kd.C_drewN ?_ _ | refine Kd.C_drew ?_))); (case side2 => exact HC0_1.out); rintro e w' ⟨rfl, ⟨nd, rfl⟩⟩))
     go_meet
     case rel => exact ⟨_, (true), (by first | rfl | (simp; done) | (simp [*]; done)), H', ⟨by first | omega | exact Nat.le_refl _⟩, ⟨by (with_reducible repeat (first | refine blk_drewN ?_ _ | refine blk_drew ?_ | refine blk_alloc ?_ _)); exact BK179.out⟩, ⟨by repeat (first | (with_reducible first | exact HB.out | apply below_alloc | apply pw_below_drewN | apply below_drew1 | refine below_set ?_ GE179.out) | exact HB.out)⟩⟩
 case rest =>
  clear HC2
  try clear c1
  try clear p2
  try clear c4
  try clear c4b0
  try clear c6
  try clear c6b0
  try clear c9
  try clear c10
  try clear c10b0
  try clear c10b1
  try clear hcz11_0
  try clear hcz11_1
  try clear hcz11_2
  try clear hcz11_3
  try clear hcz13_0
  try clear hcz13_1
  try clear hcz13_2
  try clear hcz13_3
  try clear hcz15_0
  try clear hcz15_1
  try clear hcz15_2
  try clear hcz15_3
  try clear hcz5_0
  try clear hcz5_1
  try clear hcz5_2
  try clear hcz5_3
  try clear hcz7_0
  try clear hcz7_1
  try clear hcz7_2
  try clear hcz7_3
  try clear hfz11_0
  try clear hfz11_1
  try clear hfz11_2
  try clear hfz11_3
  try clear hfz13_0
  try clear hfz13_1
  try clear hfz13_2
  try clear hfz13_3
  try clear hfz15_0
  try clear hfz15_1
  try clear hfz15_2
  try clear hfz15_3
  try clear hfz5_0
  try clear hfz5_1
  try clear hfz5_2
  try clear hfz5_3
  try clear hfz7_0
  try clear hfz7_1
  try clear hfz7_2
  try clear hfz7_3
  obtain ⟨kq, x34_1, rfl, HA, HJ1, BK179, HB⟩ := hcut
  cases kq with
  | zero => exact absurd HA.out (by simp [impl_GoodAuto.j0])
  | succ kj1 =>
   have H := HA.out
   clear HA
   simp only [impl_GoodAuto.j0] at H
   by_cases c16 : x34_1 = true
   ·subst c16
    have H1 : (some false) = some r := by rw [if_pos rfl] at H; exact H
    clear H
    have H := H1
    clear H1
    obtain rfl := Option.some.inj H
    go_wp2
    go_ret
    exact ⟨by first | rfl | (simp [errW_none, errW_some] <;> rfl) | (simp [*, errW_none, errW_some] <;> rfl), by repeat (first | (with_reducible first | exact HB.out | apply below_alloc | apply pw_below_drewN | apply below_drew1 | refine below_set ?_ GE179.out) | exact HB.out)⟩
   ·replace c16 := Bool.eq_false_iff.mpr c16
    subst c16
    have H1 : (impl_GoodAuto.l0 kj1 l0_2 (l0_2.length : Int) 0 a0_0 l0_1 l0_2 l0_3) = some r := by rw [if_neg (show ¬ (false = true) by decide)] at H; exact H
    clear H
    have H := H1
    clear H1
    have H' := am_ H
    clear H
    have hcz17_0 : wc.cell? ⟨gb179, 0, none⟩ = some (.int .i64 a0_0) := (blk_cell BK179.out 0).trans rfl
    have hcz17_1 : wc.cell? ⟨gb179, 1, none⟩ = some (.slice A0_1 l0_1.length c0_1) := (blk_cell BK179.out 1).trans rfl
    have hcz17_2 : wc.cell? ⟨gb179, 2, none⟩ = some (.slice A0_2 l0_2.length c0_2) := (blk_cell BK179.out 2).trans rfl
    have hcz17_3 : wc.cell? ⟨gb179, 3, none⟩ = some (.slice A0_3 l0_3.length c0_3) := (blk_cell BK179.out 3).trans rfl
    have hfz17_0 := blk_frozen BK179.out 0
    have hfz17_1 := blk_frozen BK179.out 1
    have hfz17_2 := blk_frozen BK179.out 2
    have hfz17_3 := blk_frozen BK179.out 3
    go_wp2
    go_loopg [38] kj1 (fun kq v38 w' => ∃ (x38_2 : Int), v38 = .int .i64 x38_2 ∧ Aside0 (impl_GoodAuto.l0 kq l0_2 (l0_2.length : Int) x38_2 a0_0 l0_1 l0_2 l0_3 = some r) ∧ Aside0 (kq ≤ kj1) ∧ Aside0 (w'.heap[gb179]? = some (.cells #[.int .i64 a0_0, (.slice A0_1 l0_1.length c0_1), (.slice A0_2 l0_2.length c0_2), (.slice A0_3 l0_3.length c0_3)] 67 (0, 0))) ∧ Aside0 (Below w.heap.size w w'))
    case atStart => exact ⟨(0), (by first | rfl | (simp; done) | (simp [*]; done)), H', ⟨Nat.le_refl _⟩, ⟨by (with_reducible repeat (first | refine blk_drewN ?_ _ | refine blk_drew ?_ | refine blk_alloc ?_ _)); exact BK179.out⟩, ⟨by repeat (first | (with_reducible first | exact HB.out | apply below_alloc | apply pw_below_drewN | apply below_drew1 | refine below_set ?_ GE179.out) | exact HB.out)⟩⟩
    case round =>
     clear H'
     try clear c1
     try clear p2
     try clear c4
     try clear c4b0
     try clear c6
     try clear c6b0
     try clear c9
     try clear c10
     try clear c10b0
     try clear c10b1
     try clear c16
     try clear hcz11_0
     try clear hcz11_1
     try clear hcz11_2
     try clear hcz11_3
     try clear hcz13_0
     try clear hcz13_1
     try clear hcz13_2
     try clear hcz13_3
     try clear hcz15_0
     try clear hcz15_1
     try clear hcz15_2
     try clear hcz15_3
     try clear hcz17_0
     try clear hcz17_1
     try clear hcz17_2
     try clear hcz17_3
     try clear hcz5_0
     try clear hcz5_1
     try clear hcz5_2
     try clear hcz5_3
     try clear hcz7_0
     try clear hcz7_1
     try clear hcz7_2
     try clear hcz7_3
     try clear hfz11_0
     try clear hfz11_1
     try clear hfz11_2
     try clear hfz11_3
     try clear hfz13_0
     try clear hfz13_1
     try clear hfz13_2
     try clear hfz13_3
     try clear hfz15_0
     try clear hfz15_1
     try clear hfz15_2
     try clear hfz15_3
     try clear hfz17_0
     try clear hfz17_1
     try clear hfz17_2
     try clear hfz17_3
     try clear hfz5_0
     try clear hfz5_1
     try clear hfz5_2
     try clear hfz5_3
     try clear hfz7_0
     try clear hfz7_1
     try clear hfz7_2
     try clear hfz7_3
     try clear p2
     obtain ⟨x38_2, rfl, HA, HK2, BK179, HB⟩ := hrel
     cases gk with
     | zero => exact absurd HA.out (by simp [impl_GoodAuto.l0])
     | succ k2 =>
      have H := HA.out
      clear HA
      simp only [impl_GoodAuto.l0] at H
      by_cases c18 : x38_2 < (l0_2.length : Int)
      ·rw [if_pos c18] at H
       have c18b0 : decide (x38_2 < (l0_2.length : Int)) = true := decide_eq_true c18
       clear c18
       by_cases c19 : 0 ≤ x38_2
       ·rw [if_pos c19] at H
        have c19b0 : decide (0 ≤ x38_2) = true := decide_eq_true c19
        clear c19
        by_cases c20 : x38_2 < (l0_2.length : Int)
        ·rw [if_pos c20] at H
         have c20b0 : decide (x38_2 < (l0_2.length : Int)) = true := decide_eq_true c20
         clear c20
         by_cases c21 : ((rd_T113 l0_2 x38_2).f0) < 0
         ·rw [if_pos c21] at H
          have c21b0 : decide (((rd_T113 l0_2 x38_2).f0) < 0) = true := decide_eq_true c21
          clear c21
          obtain rfl := Option.some.inj H
          have p182 : 0 ≤ (x38_2 : Int) := of_decide_eq_true (by first | (with_reducible assumption) | assumption)
          have q182 : x38_2 < (l0_2.length : Int) := of_decide_eq_true (by first | (with_reducible assumption) | assumption)
          obtain ⟨ad182, e182, hx182_0, hx182_1, hx182_2⟩ := at_T113 HR0_2.out x38_2 p182 q182
          cases e182
          (try replace hx182_0 := (HB.out.cell (World.block_lt_of_cell? w _ hx182_0)).trans hx182_0)
          (try replace hx182_1 := (HB.out.cell (World.block_lt_of_cell? w _ hx182_1)).trans hx182_1)
          (try replace hx182_2 := (HB.out.cell (World.block_lt_of_cell? w _ hx182_2)).trans hx182_2)
          replace p182 := eq_true p182
          replace q182 := eq_true q182
          try go_wp2_with (first | ((with_reducible refine gate_dst (N := 4) rfl ?_); (try (refine gate_guard (by rfl) ?_; dsimp only)); refine box_event ?hg (N := 4) ?hd (cs := #[.int .i64 0, .int .i64 0, .int .i64 0]) (t := 113) ?hr ?_; (case hd => rfl); (case hg => rfl); (case hr => first | (go_simp; done) | (go_simp; rfl)); intro gb183 hg w22 hbox hb; have n0_ := am_ (blk_below (g := gb179) (o := .cells #[.int .i64 a0_0, .slice A0_1 l0_1.length c0_1, .slice (some ad182) l0_2.length c0_2, .slice A0_3 l0_3.length c0_3] 67 (0, 0)) (by (with_reducible repeat (first | refine blk_drewN ?_ _ | refine blk_drew ?_ | refine blk_alloc ?_ _)); exact BK179.out) hb); have n1_ := am_ (below_step (by repeat (first | (with_reducible first | exact HB.out | apply below_alloc | apply pw_below_drewN | apply below_drew1 | refine below_set ?_ GE179.out) | exact HB.out)) hb); have n2_ := am_ (hbox); have n3_ := am_ ((by rw [hg]; exact (below_size (by repeat (first | (with_reducible first | exact HB.out | apply below_alloc | apply pw_below_drewN | apply below_drew1 | refine below_set ?_ GE179.out) | exact HB.out))) : w.heap.size ≤ gb183)); have n4_ := am_ ((by rw [hg]; exact (below_size (by repeat (first | (with_reducible first | exact HB.out | apply below_alloc | apply pw_below_drewN | apply below_drew1 | refine below_set ?_ GE179.out) | exact HB.out))) : w.heap.size ≤ gb183)); have n5_ := am_ ((by rw [hg]; exact Nat.ne_of_lt (blk_lt (g := gb179) (o := .cells #[.int .i64 a0_0, .slice A0_1 l0_1.length c0_1, .slice (some ad182) l0_2.length c0_2, .slice A0_3 l0_3.length c0_3] 67 (0, 0)) (by (with_reducible repeat (first | refine blk_drewN ?_ _ | refine blk_drew ?_ | refine blk_alloc ?_ _)); exact BK179.out)) : gb179 ≠ gb183)); have n6_ := am_ ((by rw [hg]; exact Nat.ne_of_gt (blk_lt (g := gb179) (o := .cells #[.int .i64 a0_0, .slice A0_1 l0_1.length c0_1, .slice (some ad182) l0_2.length c0_2, .slice A0_3 l0_3.length c0_3] 67 (0, 0)) (by (with_reducible repeat (first | refine blk_drewN ?_ _ | refine blk_drew ?_ | refine blk_alloc ?_ _)); exact BK179.out)) : gb183 ≠ gb179)); clear BK179; clear HB; have BK179 := n0_; have HB := n1_; have BK183 := n2_; have GW183 := n3_; have GE183 := n4_; have NB179_183 := n5_; have NB183_179 := n6_; clear n0_ n1_ n2_ n3_ n4_ n5_ n6_; clear hb hbox hg; have hnb23 := NB183_179.out; have hnc23 := NB179_183.out; have hcz24_0 : w22.cell? ⟨gb183, 0, none⟩ = some (.int .i64 0) := (blk_cell BK183.out 0).trans rfl; have hcz24_1 : w22.cell? ⟨gb183, 1, none⟩ = some (.int .i64 0) := (blk_cell BK183.out 1).trans rfl; have hcz24_2 : w22.cell? ⟨gb183, 2, none⟩ = some (.int .i64 0) := (blk_cell BK183.out 2).trans rfl; have hfz24_0 := blk_frozen BK183.out 0; have hfz24_1 := blk_frozen BK183.out 1; have hfz24_2 := blk_frozen BK183.out 2))
          have n0_ : Aside0 ((((w22.setCell ⟨gb183, 0, none⟩ (.int .i64 ((rd_T113 l0_2 x38_2).f0))).setCell ⟨gb183, 1, none⟩ (.int .i64 ((rd_T113 l0_2 x38_2).f1))).setCell ⟨gb183, 2, none⟩ (.int .i64 ((rd_T113 l0_2 x38_2).f2))).heap[gb179]? = some (.cells #[.int .i64 a0_0, .slice A0_1 l0_1.length c0_1, .slice (some ad182) l0_2.length c0_2, .slice A0_3 l0_3.length c0_3] 67 (0, 0))) := ⟨by (with_reducible repeat (first | refine blk_drewN ?_ _ | refine blk_drew ?_ | refine blk_alloc ?_ _)); refine blk_far ?_ NB179_183.out _; (with_reducible repeat (first | refine blk_drewN ?_ _ | refine blk_drew ?_ | refine blk_alloc ?_ _)); refine blk_far ?_ NB179_183.out _; (with_reducible repeat (first | refine blk_drewN ?_ _ | refine blk_drew ?_ | refine blk_alloc ?_ _)); refine blk_far ?_ NB179_183.out _; (with_reducible repeat (first | refine blk_drewN ?_ _ | refine blk_drew ?_ | refine blk_alloc ?_ _)); exact BK179.out⟩
          have n1_ : Aside0 ((((w22.setCell ⟨gb183, 0, none⟩ (.int .i64 ((rd_T113 l0_2 x38_2).f0))).setCell ⟨gb183, 1, none⟩ (.int .i64 ((rd_T113 l0_2 x38_2).f1))).setCell ⟨gb183, 2, none⟩ (.int .i64 ((rd_T113 l0_2 x38_2).f2))).heap[gb183]? = some (.cells #[.int .i64 ((rd_T113 l0_2 x38_2).f0), .int .i64 ((rd_T113 l0_2 x38_2).f1), .int .i64 ((rd_T113 l0_2 x38_2).f2)] 113 (0, 0))) := ⟨by (with_reducible repeat (first | refine blk_drewN ?_ _ | refine blk_drew ?_ | refine blk_alloc ?_ _)); refine blk_put (cs := #[.int .i64 ((rd_T113 l0_2 x38_2).f0), .int .i64 ((rd_T113 l0_2 x38_2).f1), .int .i64 0]) ?_ 2 _ rfl; (with_reducible repeat (first | refine blk_drewN ?_ _ | refine blk_drew ?_ | refine blk_alloc ?_ _)); refine blk_put (cs := #[.int .i64 ((rd_T113 l0_2 x38_2).f0), .int .i64 0, .int .i64 0]) ?_ 1 _ rfl; (with_reducible repeat (first | refine blk_drewN ?_ _ | refine blk_drew ?_ | refine blk_alloc ?_ _)); refine blk_put (cs := #[.int .i64 0, .int .i64 0, .int .i64 0]) ?_ 0 _ rfl; (with_reducible repeat (first | refine blk_drewN ?_ _ | refine blk_drew ?_ | refine blk_alloc ?_ _)); exact BK183.out⟩
          have n2_ : Aside0 (Below w.heap.size w (((w22.setCell ⟨gb183, 0, none⟩ (.int .i64 ((rd_T113 l0_2 x38_2).f0))).setCell ⟨gb183, 1, none⟩ (.int .i64 ((rd_T113 l0_2 x38_2).f1))).setCell ⟨gb183, 2, none⟩ (.int .i64 ((rd_T113 l0_2 x38_2).f2)))) := ⟨by repeat (first | (with_reducible first | exact HB.out | apply below_alloc | apply pw_below_drewN | apply below_drew1 | refine below_set ?_ GE179.out | refine below_set ?_ GE183.out) | exact HB.out)⟩
          (try clear BK179)
          (try clear BK183)
          (try clear HB)
          generalize (((w22.setCell ⟨gb183, 0, none⟩ (.int .i64 ((rd_T113 l0_2 x38_2).f0))).setCell ⟨gb183, 1, none⟩ (.int .i64 ((rd_T113 l0_2 x38_2).f1))).setCell ⟨gb183, 2, none⟩ (.int .i64 ((rd_T113 l0_2 x38_2).f2))) = w25 at n0_ n1_ n2_ ⊢
          have BK179 := n0_
          have BK183 := n1_
          have HB := n2_
          clear n0_ n1_ n2_
          have n0_ := am_ (blk_drew BK179.out)
          have n1_ := am_ (blk_drew BK183.out)
          have n2_ := am_ (below_drew1 HB.out)
          clear BK179
          clear BK183
          clear HB
          have BK179 := n0_
          have BK183 := n1_
          have HB := n2_
          clear n0_ n1_ n2_
          refine start_ (n := 47) (S := fun w' => w'.cell? ⟨gb183, 0, none⟩ = some (.int .i64 ((rd_T113 l0_2 x38_2).f0)) ∧ w'.cell? ⟨gb183, 1, none⟩ = some (.int .i64 ((rd_T113 l0_2 x38_2).f1)) ∧ w'.cell? ⟨gb183, 2, none⟩ = some (.int .i64 ((rd_T113 l0_2 x38_2).f2))) (ds := []) #[false, false, false, false, false, false, false, false, false, false, false, false, false, false, false, false, false, false, false, false, false, false, false, false, false, false, false, false, false, false, false, false, false, false, false, false, false, false, false, false, false, false, false, false, false, false, false] (by kernel_rfl) rfl rfl ⟨(blk_cell BK183.out 0).trans rfl, (blk_cell BK183.out 1).trans rfl, (blk_cell BK183.out 2).trans rfl⟩ (fun hHeld => ?_); refine with_tabW impl_GoodAuto.tab6 impl_GoodAuto.bits6 (fun HT_ HW_ => ?_)
          generalize w25.drew = w26 at BK179 BK183 HB hHeld ⊢
          refine Sh.pA 0 43 (Sh.pre 47 1) (any_of HT_.out (by kernel_rfl)) ?_
          refine Sh.tA 1 44 (Sh.pre 47 2) (take_ofW HT_.out HW_.out (by kernel_rfl)) hHeld ?_ (hy := by rintro w' ⟨s0, s1, s2⟩; go_simp; with_reducible rfl)
          refine Sh.pA 2 45 (Sh.pre 47 3) (any_of HT_.out (by kernel_rfl)) ?_
          refine Sh.pA 3 46 (Sh.pre 47 4) (any_of HT_.out (by kernel_rfl)) ?_
          refine Sh.pU 4 47 (Sh.pre 47 5) (any_of HT_.out (by kernel_rfl)) ?_
          refine Sh.pU 5 48 (Sh.pre 47 6) (any_of HT_.out (by kernel_rfl)) ?_
          refine Sh.pU 6 49 (Sh.pre 47 7) (any_of HT_.out (by kernel_rfl)) ?_
          refine Sh.pU 7 50 (Sh.pre 47 8) (any_of HT_.out (by kernel_rfl)) ?_
          refine Sh.pU 8 51 (Sh.pre 47 9) (any_of HT_.out (by kernel_rfl)) ?_
          refine Sh.pA 9 52 (Sh.pre 47 10) (any_of HT_.out (by kernel_rfl)) ?_
          refine Sh.pA 10 53 (Sh.pre 47 11) (any_of HT_.out (by kernel_rfl)) ?_
          refine Sh.pU 11 54 (Sh.pre 47 12) (any_of HT_.out (by kernel_rfl)) ?_
          refine Sh.pU 12 55 (Sh.pre 47 13) (any_of HT_.out (by kernel_rfl)) ?_
          refine Sh.pU 13 56 (Sh.pre 47 14) (any_of HT_.out (by kernel_rfl)) ?_
          refine Sh.pA 14 57 (Sh.pre 47 15) (any_of HT_.out (by kernel_rfl)) ?_
          refine Sh.pA 15 58 (Sh.pre 47 16) (any_of HT_.out (by kernel_rfl)) ?_
          refine Sh.pU 16 59 (Sh.pre 47 17) (any_of HT_.out (by kernel_rfl)) ?_
          refine Sh.pU 17 60 (Sh.pre 47 18) (any_of HT_.out (by kernel_rfl)) ?_
          refine Sh.pU 18 61 (Sh.pre 47 19) (any_of HT_.out (by kernel_rfl)) ?_
          refine Sh.pU 19 62 (Sh.pre 47 20) (any_of HT_.out (by kernel_rfl)) ?_
          refine Sh.pU 20 63 (Sh.pre 47 21) (any_of HT_.out (by kernel_rfl)) ?_
          refine Sh.pA 21 64 (Sh.pre 47 22) (any_of HT_.out (by kernel_rfl)) ?_
          refine Sh.pA 22 65 (Sh.pre 47 23) (any_of HT_.out (by kernel_rfl)) ?_
          refine Sh.pU 23 66 (Sh.pre 47 24) (any_of HT_.out (by kernel_rfl)) ?_
          refine Sh.pU 24 67 (Sh.pre 47 25) (any_of HT_.out (by kernel_rfl)) ?_
          refine Sh.pU 25 68 (Sh.pre 47 26) (any_of HT_.out (by kernel_rfl)) ?_
          refine Sh.pA 26 69 (Sh.pre 47 27) (any_of HT_.out (by kernel_rfl)) ?_
          refine Sh.pA 27 70 (Sh.pre 47 28) (any_of HT_.out (by kernel_rfl)) ?_
          refine Sh.pU 28 71 (Sh.pre 47 29) (any_of HT_.out (by kernel_rfl)) ?_
          refine Sh.pU 29 72 (Sh.pre 47 30) (any_of HT_.out (by kernel_rfl)) ?_
          refine Sh.pU 30 73 (Sh.pre 47 31) (any_of HT_.out (by kernel_rfl)) ?_
          refine Sh.pA 31 74 (Sh.pre 47 32) (any_of HT_.out (by kernel_rfl)) ?_
          refine Sh.pA 32 75 (Sh.pre 47 33) (any_of HT_.out (by kernel_rfl)) ?_
          refine Sh.pU 33 76 (Sh.pre 47 34) (any_of HT_.out (by kernel_rfl)) ?_
          refine Sh.pU 34 77 (Sh.pre 47 35) (any_of HT_.out (by kernel_rfl)) ?_
          refine Sh.pU 35 78 (Sh.pre 47 36) (any_of HT_.out (by kernel_rfl)) ?_
          refine Sh.pU 36 79 (Sh.pre 47 37) (any_of HT_.out (by kernel_rfl)) ?_
          refine Sh.pU 37 80 (Sh.pre 47 38) (any_of HT_.out (by kernel_rfl)) ?_
          refine Sh.pU 38 81 (Sh.pre 47 39) (any_of HT_.out (by kernel_rfl)) ?_
          refine Sh.pU 39 82 (Sh.pre 47 40) (any_of HT_.out (by kernel_rfl)) ?_
          refine Sh.pU 40 83 (Sh.pre 47 41) (any_of HT_.out (by kernel_rfl)) ?_
          refine Sh.pU 41 84 (Sh.pre 47 42) (any_of HT_.out (by kernel_rfl)) ?_
          refine Sh.pU 42 85 (Sh.pre 47 43) (any_of HT_.out (by kernel_rfl)) ?_
          refine Sh.pU 43 86 (Sh.pre 47 44) (any_of HT_.out (by kernel_rfl)) ?_
          refine Sh.pU 44 87 (Sh.pre 47 45) (any_of HT_.out (by kernel_rfl)) ?_
          refine Sh.pU 45 88 (Sh.pre 47 46) (any_of HT_.out (by kernel_rfl)) ?_
          refine Sh.pA 46 89 (Sh.pre 47 47) (any_of HT_.out (by kernel_rfl)) ?_
          refine done_ (done_of HT_.out (by kernel_rfl)) ?_
          try go_wp2
          go_ret
          exact ⟨by first | rfl | (simp [errW_none, errW_some] <;> rfl) | (simp [*, errW_none, errW_some] <;> rfl), by repeat (first | (with_reducible first | exact HB.out | apply below_alloc | apply pw_below_drewN | apply below_drew1 | refine below_set ?_ GE179.out | refine below_set ?_ GE183.out) | exact HB.out)⟩
         ·rw [if_neg c21] at H
          have c21b0 : decide (((rd_T113 l0_2 x38_2).f0) < 0) = false := decide_eq_false c21
          clear c21
          by_cases c27 : ((rd_T113 l0_2 x38_2).f0) ≥ a0_0
          ·rw [if_pos c27] at H
           have c27b0 : decide (a0_0 ≤ ((rd_T113 l0_2 x38_2).f0)) = true := decide_eq_true c27
           clear c27
           obtain rfl := Option.some.inj H
           have p182 : 0 ≤ (x38_2 : Int) := of_decide_eq_true (by first | (with_reducible assumption) | assumption)
           have q182 : x38_2 < (l0_2.length : Int) := of_decide_eq_true (by first | (with_reducible assumption) | assumption)
           obtain ⟨ad182, e182, hx182_0, hx182_1, hx182_2⟩ := at_T113 HR0_2.out x38_2 p182 q182
           cases e182
           (try replace hx182_0 := (HB.out.cell (World.block_lt_of_cell? w _ hx182_0)).trans hx182_0)
           (try replace hx182_1 := (HB.out.cell (World.block_lt_of_cell? w _ hx182_1)).trans hx182_1)
           (try replace hx182_2 := (HB.out.cell (World.block_lt_of_cell? w _ hx182_2)).trans hx182_2)
           replace p182 := eq_true p182
           replace q182 := eq_true q182
           try go_wp2_with (first | ((with_reducible refine gate_dst (N := 4) rfl ?_); (try (refine gate_guard (by rfl) ?_; dsimp only)); refine box_event ?hg (N := 4) ?hd (cs := #[.int .i64 0, .int .i64 0, .int .i64 0]) (t := 113) ?hr ?_; (case hd => rfl); (case hg => rfl); (case hr => first | (go_simp; done) | (go_simp; rfl)); intro gb183 hg w28 hbox hb; have n0_ := am_ (blk_below (g := gb179) (o := .cells #[.int .i64 a0_0, .slice A0_1 l0_1.length c0_1, .slice (some ad182) l0_2.length c0_2, .slice A0_3 l0_3.length c0_3] 67 (0, 0)) (by (with_reducible repeat (first | refine blk_drewN ?_ _ | refine blk_drew ?_ | refine blk_alloc ?_ _)); exact BK179.out) hb); have n1_ := am_ (below_step (by repeat (first | (with_reducible first | exact HB.out | apply below_alloc | apply pw_below_drewN | apply below_drew1 | refine below_set ?_ GE179.out) | exact HB.out)) hb); have n2_ := am_ (hbox); have n3_ := am_ ((by rw [hg]; exact (below_size (by repeat (first | (with_reducible first | exact HB.out | apply below_alloc | apply pw_below_drewN | apply below_drew1 | refine below_set ?_ GE179.out) | exact HB.out))) : w.heap.size ≤ gb183)); have n4_ := am_ ((by rw [hg]; exact (below_size (by repeat (first | (with_reducible first | exact HB.out | apply below_alloc | apply pw_below_drewN | apply below_drew1 | refine below_set ?_ GE179.out) | exact HB.out))) : w.heap.size ≤ gb183)); have n5_ := am_ ((by rw [hg]; exact Nat.ne_of_lt (blk_lt (g := gb179) (o := .cells #[.int .i64 a0_0, .slice A0_1 l0_1.length c0_1, .slice (some ad182) l0_2.length c0_2, .slice A0_3 l0_3.length c0_3] 67 (0, 0)) (by (with_reducible repeat (first | refine blk_drewN ?_ _ | refine blk_drew ?_ | refine blk_alloc ?_ _)); exact BK179.out)) : gb179 ≠ gb183)); have n6_ := am_ ((by rw [hg]; exact Nat.ne_of_gt (blk_lt (g := gb179) (o := .cells #[.int .i64 a0_0, .slice A0_1 l0_1.length c0_1, .slice (some ad182) l0_2.length c0_2, .slice A0_3 l0_3.length c0_3] 67 (0, 0)) (by (with_reducible repeat (first | refine blk_drewN ?_ _ | refine blk_drew ?_ | refine blk_alloc ?_ _)); exact BK179.out)) : gb183 ≠ gb179)); clear BK179; clear HB; have BK179 := n0_; have HB := n1_; have BK183 := n2_; have GW183 := n3_; have GE183 := n4_; have NB179_183 := n5_; have NB183_179 := n6_; clear n0_ n1_ n2_ n3_ n4_ n5_ n6_; clear hb hbox hg; have hnb29 := NB183_179.out; have hnc29 := NB179_183.out; have hcz30_0 : w28.cell? ⟨gb183, 0, none⟩ = some (.int .i64 0) := (blk_cell BK183.out 0).trans rfl; have hcz30_1 : w28.cell? ⟨gb183, 1, none⟩ = some (.int .i64 0) := (blk_cell BK183.out 1).trans rfl; have hcz30_2 : w28.cell? ⟨gb183, 2, none⟩ = some (.int .i64 0) := (blk_cell BK183.out 2).trans rfl; have hfz30_0 := blk_frozen BK183.out 0; have hfz30_1 := blk_frozen BK183.out 1; have hfz30_2 := blk_frozen BK183.out 2))
           have n0_ : Aside0 ((((w28.setCell ⟨gb183, 0, none⟩ (.int .i64 ((rd_T113 l0_2 x38_2).f0))).setCell ⟨gb183, 1, none⟩ (.int .i64 ((rd_T113 l0_2 x38_2).f1))).setCell ⟨gb183, 2, none⟩ (.int .i64 ((rd_T113 l0_2 x38_2).f2))).heap[gb179]? = some (.cells #[.int .i64 a0_0, .slice A0_1 l0_1.length c0_1, .slice (some ad182) l0_2.length c0_2, .slice A0_3 l0_3.length c0_3] 67 (0, 0))) := ⟨by (with_reducible repeat (first | refine blk_drewN ?_ _ | refine blk_drew ?_ | refine blk_alloc ?_ _)); refine blk_far ?_ NB179_183.out _; (with_reducible repeat (first | refine blk_drewN ?_ _ | refine blk_drew ?_ | refine blk_alloc ?_ _)); refine blk_far ?_ NB179_183.out _; (with_reducible repeat (first | refine blk_drewN ?_ _ | refine blk_drew ?_ | refine blk_alloc ?_ _)); refine blk_far ?_ NB179_183.out _; (with_reducible repeat (first | refine blk_drewN ?_ _ | refine blk_drew ?_ | refine blk_alloc ?_ _)); exact BK179.out⟩
           have n1_ : Aside0 ((((w28.setCell ⟨gb183, 0, none⟩ (.int .i64 ((rd_T113 l0_2 x38_2).f0))).setCell ⟨gb183, 1, none⟩ (.int .i64 ((rd_T113 l0_2 x38_2).f1))).setCell ⟨gb183, 2, none⟩ (.int .i64 ((rd_T113 l0_2 x38_2).f2))).heap[gb183]? = some (.cells #[.int .i64 ((rd_T113 l0_2 x38_2).f0), .int .i64 ((rd_T113 l0_2 x38_2).f1), .int .i64 ((rd_T113 l0_2 x38_2).f2)] 113 (0, 0))) := ⟨by (with_reducible repeat (first | refine blk_drewN ?_ _ | refine blk_drew ?_ | refine blk_alloc ?_ _)); refine blk_put (cs := #[.int .i64 ((rd_T113 l0_2 x38_2).f0), .int .i64 ((rd_T113 l0_2 x38_2).f1), .int .i64 0]) ?_ 2 _ rfl; (with_reducible repeat (first | refine blk_drewN ?_ _ | refine blk_drew ?_ | refine blk_alloc ?_ _)); refine blk_put (cs := #[.int .i64 ((rd_T113 l0_2 x38_2).f0), .int .i64 0, .int .i64 0]) ?_ 1 _ rfl; (with_reducible repeat (first | refine blk_drewN ?_ _ | refine blk_drew ?_ | refine blk_alloc ?_ _)); refine blk_put (cs := #[.int .i64 0, .int .i64 0, .int .i64 0]) ?_ 0 _ rfl; (with_reducible repeat (first | refine blk_drewN ?_ _ | refine blk_drew ?_ | refine blk_alloc ?_ _)); exact BK183.out⟩
           have n2_ : Aside0 (Below w.heap.size w (((w28.setCell ⟨gb183, 0, none⟩ (.int .i64 ((rd_T113 l0_2 x38_2).f0))).setCell ⟨gb183, 1, none⟩ (.int .i64 ((rd_T113 l0_2 x38_2).f1))).setCell ⟨gb183, 2, none⟩ (.int .i64 ((rd_T113 l0_2 x38_2).f2)))) := ⟨by repeat (first | (with_reducible first | exact HB.out | apply below_alloc | apply pw_below_drewN | apply below_drew1 | refine below_set ?_ GE179.out | refine below_set ?_ GE183.out) | exact HB.out)⟩
           (try clear BK179)
           (try clear BK183)
           (try clear HB)
           generalize (((w28.setCell ⟨gb183, 0, none⟩ (.int .i64 ((rd_T113 l0_2 x38_2).f0))).setCell ⟨gb183, 1, none⟩ (.int .i64 ((rd_T113 l0_2 x38_2).f1))).setCell ⟨gb183, 2, none⟩ (.int .i64 ((rd_T113 l0_2 x38_2).f2))) = w31 at n0_ n1_ n2_ ⊢
           have BK179 := n0_
           have BK183 := n1_
           have HB := n2_
           clear n0_ n1_ n2_
           have n0_ := am_ (blk_drew BK179.out)
           have n1_ := am_ (blk_drew BK183.out)
           have n2_ := am_ (below_drew1 HB.out)
           clear BK179
           clear BK183
           clear HB
           have BK179 := n0_
           have BK183 := n1_
           have HB := n2_
           clear n0_ n1_ n2_
           refine start_ (n := 47) (S := fun w' => w'.cell? ⟨gb183, 0, none⟩ = some (.int .i64 ((rd_T113 l0_2 x38_2).f0)) ∧ w'.cell? ⟨gb183, 1, none⟩ = some (.int .i64 ((rd_T113 l0_2 x38_2).f1)) ∧ w'.cell? ⟨gb183, 2, none⟩ = some (.int .i64 ((rd_T113 l0_2 x38_2).f2)) ∧ w'.cell? ⟨gb179, 0, none⟩ = some (.int .i64 a0_0) ∧ w'.cell? ⟨gb179, 1, none⟩ = some (.slice A0_1 l0_1.length c0_1) ∧ w'.cell? ⟨gb179, 2, none⟩ = some (.slice (some ad182) l0_2.length c0_2) ∧ w'.cell? ⟨gb179, 3, none⟩ = some (.slice A0_3 l0_3.length c0_3)) (ds := []) #[false, false, false, false, false, false, false, false, false, false, false, false, false, false, false, false, false, false, false, false, false, false, false, false, false, false, false, false, false, false, false, false, false, false, false, false, false, false, false, false, false, false, false, false, false, false, false] (by kernel_rfl) rfl rfl ⟨(blk_cell BK183.out 0).trans rfl, (blk_cell BK183.out 1).trans rfl, (blk_cell BK183.out 2).trans rfl, (blk_cell BK179.out 0).trans rfl, (blk_cell BK179.out 1).trans rfl, (blk_cell BK179.out 2).trans rfl, (blk_cell BK179.out 3).trans rfl⟩ (fun hHeld => ?_); refine with_tabW impl_GoodAuto.tab6 impl_GoodAuto.bits6 (fun HT_ HW_ => ?_)
           generalize w31.drew = w32 at BK179 BK183 HB hHeld ⊢
           refine Sh.pA 0 43 (Sh.pre 47 1) (any_of HT_.out (by kernel_rfl)) ?_
           refine Sh.tA 1 44 (Sh.pre 47 2) (take_ofW HT_.out HW_.out (by kernel_rfl)) hHeld ?_ (hy := by rintro w' ⟨s0, s1, s2, s3, s4, s5, s6⟩; go_simp; with_reducible rfl)
           refine Sh.pA 2 45 (Sh.pre 47 3) (any_of HT_.out (by kernel_rfl)) ?_
           refine Sh.pA 3 46 (Sh.pre 47 4) (any_of HT_.out (by kernel_rfl)) ?_
           refine Sh.pA 4 47 (Sh.pre 47 5) (any_of HT_.out (by kernel_rfl)) ?_
           refine Sh.pA 6 49 #[true, true, true, true, true, false, true, false, false, false, false, false, false, false, false, false, false, false, false, false, false, false, false, false, false, false, false, false, false, false, false, false, false, false, false, false, false, false, false, false, false, false, false, false, false, false, false] (any_of HT_.out (by kernel_rfl)) ?_
           refine Sh.tA 5 48 (Sh.pre 47 7) (take_ofW HT_.out HW_.out (by kernel_rfl)) hHeld ?_ (hy := by rintro w' ⟨s0, s1, s2, s3, s4, s5, s6⟩; go_simp; with_reducible rfl)
           refine Sh.tA 7 50 (Sh.pre 47 8) (take_ofW HT_.out HW_.out (by kernel_rfl)) hHeld ?_ (hy := by rintro w' ⟨s0, s1, s2, s3, s4, s5, s6⟩; go_simp; with_reducible rfl)
           refine Sh.pA 8 51 (Sh.pre 47 9) (any_of HT_.out (by kernel_rfl)) ?_
           refine Sh.pA 9 52 (Sh.pre 47 10) (any_of HT_.out (by kernel_rfl)) ?_
           refine Sh.pA 10 53 (Sh.pre 47 11) (any_of HT_.out (by kernel_rfl)) ?_
           refine Sh.pU 11 54 (Sh.pre 47 12) (any_of HT_.out (by kernel_rfl)) ?_
           refine Sh.pU 12 55 (Sh.pre 47 13) (any_of HT_.out (by kernel_rfl)) ?_
           refine Sh.pU 13 56 (Sh.pre 47 14) (any_of HT_.out (by kernel_rfl)) ?_
           refine Sh.pA 14 57 (Sh.pre 47 15) (any_of HT_.out (by kernel_rfl)) ?_
           refine Sh.pA 15 58 (Sh.pre 47 16) (any_of HT_.out (by kernel_rfl)) ?_
           refine Sh.pU 16 59 (Sh.pre 47 17) (any_of HT_.out (by kernel_rfl)) ?_
           refine Sh.pU 17 60 (Sh.pre 47 18) (any_of HT_.out (by kernel_rfl)) ?_
           refine Sh.pU 18 61 (Sh.pre 47 19) (any_of HT_.out (by kernel_rfl)) ?_
           refine Sh.pU 19 62 (Sh.pre 47 20) (any_of HT_.out (by kernel_rfl)) ?_
           refine Sh.pU 20 63 (Sh.pre 47 21) (any_of HT_.out (by kernel_rfl)) ?_
           refine Sh.pA 21 64 (Sh.pre 47 22) (any_of HT_.out (by kernel_rfl)) ?_
           refine Sh.pA 22 65 (Sh.pre 47 23) (any_of HT_.out (by kernel_rfl)) ?_
           refine Sh.pU 23 66 (Sh.pre 47 24) (any_of HT_.out (by kernel_rfl)) ?_
           refine Sh.pU 24 67 (Sh.pre 47 25) (any_of HT_.out (by kernel_rfl)) ?_
           refine Sh.pU 25 68 (Sh.pre 47 26) (any_of HT_.out (by kernel_rfl)) ?_
           refine Sh.pA 26 69 (Sh.pre 47 27) (any_of HT_.out (by kernel_rfl)) ?_
           refine Sh.pA 27 70 (Sh.pre 47 28) (any_of HT_.out (by kernel_rfl)) ?_
           refine Sh.pU 28 71 (Sh.pre 47 29) (any_of HT_.out (by kernel_rfl)) ?_
           refine Sh.pU 29 72 (Sh.pre 47 30) (any_of HT_.out (by kernel_rfl)) ?_
           refine Sh.pU 30 73 (Sh.pre 47 31) (any_of HT_.out (by kernel_rfl)) ?_
           refine Sh.pA 31 74 (Sh.pre 47 32) (any_of HT_.out (by kernel_rfl)) ?_
           refine Sh.pA 32 75 (Sh.pre 47 33) (any_of HT_.out (by kernel_rfl)) ?_
           refine Sh.pU 33 76 (Sh.pre 47 34) (any_of HT_.out (by kernel_rfl)) ?_
           refine Sh.pU 34 77 (Sh.pre 47 35) (any_of HT_.out (by kernel_rfl)) ?_
           refine Sh.pU 35 78 (Sh.pre 47 36) (any_of HT_.out (by kernel_rfl)) ?_
           refine Sh.pU 36 79 (Sh.pre 47 37) (any_of HT_.out (by kernel_rfl)) ?_
           refine Sh.pU 37 80 (Sh.pre 47 38) (any_of HT_.out (by kernel_rfl)) ?_
           refine Sh.pU 38 81 (Sh.pre 47 39) (any_of HT_.out (by kernel_rfl)) ?_
           refine Sh.pU 39 82 (Sh.pre 47 40) (any_of HT_.out (by kernel_rfl)) ?_
           refine Sh.pU 40 83 (Sh.pre 47 41) (any_of HT_.out (by kernel_rfl)) ?_
           refine Sh.pU 41 84 (Sh.pre 47 42) (any_of HT_.out (by kernel_rfl)) ?_
           refine Sh.pU 42 85 (Sh.pre 47 43) (any_of HT_.out (by kernel_rfl)) ?_
           refine Sh.pU 43 86 (Sh.pre 47 44) (any_of HT_.out (by kernel_rfl)) ?_
           refine Sh.pU 44 87 (Sh.pre 47 45) (any_of HT_.out (by kernel_rfl)) ?_
           refine Sh.pU 45 88 (Sh.pre 47 46) (any_of HT_.out (by kernel_rfl)) ?_
           refine Sh.pA 46 89 (Sh.pre 47 47) (any_of HT_.out (by kernel_rfl)) ?_
           refine done_ (done_of HT_.out (by kernel_rfl)) ?_
           try go_wp2
           go_ret
           exact ⟨by first | rfl | (simp [errW_none, errW_some] <;> rfl) | (simp [*, errW_none, errW_some] <;> rfl), by repeat (first | (with_reducible first | exact HB.out | apply below_alloc | apply pw_below_drewN | apply below_drew1 | refine below_set ?_ GE179.out | refine below_set ?_ GE183.out) | exact HB.out)⟩
          ·rw [if_neg c27] at H
           have c27b0 : decide (a0_0 ≤ ((rd_T113 l0_2 x38_2).f0)) = false := decide_eq_false c27
           clear c27
           by_cases c33 : ((rd_T113 l0_2 x38_2).f2) < 0
           ·rw [if_pos c33] at H
            have c33b0 : decide (((rd_T113 l0_2 x38_2).f2) < 0) = true := decide_eq_true c33
            clear c33
            obtain rfl := Option.some.inj H
            have p182 : 0 ≤ (x38_2 : Int) := of_decide_eq_true (by first | (with_reducible assumption) | assumption)
            have q182 : x38_2 < (l0_2.length : Int) := of_decide_eq_true (by first | (with_reducible assumption) | assumption)
            obtain ⟨ad182, e182, hx182_0, hx182_1, hx182_2⟩ := at_T113 HR0_2.out x38_2 p182 q182
            cases e182
            (try replace hx182_0 := (HB.out.cell (World.block_lt_of_cell? w _ hx182_0)).trans hx182_0)
            (try replace hx182_1 := (HB.out.cell (World.block_lt_of_cell? w _ hx182_1)).trans hx182_1)
            (try replace hx182_2 := (HB.out.cell (World.block_lt_of_cell? w _ hx182_2)).trans hx182_2)
            replace p182 := eq_true p182
            replace q182 := eq_true q182
            try go_wp2_with (first | ((with_reducible refine gate_dst (N := 4) rfl ?_); (try (refine gate_guard (by rfl) ?_; dsimp only)); refine box_event ?hg (N := 4) ?hd (cs := #[.int .i64 0, .int .i64 0, .int .i64 0]) (t := 113) ?hr ?_; (case hd => rfl); (case hg => rfl); (case hr => first | (go_simp; done) | (go_simp; rfl)); intro gb183 hg w34 hbox hb; have n0_ := am_ (blk_below (g := gb179) (o := .cells #[.int .i64 a0_0, .slice A0_1 l0_1.length c0_1, .slice (some ad182) l0_2.length c0_2, .slice A0_3 l0_3.length c0_3] 67 (0, 0)) (by (with_reducible repeat (first | refine blk_drewN ?_ _ | refine blk_drew ?_ | refine blk_alloc ?_ _)); exact BK179.out) hb); have n1_ := am_ (below_step (by repeat (first | (with_reducible first | exact HB.out | apply below_alloc | apply pw_below_drewN | apply below_drew1 | refine below_set ?_ GE179.out) | exact HB.out)) hb); have n2_ := am_ (hbox); have n3_ := am_ ((by rw [hg]; exact (below_size (by repeat (first | (with_reducible first | exact HB.out | apply below_alloc | apply pw_below_drewN | apply below_drew1 | refine below_set ?_ GE179.out) | exact HB.out))) : w.heap.size ≤ gb183)); have n4_ := am_ ((by rw [hg]; exact (below_size (by repeat (first | (with_reducible first | exact HB.out | apply below_alloc | apply pw_below_drewN | apply below_drew1 | refine below_set ?_ GE179.out) | exact HB.out))) : w.heap.size ≤ gb183)); have n5_ := am_ ((by rw [hg]; exact Nat.ne_of_lt (blk_lt (g := gb179) (o := .cells #[.int .i64 a0_0, .slice A0_1 l0_1.length c0_1, .slice (some ad182) l0_2.length c0_2, .slice A0_3 l0_3.length c0_3] 67 (0, 0)) (by (with_reducible repeat (first | refine blk_drewN ?_ _ | refine blk_drew ?_ | refine blk_alloc ?_ _)); exact BK179.out)) : gb179 ≠ gb183)); have n6_ := am_ ((by rw [hg]; exact Nat.ne_of_gt (blk_lt (g := gb179) (o := .cells #[.int .i64 a0_0, .slice A0_1 l0_1.length c0_1, .slice (some ad182) l0_2.length c0_2, .slice A0_3 l0_3.length c0_3] 67 (0, 0)) (by (with_reducible repeat (first | refine blk_drewN ?_ _ | refine blk_drew ?_ | refine blk_alloc ?_ _)); exact BK179.out)) : gb183 ≠ gb179)); clear BK179; clear HB; have BK179 := n0_; have HB := n1_; have BK183 := n2_; have GW183 := n3_; have GE183 := n4_; have NB179_183 := n5_; have NB183_179 := n6_; clear n0_ n1_ n2_ n3_ n4_ n5_ n6_; clear hb hbox hg; have hnb35 := NB183_179.out; have hnc35 := NB179_183.out; have hcz36_0 : w34.cell? ⟨gb183, 0, none⟩ = some (.int .i64 0) := (blk_cell BK183.out 0).trans rfl; have hcz36_1 : w34.cell? ⟨gb183, 1, none⟩ = some (.int .i64 0) := (blk_cell BK183.out 1).trans rfl; have hcz36_2 : w34.cell? ⟨gb183, 2, none⟩ = some (.int .i64 0) := (blk_cell BK183.out 2).trans rfl; have hfz36_0 := blk_frozen BK183.out 0; have hfz36_1 := blk_frozen BK183.out 1; have hfz36_2 := blk_frozen BK183.out 2))
            have n0_ : Aside0 ((((w34.setCell ⟨gb183, 0, none⟩ (.int .i64 ((rd_T113 l0_2 x38_2).f0))).setCell ⟨gb183, 1, none⟩ (.int .i64 ((rd_T113 l0_2 x38_2).f1))).setCell ⟨gb183, 2, none⟩ (.int .i64 ((rd_T113 l0_2 x38_2).f2))).heap[gb179]? = some (.cells #[.int .i64 a0_0, .slice A0_1 l0_1.length c0_1, .slice (some ad182) l0_2.length c0_2, .slice A0_3 l0_3.length c0_3] 67 (0, 0))) := ⟨by (with_reducible repeat (first | refine blk_drewN ?_ _ | refine blk_drew ?_ | refine blk_alloc ?_ _)); refine blk_far ?_ NB179_183.out _; (with_reducible repeat (first | refine blk_drewN ?_ _ | refine blk_drew ?_ | refine blk_alloc ?_ _)); refine blk_far ?_ NB179_183.out _; (with_reducible repeat (first | refine blk_drewN ?_ _ | refine blk_drew ?_ | refine blk_alloc ?_ _)); refine blk_far ?_ NB179_183.out _; (with_reducible repeat (first | refine blk_drewN ?_ _ | refine blk_drew ?_ | refine blk_alloc ?_ _)); exact BK179.out⟩
            have n1_ : Aside0 ((((w34.setCell ⟨gb183, 0, none⟩ (.int .i64 ((rd_T113 l0_2 x38_2).f0))).setCell ⟨gb183, 1, none⟩ (.int .i64 ((rd_T113 l0_2 x38_2).f1))).setCell ⟨gb183, 2, none⟩ (.int .i64 ((rd_T113 l0_2 x38_2).f2))).heap[gb183]? = some (.cells #[.int .i64 ((rd_T113 l0_2 x38_2).f0), .int .i64 ((rd_T113 l0_2 x38_2).f1), .int .i64 ((rd_T113 l0_2 x38_2).f2)] 113 (0, 0))) := ⟨by (with_reducible repeat (first | refine blk_drewN ?_ _ | refine blk_drew ?_ | refine blk_alloc ?_ _)); refine blk_put (cs := #[.int .i64 ((rd_T113 l0_2 x38_2).f0), .int .i64 ((rd_T113 l0_2 x38_2).f1), .int .i64 0]) ?_ 2 _ rfl; (with_reducible repeat (first | refine blk_drewN ?_ _ | refine blk_drew ?_ | refine blk_alloc ?_ _)); refine blk_put (cs := #[.int .i64 ((rd_T113 l0_2 x38_2).f0), .int .i64 0, .int .i64 0]) ?_ 1 _ rfl; (with_reducible repeat (first | refine blk_drewN ?_ _ | refine blk_drew ?_ | refine blk_alloc ?_ _)); refine blk_put (cs := #[.int .i64 0, .int .i64 0, .int .i64 0]) ?_ 0 _ rfl; (with_reducible repeat (first | refine blk_drewN ?_ _ | refine blk_drew ?_ | refine blk_alloc ?_ _)); exact BK183.out⟩
            have n2_ : Aside0 (Below w.heap.size w (((w34.setCell ⟨gb183, 0, none⟩ (.int .i64 ((rd_T113 l0_2 x38_2).f0))).setCell ⟨gb183, 1, none⟩ (.int .i64 ((rd_T113 l0_2 x38_2).f1))).setCell ⟨gb183, 2, none⟩ (.int .i64 ((rd_T113 l0_2 x38_2).f2)))) := ⟨by repeat (first | (with_reducible first | exact HB.out | apply below_alloc | apply pw_below_drewN | apply below_drew1 | refine below_set ?_ GE179.out | refine below_set ?_ GE183.out) | exact HB.out)⟩
            (try clear BK179)
            (try clear BK183)
            (try clear HB)
            generalize (((w34.setCell ⟨gb183, 0, none⟩ (.int .i64 ((rd_T113 l0_2 x38_2).f0))).setCell ⟨gb183, 1, none⟩ (.int .i64 ((rd_T113 l0_2 x38_2).f1))).setCell ⟨gb183, 2, none⟩ (.int .i64 ((rd_T113 l0_2 x38_2).f2))) = w37 at n0_ n1_ n2_ ⊢
            have BK179 := n0_
            have BK183 := n1_
            have HB := n2_
            clear n0_ n1_ n2_
            have n0_ := am_ (blk_drew BK179.out)
            have n1_ := am_ (blk_drew BK183.out)
            have n2_ := am_ (below_drew1 HB.out)
            clear BK179
            clear BK183
            clear HB
            have BK179 := n0_
            have BK183 := n1_
            have HB := n2_
            clear n0_ n1_ n2_
            refine start_ (n := 47) (S := fun w' => w'.cell? ⟨gb183, 0, none⟩ = some (.int .i64 ((rd_T113 l0_2 x38_2).f0)) ∧ w'.cell? ⟨gb183, 1, none⟩ = some (.int .i64 ((rd_T113 l0_2 x38_2).f1)) ∧ w'.cell? ⟨gb183, 2, none⟩ = some (.int .i64 ((rd_T113 l0_2 x38_2).f2)) ∧ w'.cell? ⟨gb179, 0, none⟩ = some (.int .i64 a0_0) ∧ w'.cell? ⟨gb179, 1, none⟩ = some (.slice A0_1 l0_1.length c0_1) ∧ w'.cell? ⟨gb179, 2, none⟩ = some (.slice (some ad182) l0_2.length c0_2) ∧ w'.cell? ⟨gb179, 3, none⟩ = some (.slice A0_3 l0_3.length c0_3)) (ds := []) #[false, false, false, false, false, false, false, false, false, false, false, false, false, false, false, false, false, false, false, false, false, false, false, false, false, false, false, false, false, false, false, false, false, false, false, false, false, false, false, false, false, false, false, false, false, false, false] (by kernel_rfl) rfl rfl ⟨(blk_cell BK183.out 0).trans rfl, (blk_cell BK183.out 1).trans rfl, (blk_cell BK183.out 2).trans rfl, (blk_cell BK179.out 0).trans rfl, (blk_cell BK179.out 1).trans rfl, (blk_cell BK179.out 2).trans rfl, (blk_cell BK179.out 3).trans rfl⟩ (fun hHeld => ?_); refine with_tabW impl_GoodAuto.tab6 impl_GoodAuto.bits6 (fun HT_ HW_ => ?_)
            generalize w37.drew = w38 at BK179 BK183 HB hHeld ⊢
            refine Sh.pA 0 43 (Sh.pre 47 1) (any_of HT_.out (by kernel_rfl)) ?_
            refine Sh.tA 1 44 (Sh.pre 47 2) (take_ofW HT_.out HW_.out (by kernel_rfl)) hHeld ?_ (hy := by rintro w' ⟨s0, s1, s2, s3, s4, s5, s6⟩; go_simp; with_reducible rfl)
            refine Sh.pA 2 45 (Sh.pre 47 3) (any_of HT_.out (by kernel_rfl)) ?_
            refine Sh.pA 3 46 (Sh.pre 47 4) (any_of HT_.out (by kernel_rfl)) ?_
            refine Sh.pA 4 47 (Sh.pre 47 5) (any_of HT_.out (by kernel_rfl)) ?_
            refine Sh.pA 6 49 #[true, true, true, true, true, false, true, false, false, false, false, false, false, false, false, false, false, false, false, false, false, false, false, false, false, false, false, false, false, false, false, false, false, false, false, false, false, false, false, false, false, false, false, false, false, false, false] (any_of HT_.out (by kernel_rfl)) ?_
            refine Sh.tA 5 48 (Sh.pre 47 7) (take_ofW HT_.out HW_.out (by kernel_rfl)) hHeld ?_ (hy := by rintro w' ⟨s0, s1, s2, s3, s4, s5, s6⟩; go_simp; with_reducible rfl)
            refine Sh.tA 7 50 (Sh.pre 47 8) (take_ofW HT_.out HW_.out (by kernel_rfl)) hHeld ?_ (hy := by rintro w' ⟨s0, s1, s2, s3, s4, s5, s6⟩; go_simp; with_reducible rfl)
            refine Sh.pA 8 51 (Sh.pre 47 9) (any_of HT_.out (by kernel_rfl)) ?_
            refine Sh.pA 9 52 (Sh.pre 47 10) (any_of HT_.out (by kernel_rfl)) ?_
            refine Sh.pA 10 53 (Sh.pre 47 11) (any_of HT_.out (by kernel_rfl)) ?_
            refine Sh.pA 11 54 (Sh.pre 47 12) (any_of HT_.out (by kernel_rfl)) ?_
            refine Sh.tA 12 55 (Sh.pre 47 13) (take_ofW HT_.out HW_.out (by kernel_rfl)) hHeld ?_ (hy := by rintro w' ⟨s0, s1, s2, s3, s4, s5, s6⟩; go_simp; with_reducible rfl)
            refine Sh.pA 13 56 (Sh.pre 47 14) (any_of HT_.out (by kernel_rfl)) ?_
            refine Sh.pA 14 57 (Sh.pre 47 15) (any_of HT_.out (by kernel_rfl)) ?_
            refine Sh.pA 15 58 (Sh.pre 47 16) (any_of HT_.out (by kernel_rfl)) ?_
            refine Sh.pU 16 59 (Sh.pre 47 17) (any_of HT_.out (by kernel_rfl)) ?_
            refine Sh.pU 17 60 (Sh.pre 47 18) (any_of HT_.out (by kernel_rfl)) ?_
            refine Sh.pU 18 61 (Sh.pre 47 19) (any_of HT_.out (by kernel_rfl)) ?_
            refine Sh.pU 19 62 (Sh.pre 47 20) (any_of HT_.out (by kernel_rfl)) ?_
            refine Sh.pU 20 63 (Sh.pre 47 21) (any_of HT_.out (by kernel_rfl)) ?_
            refine Sh.pA 21 64 (Sh.pre 47 22) (any_of HT_.out (by kernel_rfl)) ?_
            refine Sh.pA 22 65 (Sh.pre 47 23) (any_of HT_.out (by kernel_rfl)) ?_
            refine Sh.pU 23 66 (Sh.pre 47 24) (any_of HT_.out (by kernel_rfl)) ?_
            refine Sh.pU 24 67 (Sh.pre 47 25) (any_of HT_.out (by kernel_rfl)) ?_
            refine Sh.pU 25 68 (Sh.pre 47 26) (any_of HT_.out (by kernel_rfl)) ?_
            refine Sh.pA 26 69 (Sh.pre 47 27) (any_of HT_.out (by kernel_rfl)) ?_
            refine Sh.pA 27 70 (Sh.pre 47 28) (any_of HT_.out (by kernel_rfl)) ?_
            refine Sh.pU 28 71 (Sh.pre 47 29) (any_of HT_.out (by kernel_rfl)) ?_
            refine Sh.pU 29 72 (Sh.pre 47 30) (any_of HT_.out (by kernel_rfl)) ?_
            refine Sh.pU 30 73 (Sh.pre 47 31) (any_of HT_.out (by kernel_rfl)) ?_
            refine Sh.pA 31 74 (Sh.pre 47 32) (any_of HT_.out (by kernel_rfl)) ?_
            refine Sh.pA 32 75 (Sh.pre 47 33) (any_of HT_.out (by kernel_rfl)) ?_
            refine Sh.pU 33 76 (Sh.pre 47 34) (any_of HT_.out (by kernel_rfl)) ?_
            refine Sh.pU 34 77 (Sh.pre 47 35) (any_of HT_.out (by kernel_rfl)) ?_
            refine Sh.pU 35 78 (Sh.pre 47 36) (any_of HT_.out (by kernel_rfl)) ?_
            refine Sh.pU 36 79 (Sh.pre 47 37) (any_of HT_.out (by kernel_rfl)) ?_
            refine Sh.pU 37 80 (Sh.pre 47 38) (any_of HT_.out (by kernel_rfl)) ?_
            refine Sh.pU 38 81 (Sh.pre 47 39) (any_of HT_.out (by kernel_rfl)) ?_
            refine Sh.pU 39 82 (Sh.pre 47 40) (any_of HT_.out (by kernel_rfl)) ?_
            refine Sh.pU 40 83 (Sh.pre 47 41) (any_of HT_.out (by kernel_rfl)) ?_
            refine Sh.pU 41 84 (Sh.pre 47 42) (any_of HT_.out (by kernel_rfl)) ?_
            refine Sh.pU 42 85 (Sh.pre 47 43) (any_of HT_.out (by kernel_rfl)) ?_
            refine Sh.pU 43 86 (Sh.pre 47 44) (any_of HT_.out (by kernel_rfl)) ?_
            refine Sh.pU 44 87 (Sh.pre 47 45) (any_of HT_.out (by kernel_rfl)) ?_
            refine Sh.pU 45 88 (Sh.pre 47 46) (any_of HT_.out (by kernel_rfl)) ?_
            refine Sh.pA 46 89 (Sh.pre 47 47) (any_of HT_.out (by kernel_rfl)) ?_
            refine done_ (done_of HT_.out (by kernel_rfl)) ?_
            try go_wp2
            go_ret
            exact ⟨by first | rfl | (simp [errW_none, errW_some] <;> rfl) | (simp [*, errW_none, errW_some] <;> rfl), by repeat (first | (with_reducible first | exact HB.out | apply below_alloc | apply pw_below_drewN | apply below_drew1 | refine below_set ?_ GE179.out | refine below_set ?_ GE183.out) | exact HB.out)⟩
           ·rw [if_neg c33] at H
            have c33b0 : decide (((rd_T113 l0_2 x38_2).f2) < 0) = false := decide_eq_false c33
            clear c33
            by_cases c39 : ((rd_T113 l0_2 x38_2).f2) ≥ a0_0
            ·rw [if_pos c39] at H
             have c39b0 : decide (a0_0 ≤ ((rd_T113 l0_2 x38_2).f2)) = true := decide_eq_true c39
             clear c39
             obtain rfl := Option.some.inj H
             have p182 : 0 ≤ (x38_2 : Int) := of_decide_eq_true (by first | (with_reducible assumption) | assumption)
             have q182 : x38_2 < (l0_2.length : Int) := of_decide_eq_true (by first | (with_reducible assumption) | assumption)
             obtain ⟨ad182, e182, hx182_0, hx182_1, hx182_2⟩ := at_T113 HR0_2.out x38_2 p182 q182
             cases e182
             (try replace hx182_0 := (HB.out.cell (World.block_lt_of_cell? w _ hx182_0)).trans hx182_0)
             (try replace hx182_1 := (HB.out.cell (World.block_lt_of_cell? w _ hx182_1)).trans hx182_1)
             (try replace hx182_2 := (HB.out.cell (World.block_lt_of_cell? w _ hx182_2)).trans hx182_2)
             replace p182 := eq_true p182
             replace q182 := eq_true q182
             try go_wp2_with (first | ((with_reducible refine gate_dst (N := 4) rfl ?_); (try (refine gate_guard (by rfl) ?_; dsimp only)); refine box_event ?hg (N := 4) ?hd (cs := #[.int .i64 0, .int .i64 0, .int .i64 0]) (t := 113) ?hr ?_; (case hd => rfl); (case hg => rfl); (case hr => first | (go_simp; done) | (go_simp; rfl)); intro gb183 hg w40 hbox hb; have n0_ := am_ (blk_below (g := gb179) (o := .cells #[.int .i64 a0_0, .slice A0_1 l0_1.length c0_1, .slice (some ad182) l0_2.length c0_2, .slice A0_3 l0_3.length c0_3] 67 (0, 0)) (by (with_reducible repeat (first | refine blk_drewN ?_ _ | refine blk_drew ?_ | refine blk_alloc ?_ _)); exact BK179.out) hb); have n1_ := am_ (below_step (by repeat (first | (with_reducible first | exact HB.out | apply below_alloc | apply pw_below_drewN | apply below_drew1 | refine below_set ?_ GE179.out) | exact HB.out)) hb); have n2_ := am_ (hbox); have n3_ := am_ ((by rw [hg]; exact (below_size (by repeat (first | (with_reducible first | exact HB.out | apply below_alloc | apply pw_below_drewN | apply below_drew1 | refine below_set ?_ GE179.out) | exact HB.out))) : w.heap.size ≤ gb183)); have n4_ := am_ ((by rw [hg]; exact (below_size (by repeat (first | (with_reducible first | exact HB.out | apply below_alloc | apply pw_below_drewN | apply below_drew1 | refine below_set ?_ GE179.out) | exact HB.out))) : w.heap.size ≤ gb183)); have n5_ := am_ ((by rw [hg]; exact Nat.ne_of_lt (blk_lt (g := gb179) (o := .cells #[.int .i64 a0_0, .slice A0_1 l0_1.length c0_1, .slice (some ad182) l0_2.length c0_2, .slice A0_3 l0_3.length c0_3] 67 (0, 0)) (by (with_reducible repeat (first | refine blk_drewN ?_ _ | refine blk_drew ?_ | refine blk_alloc ?_ _)); exact BK179.out)) : gb179 ≠ gb183)); have n6_ := am_ ((by rw [hg]; exact Nat.ne_of_gt (blk_lt (g := gb179) (o := .cells #[.int .i64 a0_0, .slice A0_1 l0_1.length c0_1, .slice (some ad182) l0_2.length c0_2, .slice A0_3 l0_3.length c0_3] 67 (0, 0)) (by (with_reducible repeat (first | refine blk_drewN ?_ _ | refine blk_drew ?_ | refine blk_alloc ?_ _)); exact BK179.out)) : gb183 ≠ gb179)); clear BK179; clear HB; have BK179 := n0_; have HB := n1_; have BK183 := n2_; have GW183 := n3_; have GE183 := n4_; have NB179_183 := n5_; have NB183_179 := n6_; clear n0_ n1_ n2_ n3_ n4_ n5_ n6_; clear hb hbox hg; have hnb41 := NB183_179.out; have hnc41 := NB179_183.out; have hcz42_0 : w40.cell? ⟨gb183, 0, none⟩ = some (.int .i64 0) := (blk_cell BK183.out 0).trans rfl; have hcz42_1 : w40.cell? ⟨gb183, 1, none⟩ = some (.int .i64 0) := (blk_cell BK183.out 1).trans rfl; have hcz42_2 : w40.cell? ⟨gb183, 2, none⟩ = some (.int .i64 0) := (blk_cell BK183.out 2).trans rfl; have hfz42_0 := blk_frozen BK183.out 0; have hfz42_1 := blk_frozen BK183.out 1; have hfz42_2 := blk_frozen BK183.out 2))
             have n0_ : Aside0 ((((w40.setCell ⟨gb183, 0, none⟩ (.int .i64 ((rd_T113 l0_2 x38_2).f0))).setCell ⟨gb183, 1, none⟩ (.int .i64 ((rd_T113 l0_2 x38_2).f1))).setCell ⟨gb183, 2, none⟩ (.int .i64 ((rd_T113 l0_2 x38_2).f2))).heap[gb179]? = some (.cells #[.int .i64 a0_0, .slice A0_1 l0_1.length c0_1, .slice (some ad182) l0_2.length c0_2, .slice A0_3 l0_3.length c0_3] 67 (0, 0))) := ⟨by (with_reducible repeat (first | refine blk_drewN ?_ _ | refine blk_drew ?_ | refine blk_alloc ?_ _)); refine blk_far ?_ NB179_183.out _; (with_reducible repeat (first | refine blk_drewN ?_ _ | refine blk_drew ?_ | refine blk_alloc ?_ _)); refine blk_far ?_ NB179_183.out _; (with_reducible repeat (first | refine blk_drewN ?_ _ | refine blk_drew ?_ | refine blk_alloc ?_ _)); refine blk_far ?_ NB179_183.out _; (with_reducible repeat (first | refine blk_drewN ?_ _ | refine blk_drew ?_ | refine blk_alloc ?_ _)); exact BK179.out⟩
             have n1_ : Aside0 ((((w40.setCell ⟨gb183, 0, none⟩ (.int .i64 ((rd_T113 l0_2 x38_2).f0))).setCell ⟨gb183, 1, none⟩ (.int .i64 ((rd_T113 l0_2 x38_2).f1))).setCell ⟨gb183, 2, none⟩ (.int .i64 ((rd_T113 l0_2 x38_2).f2))).heap[gb183]? = some (.cells #[.int .i64 ((rd_T113 l0_2 x38_2).f0), .int .i64 ((rd_T113 l0_2 x38_2).f1), .int .i64 ((rd_T113 l0_2 x38_2).f2)] 113 (0, 0))) := ⟨by (with_reducible repeat (first | refine blk_drewN ?_ _ | refine blk_drew ?_ | refine blk_alloc ?_ _)); refine blk_put (cs := #[.int .i64 ((rd_T113 l0_2 x38_2).f0), .int .i64 ((rd_T113 l0_2 x38_2).f1), .int .i64 0]) ?_ 2 _ rfl; (with_reducible repeat (first | refine blk_drewN ?_ _ | refine blk_drew ?_ | refine blk_alloc ?_ _)); refine blk_put (cs := #[.int .i64 ((rd_T113 l0_2 x38_2).f0), .int .i64 0, .int .i64 0]) ?_ 1 _ rfl; (with_reducible repeat (first | refine blk_drewN ?_ _ | refine blk_drew ?_ | refine blk_alloc ?_ _)); refine blk_put (cs := #[.int .i64 0, .int .i64 0, .int .i64 0]) ?_ 0 _ rfl; (with_reducible repeat (first | refine blk_drewN ?_ _ | refine blk_drew ?_ | refine blk_alloc ?_ _)); exact BK183.out⟩
             have n2_ : Aside0 (Below w.heap.size w (((w40.setCell ⟨gb183, 0, none⟩ (.int .i64 ((rd_T113 l0_2 x38_2).f0))).setCell ⟨gb183, 1, none⟩ (.int .i64 ((rd_T113 l0_2 x38_2).f1))).setCell ⟨gb183, 2, none⟩ (.int .i64 ((rd_T113 l0_2 x38_2).f2)))) := ⟨by repeat (first | (with_reducible first | exact HB.out | apply below_alloc | apply pw_below_drewN | apply below_drew1 | refine below_set ?_ GE179.out | refine below_set ?_ GE183.out) | exact HB.out)⟩
             (try clear BK179)
             (try clear BK183)
             (try clear HB)
             generalize (((w40.setCell ⟨gb183, 0, none⟩ (.int .i64 ((rd_T113 l0_2 x38_2).f0))).setCell ⟨gb183, 1, none⟩ (.int .i64 ((rd_T113 l0_2 x38_2).f1))).setCell ⟨gb183, 2, none⟩ (.int .i64 ((rd_T113 l0_2 x38_2).f2))) = w43 at n0_ n1_ n2_ ⊢
             have BK179 := n0_
             have BK183 := n1_
             have HB := n2_
             clear n0_ n1_ n2_
             have n0_ := am_ (blk_drew BK179.out)
             have n1_ := am_ (blk_drew BK183.out)
             have n2_ := am_ (below_drew1 HB.out)
             clear BK179
             clear BK183
             clear HB
             have BK179 := n0_
             have BK183 := n1_
             have HB := n2_
             clear n0_ n1_ n2_
             refine start_ (n := 47) (S := fun w' => w'.cell? ⟨gb183, 0, none⟩ = some (.int .i64 ((rd_T113 l0_2 x38_2).f0)) ∧ w'.cell? ⟨gb183, 1, none⟩ = some (.int .i64 ((rd_T113 l0_2 x38_2).f1)) ∧ w'.cell? ⟨gb183, 2, none⟩ = some (.int .i64 ((rd_T113 l0_2 x38_2).f2)) ∧ w'.cell? ⟨gb179, 0, none⟩ = some (.int .i64 a0_0) ∧ w'.cell? ⟨gb179, 1, none⟩ = some (.slice A0_1 l0_1.length c0_1) ∧ w'.cell? ⟨gb179, 2, none⟩ = some (.slice (some ad182) l0_2.length c0_2) ∧ w'.cell? ⟨gb179, 3, none⟩ = some (.slice A0_3 l0_3.length c0_3)) (ds := []) #[false, false, false, false, false, false, false, false, false, false, false, false, false, false, false, false, false, false, false, false, false, false, false, false, false, false, false, false, false, false, false, false, false, false, false, false, false, false, false, false, false, false, false, false, false, false, false] (by kernel_rfl) rfl rfl ⟨(blk_cell BK183.out 0).trans rfl, (blk_cell BK183.out 1).trans rfl, (blk_cell BK183.out 2).trans rfl, (blk_cell BK179.out 0).trans rfl, (blk_cell BK179.out 1).trans rfl, (blk_cell BK179.out 2).trans rfl, (blk_cell BK179.out 3).trans rfl⟩ (fun hHeld => ?_); refine with_tabW impl_GoodAuto.tab6 impl_GoodAuto.bits6 (fun HT_ HW_ => ?_)
             generalize w43.drew = w44 at BK179 BK183 HB hHeld ⊢
             refine Sh.pA 0 43 (Sh.pre 47 1) (any_of HT_.out (by kernel_rfl)) ?_
             refine Sh.tA 1 44 (Sh.pre 47 2) (take_ofW HT_.out HW_.out (by kernel_rfl)) hHeld ?_ (hy := by rintro w' ⟨s0, s1, s2, s3, s4, s5, s6⟩; go_simp; with_reducible rfl)
             refine Sh.pA 2 45 (Sh.pre 47 3) (any_of HT_.out (by kernel_rfl)) ?_
             refine Sh.pA 3 46 (Sh.pre 47 4) (any_of HT_.out (by kernel_rfl)) ?_
             refine Sh.pA 4 47 (Sh.pre 47 5) (any_of HT_.out (by kernel_rfl)) ?_
             refine Sh.pA 6 49 #[true, true, true, true, true, false, true, false, false, false, false, false, false, false, false, false, false, false, false, false, false, false, false, false, false, false, false, false, false, false, false, false, false, false, false, false, false, false, false, false, false, false, false, false, false, false, false] (any_of HT_.out (by kernel_rfl)) ?_
             refine Sh.tA 5 48 (Sh.pre 47 7) (take_ofW HT_.out HW_.out (by kernel_rfl)) hHeld ?_ (hy := by rintro w' ⟨s0, s1, s2, s3, s4, s5, s6⟩; go_simp; with_reducible rfl)
             refine Sh.tA 7 50 (Sh.pre 47 8) (take_ofW HT_.out HW_.out (by kernel_rfl)) hHeld ?_ (hy := by rintro w' ⟨s0, s1, s2, s3, s4, s5, s6⟩; go_simp; with_reducible rfl)
             refine Sh.pA 8 51 (Sh.pre 47 9) (any_of HT_.out (by kernel_rfl)) ?_
             refine Sh.pA 9 52 (Sh.pre 47 10) (any_of HT_.out (by kernel_rfl)) ?_
             refine Sh.pA 10 53 (Sh.pre 47 11) (any_of HT_.out (by kernel_rfl)) ?_
             refine Sh.pA 11 54 (Sh.pre 47 12) (any_of HT_.out (by kernel_rfl)) ?_
             refine Sh.tA 12 55 (Sh.pre 47 13) (take_ofW HT_.out HW_.out (by kernel_rfl)) hHeld ?_ (hy := by rintro w' ⟨s0, s1, s2, s3, s4, s5, s6⟩; go_simp; with_reducible rfl)
             refine Sh.pA 13 56 (Sh.pre 47 14) (any_of HT_.out (by kernel_rfl)) ?_
             refine Sh.pA 14 57 (Sh.pre 47 15) (any_of HT_.out (by kernel_rfl)) ?_
             refine Sh.pA 15 58 (Sh.pre 47 16) (any_of HT_.out (by kernel_rfl)) ?_
             refine Sh.pA 16 59 (Sh.pre 47 17) (any_of HT_.out (by kernel_rfl)) ?_
             refine Sh.pA 18 61 #[true, true, true, true, true, true, true, true, true, true, true, true, true, true, true, true, true, false, true, false, false, false, false, false, false, false, false, false, false, false, false, false, false, false, false, false, false, false, false, false, false, false, false, false, false, false, false] (any_of HT_.out (by kernel_rfl)) ?_
             refine Sh.tA 17 60 (Sh.pre 47 19) (take_ofW HT_.out HW_.out (by kernel_rfl)) hHeld ?_ (hy := by rintro w' ⟨s0, s1, s2, s3, s4, s5, s6⟩; go_simp; with_reducible rfl)
             refine Sh.tA 19 62 (Sh.pre 47 20) (take_ofW HT_.out HW_.out (by kernel_rfl)) hHeld ?_ (hy := by rintro w' ⟨s0, s1, s2, s3, s4, s5, s6⟩; go_simp; with_reducible rfl)
             refine Sh.pA 20 63 (Sh.pre 47 21) (any_of HT_.out (by kernel_rfl)) ?_
             refine Sh.pA 21 64 (Sh.pre 47 22) (any_of HT_.out (by kernel_rfl)) ?_
             refine Sh.pA 22 65 (Sh.pre 47 23) (any_of HT_.out (by kernel_rfl)) ?_
             refine Sh.pU 23 66 (Sh.pre 47 24) (any_of HT_.out (by kernel_rfl)) ?_
             refine Sh.pU 24 67 (Sh.pre 47 25) (any_of HT_.out (by kernel_rfl)) ?_
             refine Sh.pU 25 68 (Sh.pre 47 26) (any_of HT_.out (by kernel_rfl)) ?_
             refine Sh.pA 26 69 (Sh.pre 47 27) (any_of HT_.out (by kernel_rfl)) ?_
             refine Sh.pA 27 70 (Sh.pre 47 28) (any_of HT_.out (by kernel_rfl)) ?_
             refine Sh.pU 28 71 (Sh.pre 47 29) (any_of HT_.out (by kernel_rfl)) ?_
             refine Sh.pU 29 72 (Sh.pre 47 30) (any_of HT_.out (by kernel_rfl)) ?_
             refine Sh.pU 30 73 (Sh.pre 47 31) (any_of HT_.out (by kernel_rfl)) ?_
             refine Sh.pA 31 74 (Sh.pre 47 32) (any_of HT_.out (by kernel_rfl)) ?_
             refine Sh.pA 32 75 (Sh.pre 47 33) (any_of HT_.out (by kernel_rfl)) ?_
             refine Sh.pU 33 76 (Sh.pre 47 34) (any_of HT_.out (by kernel_rfl)) ?_
             refine Sh.pU 34 77 (Sh.pre 47 35) (any_of HT_.out (by kernel_rfl)) ?_
             refine Sh.pU 35 78 (Sh.pre 47 36) (any_of HT_.out (by kernel_rfl)) ?_
             refine Sh.pU 36 79 (Sh.pre 47 37) (any_of HT_.out (by kernel_rfl)) ?_
             refine Sh.pU 37 80 (Sh.pre 47 38) (any_of HT_.out (by kernel_rfl)) ?_
             refine Sh.pU 38 81 (Sh.pre 47 39) (any_of HT_.out (by kernel_rfl)) ?_
             refine Sh.pU 39 82 (Sh.pre 47 40) (any_of HT_.out (by kernel_rfl)) ?_
             refine Sh.pU 40 83 (Sh.pre 47 41) (any_of HT_.out (by kernel_rfl)) ?_
             refine Sh.pU 41 84 (Sh.pre 47 42) (any_of HT_.out (by kernel_rfl)) ?_
             refine Sh.pU 42 85 (Sh.pre 47 43) (any_of HT_.out (by kernel_rfl)) ?_
             refine Sh.pU 43 86 (Sh.pre 47 44) (any_of HT_.out (by kernel_rfl)) ?_
             refine Sh.pU 44 87 (Sh.pre 47 45) (any_of HT_.out (by kernel_rfl)) ?_
             refine Sh.pU 45 88 (Sh.pre 47 46) (any_of HT_.out (by kernel_rfl)) ?_
             refine Sh.pA 46 89 (Sh.pre 47 47) (any_of HT_.out (by kernel_rfl)) ?_
             refine done_ (done_of HT_.out (by kernel_rfl)) ?_
             try go_wp2
             go_ret
             exact ⟨by first | rfl | (simp [errW_none, errW_some] <;> rfl) | (simp [*, errW_none, errW_some] <;> rfl), by repeat (first | (with_reducible first | exact HB.out | apply below_alloc | apply pw_below_drewN | apply below_drew1 | refine below_set ?_ GE179.out | refine below_set ?_ GE183.out) | exact HB.out)⟩
            ·rw [if_neg c39] at H
             have c39b0 : decide (a0_0 ≤ ((rd_T113 l0_2 x38_2).f2)) = false := decide_eq_false c39
             clear c39
             by_cases c45 : ((rd_T113 l0_2 x38_2).f1) < 0
             ·rw [if_pos c45] at H
              have c45b0 : decide (((rd_T113 l0_2 x38_2).f1) < 0) = true := decide_eq_true c45
              clear c45
              obtain rfl := Option.some.inj H
              have p182 : 0 ≤ (x38_2 : Int) := of_decide_eq_true (by first | (with_reducible assumption) | assumption)
              have q182 : x38_2 < (l0_2.length : Int) := of_decide_eq_true (by first | (with_reducible assumption) | assumption)
              obtain ⟨ad182, e182, hx182_0, hx182_1, hx182_2⟩ := at_T113 HR0_2.out x38_2 p182 q182
              cases e182
              (try replace hx182_0 := (HB.out.cell (World.block_lt_of_cell? w _ hx182_0)).trans hx182_0)
              (try replace hx182_1 := (HB.out.cell (World.block_lt_of_cell? w _ hx182_1)).trans hx182_1)
              (try replace hx182_2 := (HB.out.cell (World.block_lt_of_cell? w _ hx182_2)).trans hx182_2)
              replace p182 := eq_true p182
              replace q182 := eq_true q182
              try go_wp2_with (first | ((with_reducible refine gate_dst (N := 4) rfl ?_); (try (refine gate_guard (by rfl) ?_; dsimp only)); refine box_event ?hg (N := 4) ?hd (cs := #[.int .i64 0, .int .i64 0, .int .i64 0]) (t := 113) ?hr ?_; (case hd => rfl); (case hg => rfl); (case hr => first | (go_simp; done) | (go_simp; rfl)); intro gb183 hg w46 hbox hb; have n0_ := am_ (blk_below (g := gb179) (o := .cells #[.int .i64 a0_0, .slice A0_1 l0_1.length c0_1, .slice (some ad182) l0_2.length c0_2, .slice A0_3 l0_3.length c0_3] 67 (0, 0)) (by (with_reducible repeat (first | refine blk_drewN ?_ _ | refine blk_drew ?_ | refine blk_alloc ?_ _)); exact BK179.out) hb); have n1_ := am_ (below_step (by repeat (first | (with_reducible first | exact HB.out | apply below_alloc | apply pw_below_drewN | apply below_drew1 | refine below_set ?_ GE179.out) | exact HB.out)) hb); have n2_ := am_ (hbox); have n3_ := am_ ((by rw [hg]; exact (below_size (by repeat (first | (with_reducible first | exact HB.out | apply below_alloc | apply pw_below_drewN | apply below_drew1 | refine below_set ?_ GE179.out) | exact HB.out))) : w.heap.size ≤ gb183)); have n4_ := am_ ((by rw [hg]; exact (below_size (by repeat (first | (with_reducible first | exact HB.out | apply below_alloc | apply pw_below_drewN | apply below_drew1 | refine below_set ?_ GE179.out) | exact HB.out))) : w.heap.size ≤ gb183)); have n5_ := am_ ((by rw [hg]; exact Nat.ne_of_lt (blk_lt (g := gb179) (o := .cells #[.int .i64 a0_0, .slice A0_1 l0_1.length c0_1, .slice (some ad182) l0_2.length c0_2, .slice A0_3 l0_3.length c0_3] 67 (0, 0)) (by (with_reducible repeat (first | refine blk_drewN ?_ _ | refine blk_drew ?_ | refine blk_alloc ?_ _)); exact BK179.out)) : gb179 ≠ gb183)); have n6_ := am_ ((by rw [hg]; exact Nat.ne_of_gt (blk_lt (g := gb179) (o := .cells #[.int .i64 a0_0, .slice A0_1 l0_1.length c0_1, .slice (some ad182) l0_2.length c0_2, .slice A0_3 l0_3.length c0_3] 67 (0, 0)) (by (with_reducible repeat (first | refine blk_drewN ?_ _ | refine blk_drew ?_ | refine blk_alloc ?_ _)); exact BK179.out)) : gb183 ≠ gb179)); clear BK179; clear HB; have BK179 := n0_; have HB := n1_; have BK183 := n2_; have GW183 := n3_; have GE183 := n4_; have NB179_183 := n5_; have NB183_179 := n6_; clear n0_ n1_ n2_ n3_ n4_ n5_ n6_; clear hb hbox hg; have hnb47 := NB183_179.out; have hnc47 := NB179_183.out; have hcz48_0 : w46.cell? ⟨gb183, 0, none⟩ = some (.int .i64 0) := (blk_cell BK183.out 0).trans rfl; have hcz48_1 : w46.cell? ⟨gb183, 1, none⟩ = some (.int .i64 0) := (blk_cell BK183.out 1).trans rfl; have hcz48_2 : w46.cell? ⟨gb183, 2, none⟩ = some (.int .i64 0) := (blk_cell BK183.out 2).trans rfl; have hfz48_0 := blk_frozen BK183.out 0; have hfz48_1 := blk_frozen BK183.out 1; have hfz48_2 := blk_frozen BK183.out 2))
              have n0_ : Aside0 ((((w46.setCell ⟨gb183, 0, none⟩ (.int .i64 ((rd_T113 l0_2 x38_2).f0))).setCell ⟨gb183, 1, none⟩ (.int .i64 ((rd_T113 l0_2 x38_2).f1))).setCell ⟨gb183, 2, none⟩ (.int .i64 ((rd_T113 l0_2 x38_2).f2))).heap[gb179]? = some (.cells #[.int .i64 a0_0, .slice A0_1 l0_1.length c0_1, .slice (some ad182) l0_2.length c0_2, .slice A0_3 l0_3.length c0_3] 67 (0, 0))) := ⟨by (with_reducible repeat (first | refine blk_drewN ?_ _ | refine blk_drew ?_ | refine blk_alloc ?_ _)); refine blk_far ?_ NB179_183.out _; (with_reducible repeat (first | refine blk_drewN ?_ _ | refine blk_drew ?_ | refine blk_alloc ?_ _)); refine blk_far ?_ NB179_183.out _; (with_reducible repeat (first | refine blk_drewN ?_ _ | refine blk_drew ?_ | refine blk_alloc ?_ _)); refine blk_far ?_ NB179_183.out _; (with_reducible repeat (first | refine blk_drewN ?_ _ | refine blk_drew ?_ | refine blk_alloc ?_ _)); exact BK179.out⟩
              have n1_ : Aside0 ((((w46.setCell ⟨gb183, 0, none⟩ (.int .i64 ((rd_T113 l0_2 x38_2).f0))).setCell ⟨gb183, 1, none⟩ (.int .i64 ((rd_T113 l0_2 x38_2).f1))).setCell ⟨gb183, 2, none⟩ (.int .i64 ((rd_T113 l0_2 x38_2).f2))).heap[gb183]? = some (.cells #[.int .i64 ((rd_T113 l0_2 x38_2).f0), .int .i64 ((rd_T113 l0_2 x38_2).f1), .int .i64 ((rd_T113 l0_2 x38_2).f2)] 113 (0, 0))) := ⟨by (with_reducible repeat (first | refine blk_drewN ?_ _ | refine blk_drew ?_ | refine blk_alloc ?_ _)); refine blk_put (cs := #[.int .i64 ((rd_T113 l0_2 x38_2).f0), .int .i64 ((rd_T113 l0_2 x38_2).f1), .int .i64 0]) ?_ 2 _ rfl; (with_reducible repeat (first | refine blk_drewN ?_ _ | refine blk_drew ?_ | refine blk_alloc ?_ _)); refine blk_put (cs := #[.int .i64 ((rd_T113 l0_2 x38_2).f0), .int .i64 0, .int .i64 0]) ?_ 1 _ rfl; (with_reducible repeat (first | refine blk_drewN ?_ _ | refine blk_drew ?_ | refine blk_alloc ?_ _)); refine blk_put (cs := #[.int .i64 0, .int .i64 0, .int .i64 0]) ?_ 0 _ rfl; (with_reducible repeat (first | refine blk_drewN ?_ _ | refine blk_drew ?_ | refine blk_alloc ?_ _)); exact BK183.out⟩
              have n2_ : Aside0 (Below w.heap.size w (((w46.setCell ⟨gb183, 0, none⟩ (.int .i64 ((rd_T113 l0_2 x38_2).f0))).setCell ⟨gb183, 1, none⟩ (.int .i64 ((rd_T113 l0_2 x38_2).f1))).setCell ⟨gb183, 2, none⟩ (.int .i64 ((rd_T113 l0_2 x38_2).f2)))) := ⟨by repeat (first | (with_reducible first | exact HB.out | apply below_alloc | apply pw_below_drewN | apply below_drew1 | refine below_set ?_ GE179.out | refine below_set ?_ GE183.out) | exact HB.out)⟩
              (try clear BK179)
              (try clear BK183)
              (try clear HB)
              generalize (((w46.setCell ⟨gb183, 0, none⟩ (.int .i64 ((rd_T113 l0_2 x38_2).f0))).setCell ⟨gb183, 1, none⟩ (.int .i64 ((rd_T113 l0_2 x38_2).f1))).setCell ⟨gb183, 2, none⟩ (.int .i64 ((rd_T113 l0_2 x38_2).f2))) = w49 at n0_ n1_ n2_ ⊢
              have BK179 := n0_
              have BK183 := n1_
              have HB := n2_
              clear n0_ n1_ n2_
              have n0_ := am_ (blk_drew BK179.out)
              have n1_ := am_ (blk_drew BK183.out)
              have n2_ := am_ (below_drew1 HB.out)
              clear BK179
              clear BK183
              clear HB
              have BK179 := n0_
              have BK183 := n1_
              have HB := n2_
              clear n0_ n1_ n2_
              refine start_ (n := 47) (S := fun w' => w'.cell? ⟨gb183, 0, none⟩ = some (.int .i64 ((rd_T113 l0_2 x38_2).f0)) ∧ w'.cell? ⟨gb183, 1, none⟩ = some (.int .i64 ((rd_T113 l0_2 x38_2).f1)) ∧ w'.cell? ⟨gb183, 2, none⟩ = some (.int .i64 ((rd_T113 l0_2 x38_2).f2)) ∧ w'.cell? ⟨gb179, 0, none⟩ = some (.int .i64 a0_0) ∧ w'.cell? ⟨gb179, 1, none⟩ = some (.slice A0_1 l0_1.length c0_1) ∧ w'.cell? ⟨gb179, 2, none⟩ = some (.slice (some ad182) l0_2.length c0_2) ∧ w'.cell? ⟨gb179, 3, none⟩ = some (.slice A0_3 l0_3.length c0_3)) (ds := []) #[false, false, false, false, false, false, false, false, false, false, false, false, false, false, false, false, false, false, false, false, false, false, false, false, false, false, false, false, false, false, false, false, false, false, false, false, false, false, false, false, false, false, false, false, false, false, false] (by kernel_rfl) rfl rfl ⟨(blk_cell BK183.out 0).trans rfl, (blk_cell BK183.out 1).trans rfl, (blk_cell BK183.out 2).trans rfl, (blk_cell BK179.out 0).trans rfl, (blk_cell BK179.out 1).trans rfl, (blk_cell BK179.out 2).trans rfl, (blk_cell BK179.out 3).trans rfl⟩ (fun hHeld => ?_); refine with_tabW impl_GoodAuto.tab6 impl_GoodAuto.bits6 (fun HT_ HW_ => ?_)
              generalize w49.drew = w50 at BK179 BK183 HB hHeld ⊢
              refine Sh.pA 0 43 (Sh.pre 47 1) (any_of HT_.out (by kernel_rfl)) ?_
              refine Sh.tA 1 44 (Sh.pre 47 2) (take_ofW HT_.out HW_.out (by kernel_rfl)) hHeld ?_ (hy := by rintro w' ⟨s0, s1, s2, s3, s4, s5, s6⟩; go_simp; with_reducible rfl)
              refine Sh.pA 2 45 (Sh.pre 47 3) (any_of HT_.out (by kernel_rfl)) ?_
              refine Sh.pA 3 46 (Sh.pre 47 4) (any_of HT_.out (by kernel_rfl)) ?_
              refine Sh.pA 4 47 (Sh.pre 47 5) (any_of HT_.out (by kernel_rfl)) ?_
              refine Sh.pA 6 49 #[true, true, true, true, true, false, true, false, false, false, false, false, false, false, false, false, false, false, false, false, false, false, false, false, false, false, false, false, false, false, false, false, false, false, false, false, false, false, false, false, false, false, false, false, false, false, false] (any_of HT_.out (by kernel_rfl)) ?_
              refine Sh.tA 5 48 (Sh.pre 47 7) (take_ofW HT_.out HW_.out (by kernel_rfl)) hHeld ?_ (hy := by rintro w' ⟨s0, s1, s2, s3, s4, s5, s6⟩; go_simp; with_reducible rfl)
              refine Sh.tA 7 50 (Sh.pre 47 8) (take_ofW HT_.out HW_.out (by kernel_rfl)) hHeld ?_ (hy := by rintro w' ⟨s0, s1, s2, s3, s4, s5, s6⟩; go_simp; with_reducible rfl)
              refine Sh.pA 8 51 (Sh.pre 47 9) (any_of HT_.out (by kernel_rfl)) ?_
              refine Sh.pA 9 52 (Sh.pre 47 10) (any_of HT_.out (by kernel_rfl)) ?_
              refine Sh.pA 10 53 (Sh.pre 47 11) (any_of HT_.out (by kernel_rfl)) ?_
              refine Sh.pA 11 54 (Sh.pre 47 12) (any_of HT_.out (by kernel_rfl)) ?_
              refine Sh.tA 12 55 (Sh.pre 47 13) (take_ofW HT_.out HW_.out (by kernel_rfl)) hHeld ?_ (hy := by rintro w' ⟨s0, s1, s2, s3, s4, s5, s6⟩; go_simp; with_reducible rfl)
              refine Sh.pA 13 56 (Sh.pre 47 14) (any_of HT_.out (by kernel_rfl)) ?_
              refine Sh.pA 14 57 (Sh.pre 47 15) (any_of HT_.out (by kernel_rfl)) ?_
              refine Sh.pA 15 58 (Sh.pre 47 16) (any_of HT_.out (by kernel_rfl)) ?_
              refine Sh.pA 16 59 (Sh.pre 47 17) (any_of HT_.out (by kernel_rfl)) ?_
              refine Sh.pA 18 61 #[true, true, true, true, true, true, true, true, true, true, true, true, true, true, true, true, true, false, true, false, false, false, false, false, false, false, false, false, false, false, false, false, false, false, false, false, false, false, false, false, false, false, false, false, false, false, false] (any_of HT_.out (by kernel_rfl)) ?_
              refine Sh.tA 17 60 (Sh.pre 47 19) (take_ofW HT_.out HW_.out (by kernel_rfl)) hHeld ?_ (hy := by rintro w' ⟨s0, s1, s2, s3, s4, s5, s6⟩; go_simp; with_reducible rfl)
              refine Sh.tA 19 62 (Sh.pre 47 20) (take_ofW HT_.out HW_.out (by kernel_rfl)) hHeld ?_ (hy := by rintro w' ⟨s0, s1, s2, s3, s4, s5, s6⟩; go_simp; with_reducible rfl)
              refine Sh.pA 20 63 (Sh.pre 47 21) (any_of HT_.out (by kernel_rfl)) ?_
              refine Sh.pA 21 64 (Sh.pre 47 22) (any_of HT_.out (by kernel_rfl)) ?_
              refine Sh.pA 22 65 (Sh.pre 47 23) (any_of HT_.out (by kernel_rfl)) ?_
              refine Sh.pA 23 66 (Sh.pre 47 24) (any_of HT_.out (by kernel_rfl)) ?_
              refine Sh.tA 24 67 (Sh.pre 47 25) (take_ofW HT_.out HW_.out (by kernel_rfl)) hHeld ?_ (hy := by rintro w' ⟨s0, s1, s2, s3, s4, s5, s6⟩; go_simp; with_reducible rfl)
              refine Sh.pA 25 68 (Sh.pre 47 26) (any_of HT_.out (by kernel_rfl)) ?_
              refine Sh.pA 26 69 (Sh.pre 47 27) (any_of HT_.out (by kernel_rfl)) ?_
              refine Sh.pA 27 70 (Sh.pre 47 28) (any_of HT_.out (by kernel_rfl)) ?_
              refine Sh.pU 28 71 (Sh.pre 47 29) (any_of HT_.out (by kernel_rfl)) ?_
              refine Sh.pU 29 72 (Sh.pre 47 30) (any_of HT_.out (by kernel_rfl)) ?_
              refine Sh.pU 30 73 (Sh.pre 47 31) (any_of HT_.out (by kernel_rfl)) ?_
              refine Sh.pA 31 74 (Sh.pre 47 32) (any_of HT_.out (by kernel_rfl)) ?_
              refine Sh.pA 32 75 (Sh.pre 47 33) (any_of HT_.out (by kernel_rfl)) ?_
              refine Sh.pU 33 76 (Sh.pre 47 34) (any_of HT_.out (by kernel_rfl)) ?_
              refine Sh.pU 34 77 (Sh.pre 47 35) (any_of HT_.out (by kernel_rfl)) ?_
              refine Sh.pU 35 78 (Sh.pre 47 36) (any_of HT_.out (by kernel_rfl)) ?_
              refine Sh.pU 36 79 (Sh.pre 47 37) (any_of HT_.out (by kernel_rfl)) ?_
              refine Sh.pU 37 80 (Sh.pre 47 38) (any_of HT_.out (by kernel_rfl)) ?_
              refine Sh.pU 38 81 (Sh.pre 47 39) (any_of HT_.out (by kernel_rfl)) ?_
              refine Sh.pU 39 82 (Sh.pre 47 40) (any_of HT_.out (by kernel_rfl)) ?_
              refine Sh.pU 40 83 (Sh.pre 47 41) (any_of HT_.out (by kernel_rfl)) ?_
              refine Sh.pU 41 84 (Sh.pre 47 42) (any_of HT_.out (by kernel_rfl)) ?_
              refine Sh.pU 42 85 (Sh.pre 47 43) (any_of HT_.out (by kernel_rfl)) ?_
              refine Sh.pU 43 86 (Sh.pre 47 44) (any_of HT_.out (by kernel_rfl)) ?_
              refine Sh.pU 44 87 (Sh.pre 47 45) (any_of HT_.out (by kernel_rfl)) ?_
              refine Sh.pU 45 88 (Sh.pre 47 46) (any_of HT_.out (by kernel_rfl)) ?_
              refine Sh.pA 46 89 (Sh.pre 47 47) (any_of HT_.out (by kernel_rfl)) ?_
              refine done_ (done_of HT_.out (by kernel_rfl)) ?_
              try go_wp2
              go_ret
              exact ⟨by first | rfl | (simp [errW_none, errW_some] <;> rfl) | (simp [*, errW_none, errW_some] <;> rfl), by repeat (first | (with_reducible first | exact HB.out | apply below_alloc | apply pw_below_drewN | apply below_drew1 | refine below_set ?_ GE179.out | refine below_set ?_ GE183.out) | exact HB.out)⟩
             ·rw [if_neg c45] at H
              have c45b0 : decide (((rd_T113 l0_2 x38_2).f1) < 0) = false := decide_eq_false c45
              clear c45
              by_cases c51 : ((rd_T113 l0_2 x38_2).f1) ≥ 8
              ·rw [if_pos c51] at H
               have c51b0 : decide (8 ≤ ((rd_T113 l0_2 x38_2).f1)) = true := decide_eq_true c51
               clear c51
               obtain rfl := Option.some.inj H
               have p182 : 0 ≤ (x38_2 : Int) := of_decide_eq_true (by first | (with_reducible assumption) | assumption)
               have q182 : x38_2 < (l0_2.length : Int) := of_decide_eq_true (by first | (with_reducible assumption) | assumption)
               obtain ⟨ad182, e182, hx182_0, hx182_1, hx182_2⟩ := at_T113 HR0_2.out x38_2 p182 q182
               cases e182
               (try replace hx182_0 := (HB.out.cell (World.block_lt_of_cell? w _ hx182_0)).trans hx182_0)
               (try replace hx182_1 := (HB.out.cell (World.block_lt_of_cell? w _ hx182_1)).trans hx182_1)
               (try replace hx182_2 := (HB.out.cell (World.block_lt_of_cell? w _ hx182_2)).trans hx182_2)
               replace p182 := eq_true p182
               replace q182 := eq_true q182
               try go_wp2_with (first | ((with_reducible refine gate_dst (N := 4) rfl ?_); (try (refine gate_guard (by rfl) ?_; dsimp only)); refine box_event ?hg (N := 4) ?hd (cs := #[.int .i64 0, .int .i64 0, .int .i64 0]) (t := 113) ?hr ?_; (case hd => rfl); (case hg => rfl); (case hr => first | (go_simp; done) | (go_simp; rfl)); intro gb183 hg w52 hbox hb; have n0_ := am_ (blk_below (g := gb179) (o := .cells #[.int .i64 a0_0, .slice A0_1 l0_1.length c0_1, .slice (some ad182) l0_2.length c0_2, .slice A0_3 l0_3.length c0_3] 67 (0, 0)) (by (with_reducible repeat (first | refine blk_drewN ?_ _ | refine blk_drew ?_ | refine blk_alloc ?_ _)); exact BK179.out) hb); have n1_ := am_ (below_step (by repeat (first | (with_reducible first | exact HB.out | apply below_alloc | apply pw_below_drewN | apply below_drew1 | refine below_set ?_ GE179.out) | exact HB.out)) hb); have n2_ := am_ (hbox); have n3_ := am_ ((by rw [hg]; exact (below_size (by repeat (first | (with_reducible first | exact HB.out | apply below_alloc | apply pw_below_drewN | apply below_drew1 | refine below_set ?_ GE179.out) | exact HB.out))) : w.heap.size ≤ gb183)); have n4_ := am_ ((by rw [hg]; exact (below_size (by repeat (first | (with_reducible first | exact HB.out | apply below_alloc | apply pw_below_drewN | apply below_drew1 | refine below_set ?_ GE179.out) | exact HB.out))) : w.heap.size ≤ gb183)); have n5_ := am_ ((by rw [hg]; exact Nat.ne_of_lt (blk_lt (g := gb179) (o := .cells #[.int .i64 a0_0, .slice A0_1 l0_1.length c0_1, .slice (some ad182) l0_2.length c0_2, .slice A0_3 l0_3.length c0_3] 67 (0, 0)) (by (with_reducible repeat (first | refine blk_drewN ?_ _ | refine blk_drew ?_ | refine blk_alloc ?_ _)); exact BK179.out)) : gb179 ≠ gb183)); have n6_ := am_ ((by rw [hg]; exact Nat.ne_of_gt (blk_lt (g := gb179) (o := .cells #[.int .i64 a0_0, .slice A0_1 l0_1.length c0_1, .slice (some ad182) l0_2.length c0_2, .slice A0_3 l0_3.length c0_3] 67 (0, 0)) (by (with_reducible repeat (first | refine blk_drewN ?_ _ | refine blk_drew ?_ | refine blk_alloc ?_ _)); exact BK179.out)) : gb183 ≠ gb179)); clear BK179; clear HB; have BK179 := n0_; have HB := n1_; have BK183 := n2_; have GW183 := n3_; have GE183 := n4_; have NB179_183 := n5_; have NB183_179 := n6_; clear n0_ n1_ n2_ n3_ n4_ n5_ n6_; clear hb hbox hg; have hnb53 := NB183_179.out; have hnc53 := NB179_183.out; have hcz54_0 : w52.cell? ⟨gb183, 0, none⟩ = some (.int .i64 0) := (blk_cell BK183.out 0).trans rfl; have hcz54_1 : w52.cell? ⟨gb183, 1, none⟩ = some (.int .i64 0) := (blk_cell BK183.out 1).trans rfl; have hcz54_2 : w52.cell? ⟨gb183, 2, none⟩ = some (.int .i64 0) := (blk_cell BK183.out 2).trans rfl; have hfz54_0 := blk_frozen BK183.out 0; have hfz54_1 := blk_frozen BK183.out 1; have hfz54_2 := blk_frozen BK183.out 2))
               have n0_ : Aside0 ((((w52.setCell ⟨gb183, 0, none⟩ (.int .i64 ((rd_T113 l0_2 x38_2).f0))).setCell ⟨gb183, 1, none⟩ (.int .i64 ((rd_T113 l0_2 x38_2).f1))).setCell ⟨gb183, 2, none⟩ (.int .i64 ((rd_T113 l0_2 x38_2).f2))).heap[gb179]? = some (.cells #[.int .i64 a0_0, .slice A0_1 l0_1.length c0_1, .slice (some ad182) l0_2.length c0_2, .slice A0_3 l0_3.length c0_3] 67 (0, 0))) := ⟨by (with_reducible repeat (first | refine blk_drewN ?_ _ | refine blk_drew ?_ | refine blk_alloc ?_ _)); refine blk_far ?_ NB179_183.out _; (with_reducible repeat (first | refine blk_drewN ?_ _ | refine blk_drew ?_ | refine blk_alloc ?_ _)); refine blk_far ?_ NB179_183.out _; (with_reducible repeat (first | refine blk_drewN ?_ _ | refine blk_drew ?_ | refine blk_alloc ?_ _)); refine blk_far ?_ NB179_183.out _; (with_reducible repeat (first | refine blk_drewN ?_ _ | refine blk_drew ?_ | refine blk_alloc ?_ _)); exact BK179.out⟩
               have n1_ : Aside0 ((((w52.setCell ⟨gb183, 0, none⟩ (.int .i64 ((rd_T113 l0_2 x38_2).f0))).setCell ⟨gb183, 1, none⟩ (.int .i64 ((rd_T113 l0_2 x38_2).f1))).setCell ⟨gb183, 2, none⟩ (.int .i64 ((rd_T113 l0_2 x38_2).f2))).heap[gb183]? = some (.cells #[.int .i64 ((rd_T113 l0_2 x38_2).f0), .int .i64 ((rd_T113 l0_2 x38_2).f1), .int .i64 ((rd_T113 l0_2 x38_2).f2)] 113 (0, 0))) := ⟨by (with_reducible repeat (first | refine blk_drewN ?_ _ | refine blk_drew ?_ | refine blk_alloc ?_ _)); refine blk_put (cs := #[.int .i64 ((rd_T113 l0_2 x38_2).f0), .int .i64 ((rd_T113 l0_2 x38_2).f1), .int .i64 0]) ?_ 2 _ rfl; (with_reducible repeat (first | refine blk_drewN ?_ _ | refine blk_drew ?_ | refine blk_alloc ?_ _)); refine blk_put (cs := #[.int .i64 ((rd_T113 l0_2 x38_2).f0), .int .i64 0, .int .i64 0]) ?_ 1 _ rfl; (with_reducible repeat (first | refine blk_drewN ?_ _ | refine blk_drew ?_ | refine blk_alloc ?_ _)); refine blk_put (cs := #[.int .i64 0, .int .i64 0, .int .i64 0]) ?_ 0 _ rfl; (with_reducible repeat (first | refine blk_drewN ?_ _ | refine blk_drew ?_ | refine blk_alloc ?_ _)); exact BK183.out⟩
               have n2_ : Aside0 (Below w.heap.size w (((w52.setCell ⟨gb183, 0, none⟩ (.int .i64 ((rd_T113 l0_2 x38_2).f0))).setCell ⟨gb183, 1, none⟩ (.int .i64 ((rd_T113 l0_2 x38_2).f1))).setCell ⟨gb183, 2, none⟩ (.int .i64 ((rd_T113 l0_2 x38_2).f2)))) := ⟨by repeat (first | (with_reducible first | exact HB.out | apply below_alloc | apply pw_below_drewN | apply below_drew1 | refine below_set ?_ GE179.out | refine below_set ?_ GE183.out) | exact HB.out)⟩
               (try clear BK179)
               (try clear BK183)
               (try clear HB)
               generalize (((w52.setCell ⟨gb183, 0, none⟩ (.int .i64 ((rd_T113 l0_2 x38_2).f0))).setCell ⟨gb183, 1, none⟩ (.int .i64 ((rd_T113 l0_2 x38_2).f1))).setCell ⟨gb183, 2, none⟩ (.int .i64 ((rd_T113 l0_2 x38_2).f2))) = w55 at n0_ n1_ n2_ ⊢
               have BK179 := n0_
               have BK183 := n1_
               have HB := n2_
               clear n0_ n1_ n2_
               have n0_ := am_ (blk_drew BK179.out)
               have n1_ := am_ (blk_drew BK183.out)
               have n2_ := am_ (below_drew1 HB.out)
               clear BK179
               clear BK183
               clear HB
               have BK179 := n0_
               have BK183 := n1_
               have HB := n2_
               clear n0_ n1_ n2_
               refine start_ (n := 47) (S := fun w' => w'.cell? ⟨gb183, 0, none⟩ = some (.int .i64 ((rd_T113 l0_2 x38_2).f0)) ∧ w'.cell? ⟨gb183, 1, none⟩ = some (.int .i64 ((rd_T113 l0_2 x38_2).f1)) ∧ w'.cell? ⟨gb183, 2, none⟩ = some (.int .i64 ((rd_T113 l0_2 x38_2).f2)) ∧ w'.cell? ⟨gb179, 0, none⟩ = some (.int .i64 a0_0) ∧ w'.cell? ⟨gb179, 1, none⟩ = some (.slice A0_1 l0_1.length c0_1) ∧ w'.cell? ⟨gb179, 2, none⟩ = some (.slice (some ad182) l0_2.length c0_2) ∧ w'.cell? ⟨gb179, 3, none⟩ = some (.slice A0_3 l0_3.length c0_3)) (ds := []) #[false, false, false, false, false, false, false, false, false, false, false, false, false, false, false, false, false, false, false, false, false, false, false, false, false, false, false, false, false, false, false, false, false, false, false, false, false, false, false, false, false, false, false, false, false, false, false] (by kernel_rfl) rfl rfl ⟨(blk_cell BK183.out 0).trans rfl, (blk_cell BK183.out 1).trans rfl, (blk_cell BK183.out 2).trans rfl, (blk_cell BK179.out 0).trans rfl, (blk_cell BK179.out 1).trans rfl, (blk_cell BK179.out 2).trans rfl, (blk_cell BK179.out 3).trans rfl⟩ (fun hHeld => ?_); refine with_tabW impl_GoodAuto.tab6 impl_GoodAuto.bits6 (fun HT_ HW_ => ?_)
               generalize w55.drew = w56 at BK179 BK183 HB hHeld ⊢
               refine Sh.pA 0 43 (Sh.pre 47 1) (any_of HT_.out (by kernel_rfl)) ?_
               refine Sh.tA 1 44 (Sh.pre 47 2) (take_ofW HT_.out HW_.out (by kernel_rfl)) hHeld ?_ (hy := by rintro w' ⟨s0, s1, s2, s3, s4, s5, s6⟩; go_simp; with_reducible rfl)
               refine Sh.pA 2 45 (Sh.pre 47 3) (any_of HT_.out (by kernel_rfl)) ?_
               refine Sh.pA 3 46 (Sh.pre 47 4) (any_of HT_.out (by kernel_rfl)) ?_
               refine Sh.pA 4 47 (Sh.pre 47 5) (any_of HT_.out (by kernel_rfl)) ?_
               refine Sh.pA 6 49 #[true, true, true, true, true, false, true, false, false, false, false, false, false, false, false, false, false, false, false, false, false, false, false, false, false, false, false, false, false, false, false, false, false, false, false, false, false, false, false, false, false, false, false, false, false, false, false] (any_of HT_.out (by kernel_rfl)) ?_
               refine Sh.tA 5 48 (Sh.pre 47 7) (take_ofW HT_.out HW_.out (by kernel_rfl)) hHeld ?_ (hy := by rintro w' ⟨s0, s1, s2, s3, s4, s5, s6⟩; go_simp; with_reducible rfl)
               refine Sh.tA 7 50 (Sh.pre 47 8) (take_ofW HT_.out HW_.out (by kernel_rfl)) hHeld ?_ (hy := by rintro w' ⟨s0, s1, s2, s3, s4, s5, s6⟩; go_simp; with_reducible rfl)
               refine Sh.pA 8 51 (Sh.pre 47 9) (any_of HT_.out (by kernel_rfl)) ?_
               refine Sh.pA 9 52 (Sh.pre 47 10) (any_of HT_.out (by kernel_rfl)) ?_
               refine Sh.pA 10 53 (Sh.pre 47 11) (any_of HT_.out (by kernel_rfl)) ?_
               refine Sh.pA 11 54 (Sh.pre 47 12) (any_of HT_.out (by kernel_rfl)) ?_
               refine Sh.tA 12 55 (Sh.pre 47 13) (take_ofW HT_.out HW_.out (by kernel_rfl)) hHeld ?_ (hy := by rintro w' ⟨s0, s1, s2, s3, s4, s5, s6⟩; go_simp; with_reducible rfl)
               refine Sh.pA 13 56 (Sh.pre 47 14) (any_of HT_.out (by kernel_rfl)) ?_
               refine Sh.pA 14 57 (Sh.pre 47 15) (any_of HT_.out (by kernel_rfl)) ?_
               refine Sh.pA 15 58 (Sh.pre 47 16) (any_of HT_.out (by kernel_rfl)) ?_
               refine Sh.pA 16 59 (Sh.pre 47 17) (any_of HT_.out (by kernel_rfl)) ?_
               refine Sh.pA 18 61 #[true, true, true, true, true, true, true, true, true, true, true, true, true, true, true, true, true, false, true, false, false, false, false, false, false, false, false, false, false, false, false, false, false, false, false, false, false, false, false, false, false, false, false, false, false, false, false] (any_of HT_.out (by kernel_rfl)) ?_
               refine Sh.tA 17 60 (Sh.pre 47 19) (take_ofW HT_.out HW_.out (by kernel_rfl)) hHeld ?_ (hy := by rintro w' ⟨s0, s1, s2, s3, s4, s5, s6⟩; go_simp; with_reducible rfl)
               refine Sh.tA 19 62 (Sh.pre 47 20) (take_ofW HT_.out HW_.out (by kernel_rfl)) hHeld ?_ (hy := by rintro w' ⟨s0, s1, s2, s3, s4, s5, s6⟩; go_simp; with_reducible rfl)
               refine Sh.pA 20 63 (Sh.pre 47 21) (any_of HT_.out (by kernel_rfl)) ?_
               refine Sh.pA 21 64 (Sh.pre 47 22) (any_of HT_.out (by kernel_rfl)) ?_
               refine Sh.pA 22 65 (Sh.pre 47 23) (any_of HT_.out (by kernel_rfl)) ?_
               refine Sh.pA 23 66 (Sh.pre 47 24) (any_of HT_.out (by kernel_rfl)) ?_
               refine Sh.tA 24 67 (Sh.pre 47 25) (take_ofW HT_.out HW_.out (by kernel_rfl)) hHeld ?_ (hy := by rintro w' ⟨s0, s1, s2, s3, s4, s5, s6⟩; go_simp; with_reducible rfl)
               refine Sh.pA 25 68 (Sh.pre 47 26) (any_of HT_.out (by kernel_rfl)) ?_
               refine Sh.pA 26 69 (Sh.pre 47 27) (any_of HT_.out (by kernel_rfl)) ?_
               refine Sh.pA 27 70 (Sh.pre 47 28) (any_of HT_.out (by kernel_rfl)) ?_
               refine Sh.pA 28 71 (Sh.pre 47 29) (any_of HT_.out (by kernel_rfl)) ?_
               refine Sh.tA 29 72 (Sh.pre 47 30) (take_ofW HT_.out HW_.out (by kernel_rfl)) hHeld ?_ (hy := by rintro w' ⟨s0, s1, s2, s3, s4, s5, s6⟩; go_simp; with_reducible rfl)
               refine Sh.pA 30 73 (Sh.pre 47 31) (any_of HT_.out (by kernel_rfl)) ?_
               refine Sh.pA 31 74 (Sh.pre 47 32) (any_of HT_.out (by kernel_rfl)) ?_
               refine Sh.pA 32 75 (Sh.pre 47 33) (any_of HT_.out (by kernel_rfl)) ?_
               refine Sh.pU 33 76 (Sh.pre 47 34) (any_of HT_.out (by kernel_rfl)) ?_
               refine Sh.pU 34 77 (Sh.pre 47 35) (any_of HT_.out (by kernel_rfl)) ?_
               refine Sh.pU 35 78 (Sh.pre 47 36) (any_of HT_.out (by kernel_rfl)) ?_
               refine Sh.pU 36 79 (Sh.pre 47 37) (any_of HT_.out (by kernel_rfl)) ?_
               refine Sh.pU 37 80 (Sh.pre 47 38) (any_of HT_.out (by kernel_rfl)) ?_
               refine Sh.pU 38 81 (Sh.pre 47 39) (any_of HT_.out (by kernel_rfl)) ?_
               refine Sh.pU 39 82 (Sh.pre 47 40) (any_of HT_.out (by kernel_rfl)) ?_
               refine Sh.pU 40 83 (Sh.pre 47 41) (any_of HT_.out (by kernel_rfl)) ?_
               refine Sh.pU 41 84 (Sh.pre 47 42) (any_of HT_.out (by kernel_rfl)) ?_
               refine Sh.pU 42 85 (Sh.pre 47 43) (any_of HT_.out (by kernel_rfl)) ?_
               refine Sh.pU 43 86 (Sh.pre 47 44) (any_of HT_.out (by kernel_rfl)) ?_
               refine Sh.pU 44 87 (Sh.pre 47 45) (any_of HT_.out (by kernel_rfl)) ?_
               refine Sh.pU 45 88 (Sh.pre 47 46) (any_of HT_.out (by kernel_rfl)) ?_
               refine Sh.pA 46 89 (Sh.pre 47 47) (any_of HT_.out (by kernel_rfl)) ?_
               refine done_ (done_of HT_.out (by kernel_rfl)) ?_
               try go_wp2
               go_ret
               exact ⟨by first | rfl | (simp [errW_none, errW_some] <;> rfl) | (simp [*, errW_none, errW_some] <;> rfl), by repeat (first | (with_reducible first | exact HB.out | apply below_alloc | apply pw_below_drewN | apply below_drew1 | refine below_set ?_ GE179.out | refine below_set ?_ GE183.out) | exact HB.out)⟩
              ·rw [if_neg c51] at H
               have c51b0 : decide (8 ≤ ((rd_T113 l0_2 x38_2).f1)) = false := decide_eq_false c51
               clear c51
               by_cases c57 : x38_2 > 0
               ·rw [if_pos c57] at H
                have c57b0 : decide (0 < x38_2) = true := decide_eq_true c57
                clear c57
                obtain ⟨ji58, hji58⟩ : ∃ j_ : Int, (wrap64 (x38_2 - 1)) = j_ := ⟨_, rfl⟩
                replace H : (if 0 ≤ (ji58) then (if (ji58) < (l0_2.length : Int) then ((impl_compareEdges.f k2 ((rd_T113 l0_2 (ji58)).f0) ((rd_T113 l0_2 (ji58)).f1) ((rd_T113 l0_2 (ji58)).f2) ((rd_T113 l0_2 x38_2).f0) ((rd_T113 l0_2 x38_2).f1) ((rd_T113 l0_2 x38_2).f2)).bind fun t185 => (if t185 ≥ 0 then (some false) else (impl_GoodAuto.l0 k2 l0_2 (l0_2.length : Int) (wrap64 (x38_2 + 1)) a0_0 l0_1 l0_2 l0_3))) else (none)) else (none)) = some r := by first | (rw [hji58] at H; exact H) | (simp only [hji58] at H ⊢; exact H)
                have hji58w : (IntKind.i64.wrap (x38_2 - 1)) = ji58 := (i64_w _).trans hji58
                by_cases c59 : 0 ≤ (ji58)
                ·rw [if_pos c59] at H
                 have c59b0 : decide (0 ≤ (ji58)) = true := decide_eq_true c59
                 clear c59
                 by_cases c60 : (ji58) < (l0_2.length : Int)
                 ·rw [if_pos c60] at H
                  have c60b0 : decide ((ji58) < (l0_2.length : Int)) = true := decide_eq_true c60
                  clear c60
                  replace H := Option.bind_eq_some_iff.mp H
                  obtain ⟨t185, A610, H⟩ := H
                  replace H : (if t185 ≥ 0 then (some false) else (impl_GoodAuto.l0 k2 l0_2 (l0_2.length : Int) (wrap64 (x38_2 + 1)) a0_0 l0_1 l0_2 l0_3)) = some r := H
                  have A61 := am_ A610
                  clear A610
                  by_cases c62 : t185 ≥ 0
                  ·rw [if_pos c62] at H
                   have c62b0 : decide (0 ≤ t185) = true := decide_eq_true c62
                   clear c62
                   obtain rfl := Option.some.inj H
                   have p182 : 0 ≤ (x38_2 : Int) := of_decide_eq_true (by first | (with_reducible assumption) | assumption)
                   have q182 : x38_2 < (l0_2.length : Int) := of_decide_eq_true (by first | (with_reducible assumption) | assumption)
                   obtain ⟨ad182, e182, hx182_0, hx182_1, hx182_2⟩ := at_T113 HR0_2.out x38_2 p182 q182
                   cases e182
                   (try replace hx182_0 := (HB.out.cell (World.block_lt_of_cell? w _ hx182_0)).trans hx182_0)
                   (try replace hx182_1 := (HB.out.cell (World.block_lt_of_cell? w _ hx182_1)).trans hx182_1)
                   (try replace hx182_2 := (HB.out.cell (World.block_lt_of_cell? w _ hx182_2)).trans hx182_2)
                   replace p182 := eq_true p182
                   replace q182 := eq_true q182
                   try go_wp2_with (first | ((with_reducible refine gate_dst (N := 4) rfl ?_); (try (refine gate_guard (by rfl) ?_; dsimp only)); refine box_event ?hg (N := 4) ?hd (cs := #[.int .i64 0, .int .i64 0, .int .i64 0]) (t := 113) ?hr ?_; (case hd => rfl); (case hg => rfl); (case hr => first | (go_simp; done) | (go_simp; rfl)); intro gb183 hg w63 hbox hb; have n0_ := am_ (blk_below (g := gb179) (o := .cells #[.int .i64 a0_0, .slice A0_1 l0_1.length c0_1, .slice (some ad182) l0_2.length c0_2, .slice A0_3 l0_3.length c0_3] 67 (0, 0)) (by (with_reducible repeat (first | refine blk_drewN ?_ _ | refine blk_drew ?_ | refine blk_alloc ?_ _)); exact BK179.out) hb); have n1_ := am_ (below_step (by repeat (first | (with_reducible first | exact HB.out | apply below_alloc | apply pw_below_drewN | apply below_drew1 | refine below_set ?_ GE179.out) | exact HB.out)) hb); have n2_ := am_ (hbox); have n3_ := am_ ((by rw [hg]; exact (below_size (by repeat (first | (with_reducible first | exact HB.out | apply below_alloc | apply pw_below_drewN | apply below_drew1 | refine below_set ?_ GE179.out) | exact HB.out))) : w.heap.size ≤ gb183)); have n4_ := am_ ((by rw [hg]; exact (below_size (by repeat (first | (with_reducible first | exact HB.out | apply below_alloc | apply pw_below_drewN | apply below_drew1 | refine below_set ?_ GE179.out) | exact HB.out))) : w.heap.size ≤ gb183)); have n5_ := am_ ((by rw [hg]; exact Nat.ne_of_lt (blk_lt (g := gb179) (o := .cells #[.int .i64 a0_0, .slice A0_1 l0_1.length c0_1, .slice (some ad182) l0_2.length c0_2, .slice A0_3 l0_3.length c0_3] 67 (0, 0)) (by (with_reducible repeat (first | refine blk_drewN ?_ _ | refine blk_drew ?_ | refine blk_alloc ?_ _)); exact BK179.out)) : gb179 ≠ gb183)); have n6_ := am_ ((by rw [hg]; exact Nat.ne_of_gt (blk_lt (g := gb179) (o := .cells #[.int .i64 a0_0, .slice A0_1 l0_1.length c0_1, .slice (some ad182) l0_2.length c0_2, .slice A0_3 l0_3.length c0_3] 67 (0, 0)) (by (with_reducible repeat (first | refine blk_drewN ?_ _ | refine blk_drew ?_ | refine blk_alloc ?_ _)); exact BK179.out)) : gb183 ≠ gb179)); clear BK179; clear HB; have BK179 := n0_; have HB := n1_; have BK183 := n2_; have GW183 := n3_; have GE183 := n4_; have NB179_183 := n5_; have NB183_179 := n6_; clear n0_ n1_ n2_ n3_ n4_ n5_ n6_; clear hb hbox hg; have hnb64 := NB183_179.out; have hnc64 := NB179_183.out; have hcz65_0 : w63.cell? ⟨gb183, 0, none⟩ = some (.int .i64 0) := (blk_cell BK183.out 0).trans rfl; have hcz65_1 : w63.cell? ⟨gb183, 1, none⟩ = some (.int .i64 0) := (blk_cell BK183.out 1).trans rfl; have hcz65_2 : w63.cell? ⟨gb183, 2, none⟩ = some (.int .i64 0) := (blk_cell BK183.out 2).trans rfl; have hfz65_0 := blk_frozen BK183.out 0; have hfz65_1 := blk_frozen BK183.out 1; have hfz65_2 := blk_frozen BK183.out 2))
                   have n0_ : Aside0 ((((w63.setCell ⟨gb183, 0, none⟩ (.int .i64 ((rd_T113 l0_2 x38_2).f0))).setCell ⟨gb183, 1, none⟩ (.int .i64 ((rd_T113 l0_2 x38_2).f1))).setCell ⟨gb183, 2, none⟩ (.int .i64 ((rd_T113 l0_2 x38_2).f2))).heap[gb179]? = some (.cells #[.int .i64 a0_0, .slice A0_1 l0_1.length c0_1, .slice (some ad182) l0_2.length c0_2, .slice A0_3 l0_3.length c0_3] 67 (0, 0))) := ⟨by (with_reducible repeat (first | refine blk_drewN ?_ _ | refine blk_drew ?_ | refine blk_alloc ?_ _)); refine blk_far ?_ NB179_183.out _; (with_reducible repeat (first | refine blk_drewN ?_ _ | refine blk_drew ?_ | refine blk_alloc ?_ _)); refine blk_far ?_ NB179_183.out _; (with_reducible repeat (first | refine blk_drewN ?_ _ | refine blk_drew ?_ | refine blk_alloc ?_ _)); refine blk_far ?_ NB179_183.out _; (with_reducible repeat (first | refine blk_drewN ?_ _ | refine blk_drew ?_ | refine blk_alloc ?_ _)); exact BK179.out⟩
                   have n1_ : Aside0 ((((w63.setCell ⟨gb183, 0, none⟩ (.int .i64 ((rd_T113 l0_2 x38_2).f0))).setCell ⟨gb183, 1, none⟩ (.int .i64 ((rd_T113 l0_2 x38_2).f1))).setCell ⟨gb183, 2, none⟩ (.int .i64 ((rd_T113 l0_2 x38_2).f2))).heap[gb183]? = some (.cells #[.int .i64 ((rd_T113 l0_2 x38_2).f0), .int .i64 ((rd_T113 l0_2 x38_2).f1), .int .i64 ((rd_T113 l0_2 x38_2).f2)] 113 (0, 0))) := ⟨by (with_reducible repeat (first | refine blk_drewN ?_ _ | refine blk_drew ?_ | refine blk_alloc ?_ _)); refine blk_put (cs := #[.int .i64 ((rd_T113 l0_2 x38_2).f0), .int .i64 ((rd_T113 l0_2 x38_2).f1), .int .i64 0]) ?_ 2 _ rfl; (with_reducible repeat (first | refine blk_drewN ?_ _ | refine blk_drew ?_ | refine blk_alloc ?_ _)); refine blk_put (cs := #[.int .i64 ((rd_T113 l0_2 x38_2).f0), .int .i64 0, .int .i64 0]) ?_ 1 _ rfl; (with_reducible repeat (first | refine blk_drewN ?_ _ | refine blk_drew ?_ | refine blk_alloc ?_ _)); refine blk_put (cs := #[.int .i64 0, .int .i64 0, .int .i64 0]) ?_ 0 _ rfl; (with_reducible repeat (first | refine blk_drewN ?_ _ | refine blk_drew ?_ | refine blk_alloc ?_ _)); exact BK183.out⟩
                   have n2_ : Aside0 (Below w.heap.size w (((w63.setCell ⟨gb183, 0, none⟩ (.int .i64 ((rd_T113 l0_2 x38_2).f0))).setCell ⟨gb183, 1, none⟩ (.int .i64 ((rd_T113 l0_2 x38_2).f1))).setCell ⟨gb183, 2, none⟩ (.int .i64 ((rd_T113 l0_2 x38_2).f2)))) := ⟨by repeat (first | (with_reducible first | exact HB.out | apply below_alloc | apply pw_below_drewN | apply below_drew1 | refine below_set ?_ GE179.out | refine below_set ?_ GE183.out) | exact HB.out)⟩
                   (try clear BK179)
                   (try clear BK183)
                   (try clear HB)
                   generalize (((w63.setCell ⟨gb183, 0, none⟩ (.int .i64 ((rd_T113 l0_2 x38_2).f0))).setCell ⟨gb183, 1, none⟩ (.int .i64 ((rd_T113 l0_2 x38_2).f1))).setCell ⟨gb183, 2, none⟩ (.int .i64 ((rd_T113 l0_2 x38_2).f2))) = w66 at n0_ n1_ n2_ ⊢
                   have BK179 := n0_
                   have BK183 := n1_
                   have HB := n2_
                   clear n0_ n1_ n2_
                   have n0_ := am_ (blk_drew BK179.out)
                   have n1_ := am_ (blk_drew BK183.out)
                   have n2_ := am_ (below_drew1 HB.out)
                   clear BK179
                   clear BK183
                   clear HB
                   have BK179 := n0_
                   have BK183 := n1_
                   have HB := n2_
                   clear n0_ n1_ n2_
                   have p184 : 0 ≤ ((ji58) : Int) := of_decide_eq_true (by first | (with_reducible assumption) | assumption)
                   have q184 : (ji58) < (l0_2.length : Int) := of_decide_eq_true (by first | (with_reducible assumption) | assumption)
                   obtain ⟨ad184, e184, hx184_0, hx184_1, hx184_2⟩ := at_T113 HR0_2.out (ji58) p184 q184
                   have hw184_2 := hx184_2
                   have hw184_1 := hx184_1
                   have hw184_0 := hx184_0
                   obtain rfl : ad182 = ad184 := (by injection e184)
                   (try replace hx184_0 := (HB.out.cell (World.block_lt_of_cell? w _ hx184_0)).trans hx184_0)
                   (try replace hx184_1 := (HB.out.cell (World.block_lt_of_cell? w _ hx184_1)).trans hx184_1)
                   (try replace hx184_2 := (HB.out.cell (World.block_lt_of_cell? w _ hx184_2)).trans hx184_2)
                   replace p184 := eq_true p184
                   replace q184 := eq_true q184
                   refine start_ (n := 47) (S := fun w' => w'.cell? ⟨gb183, 0, none⟩ = some (.int .i64 ((rd_T113 l0_2 x38_2).f0)) ∧ w'.cell? ⟨gb183, 1, none⟩ = some (.int .i64 ((rd_T113 l0_2 x38_2).f1)) ∧ w'.cell? ⟨gb183, 2, none⟩ = some (.int .i64 ((rd_T113 l0_2 x38_2).f2)) ∧ w'.cell? ⟨gb179, 0, none⟩ = some (.int .i64 a0_0) ∧ w'.cell? ⟨gb179, 1, none⟩ = some (.slice A0_1 l0_1.length c0_1) ∧ w'.cell? ⟨gb179, 2, none⟩ = some (.slice (some ad182) l0_2.length c0_2) ∧ w'.cell? ⟨gb179, 3, none⟩ = some (.slice A0_3 l0_3.length c0_3) ∧ w'.cell? (ad182.add (((ji58)).toNat * 3)) = some (.int .i64 ((rd_T113 l0_2 (ji58)).f0)) ∧ w'.cell? ⟨(ad182.add (((ji58)).toNat * 3)).block, (ad182.add (((ji58)).toNat * 3)).off + 1, none⟩ = some (.int .i64 ((rd_T113 l0_2 (ji58)).f1)) ∧ w'.cell? ⟨(ad182.add (((ji58)).toNat * 3)).block, (ad182.add (((ji58)).toNat * 3)).off + 2, none⟩ = some (.int .i64 ((rd_T113 l0_2 (ji58)).f2))) (ds := []) #[false, false, false, false, false, false, false, false, false, false, false, false, false, false, false, false, false, false, false, false, false, false, false, false, false, false, false, false, false, false, false, false, false, false, false, false, false, false, false, false, false, false, false, false, false, false, false] (by kernel_rfl) rfl rfl ⟨(blk_cell BK183.out 0).trans rfl, (blk_cell BK183.out 1).trans rfl, (blk_cell BK183.out 2).trans rfl, (blk_cell BK179.out 0).trans rfl, (blk_cell BK179.out 1).trans rfl, (blk_cell BK179.out 2).trans rfl, (blk_cell BK179.out 3).trans rfl, ((HB.out.cell (World.block_lt_of_cell? w _ hw184_0)).trans hw184_0), ((HB.out.cell (World.block_lt_of_cell? w _ hw184_1)).trans hw184_1), ((HB.out.cell (World.block_lt_of_cell? w _ hw184_2)).trans hw184_2)⟩ (fun hHeld => ?_); refine with_tabW impl_GoodAuto.tab6 impl_GoodAuto.bits6 (fun HT_ HW_ => ?_)
                   generalize w66.drew = w67 at BK179 BK183 HB hx184_0 hx184_1 hx184_2 hHeld ⊢
                   refine Sh.pA 0 43 (Sh.pre 47 1) (any_of HT_.out (by kernel_rfl)) ?_ (ha := by simp only [Act.put, List.setIfInBounds_toArray, List.set_cons_zero, List.set_cons_succ, i64_w, i32_w, hji58]; rfl)
                   refine Sh.tA 1 44 (Sh.pre 47 2) (take_ofW HT_.out HW_.out (by kernel_rfl)) hHeld ?_ (hy := by rintro w' ⟨s0, s1, s2, s3, s4, s5, s6, s7, s8, s9⟩; go_simp; with_reducible rfl) (ha := by simp only [Act.put, List.setIfInBounds_toArray, List.set_cons_zero, List.set_cons_succ, i64_w, i32_w, hji58]; rfl)
                   refine Sh.pA 2 45 (Sh.pre 47 3) (any_of HT_.out (by kernel_rfl)) ?_ (ha := by simp only [Act.put, List.setIfInBounds_toArray, List.set_cons_zero, List.set_cons_succ, i64_w, i32_w, hji58]; rfl)
                   refine Sh.pA 3 46 (Sh.pre 47 4) (any_of HT_.out (by kernel_rfl)) ?_ (ha := by simp only [Act.put, List.setIfInBounds_toArray, List.set_cons_zero, List.set_cons_succ, i64_w, i32_w, hji58]; rfl)
                   refine Sh.pA 4 47 (Sh.pre 47 5) (any_of HT_.out (by kernel_rfl)) ?_ (ha := by simp only [Act.put, List.setIfInBounds_toArray, List.set_cons_zero, List.set_cons_succ, i64_w, i32_w, hji58]; rfl)
                   refine Sh.pA 6 49 #[true, true, true, true, true, false, true, false, false, false, false, false, false, false, false, false, false, false, false, false, false, false, false, false, false, false, false, false, false, false, false, false, false, false, false, false, false, false, false, false, false, false, false, false, false, false, false] (any_of HT_.out (by kernel_rfl)) ?_ (ha := by simp only [Act.put, List.setIfInBounds_toArray, List.set_cons_zero, List.set_cons_succ, i64_w, i32_w, hji58]; rfl)
                   refine Sh.tA 5 48 (Sh.pre 47 7) (take_ofW HT_.out HW_.out (by kernel_rfl)) hHeld ?_ (hy := by rintro w' ⟨s0, s1, s2, s3, s4, s5, s6, s7, s8, s9⟩; go_simp; with_reducible rfl) (ha := by simp only [Act.put, List.setIfInBounds_toArray, List.set_cons_zero, List.set_cons_succ, i64_w, i32_w, hji58]; rfl)
                   refine Sh.tA 7 50 (Sh.pre 47 8) (take_ofW HT_.out HW_.out (by kernel_rfl)) hHeld ?_ (hy := by rintro w' ⟨s0, s1, s2, s3, s4, s5, s6, s7, s8, s9⟩; go_simp; with_reducible rfl) (ha := by simp only [Act.put, List.setIfInBounds_toArray, List.set_cons_zero, List.set_cons_succ, i64_w, i32_w, hji58]; rfl)
                   refine Sh.pA 8 51 (Sh.pre 47 9) (any_of HT_.out (by kernel_rfl)) ?_ (ha := by simp only [Act.put, List.setIfInBounds_toArray, List.set_cons_zero, List.set_cons_succ, i64_w, i32_w, hji58]; rfl)
                   refine Sh.pA 9 52 (Sh.pre 47 10) (any_of HT_.out (by kernel_rfl)) ?_ (ha := by simp only [Act.put, List.setIfInBounds_toArray, List.set_cons_zero, List.set_cons_succ, i64_w, i32_w, hji58]; rfl)
                   refine Sh.pA 10 53 (Sh.pre 47 11) (any_of HT_.out (by kernel_rfl)) ?_ (ha := by simp only [Act.put, List.setIfInBounds_toArray, List.set_cons_zero, List.set_cons_succ, i64_w, i32_w, hji58]; rfl)
                   refine Sh.pA 11 54 (Sh.pre 47 12) (any_of HT_.out (by kernel_rfl)) ?_ (ha := by simp only [Act.put, List.setIfInBounds_toArray, List.set_cons_zero, List.set_cons_succ, i64_w, i32_w, hji58]; rfl)
                   refine Sh.tA 12 55 (Sh.pre 47 13) (take_ofW HT_.out HW_.out (by kernel_rfl)) hHeld ?_ (hy := by rintro w' ⟨s0, s1, s2, s3, s4, s5, s6, s7, s8, s9⟩; go_simp; with_reducible rfl) (ha := by simp only [Act.put, List.setIfInBounds_toArray, List.set_cons_zero, List.set_cons_succ, i64_w, i32_w, hji58]; rfl)
                   refine Sh.pA 13 56 (Sh.pre 47 14) (any_of HT_.out (by kernel_rfl)) ?_ (ha := by simp only [Act.put, List.setIfInBounds_toArray, List.set_cons_zero, List.set_cons_succ, i64_w, i32_w, hji58]; rfl)
                   refine Sh.pA 14 57 (Sh.pre 47 15) (any_of HT_.out (by kernel_rfl)) ?_ (ha := by simp only [Act.put, List.setIfInBounds_toArray, List.set_cons_zero, List.set_cons_succ, i64_w, i32_w, hji58]; rfl)
                   refine Sh.pA 15 58 (Sh.pre 47 16) (any_of HT_.out (by kernel_rfl)) ?_ (ha := by simp only [Act.put, List.setIfInBounds_toArray, List.set_cons_zero, List.set_cons_succ, i64_w, i32_w, hji58]; rfl)
                   refine Sh.pA 16 59 (Sh.pre 47 17) (any_of HT_.out (by kernel_rfl)) ?_ (ha := by simp only [Act.put, List.setIfInBounds_toArray, List.set_cons_zero, List.set_cons_succ, i64_w, i32_w, hji58]; rfl)
                   refine Sh.pA 18 61 #[true, true, true, true, true, true, true, true, true, true, true, true, true, true, true, true, true, false, true, false, false, false, false, false, false, false, false, false, false, false, false, false, false, false, false, false, false, false, false, false, false, false, false, false, false, false, false] (any_of HT_.out (by kernel_rfl)) ?_ (ha := by simp only [Act.put, List.setIfInBounds_toArray, List.set_cons_zero, List.set_cons_succ, i64_w, i32_w, hji58]; rfl)
                   refine Sh.tA 17 60 (Sh.pre 47 19) (take_ofW HT_.out HW_.out (by kernel_rfl)) hHeld ?_ (hy := by rintro w' ⟨s0, s1, s2, s3, s4, s5, s6, s7, s8, s9⟩; go_simp; with_reducible rfl) (ha := by simp only [Act.put, List.setIfInBounds_toArray, List.set_cons_zero, List.set_cons_succ, i64_w, i32_w, hji58]; rfl)
                   refine Sh.tA 19 62 (Sh.pre 47 20) (take_ofW HT_.out HW_.out (by kernel_rfl)) hHeld ?_ (hy := by rintro w' ⟨s0, s1, s2, s3, s4, s5, s6, s7, s8, s9⟩; go_simp; with_reducible rfl) (ha := by simp only [Act.put, List.setIfInBounds_toArray, List.set_cons_zero, List.set_cons_succ, i64_w, i32_w, hji58]; rfl)
                   refine Sh.pA 20 63 (Sh.pre 47 21) (any_of HT_.out (by kernel_rfl)) ?_ (ha := by simp only [Act.put, List.setIfInBounds_toArray, List.set_cons_zero, List.set_cons_succ, i64_w, i32_w, hji58]; rfl)
                   refine Sh.pA 21 64 (Sh.pre 47 22) (any_of HT_.out (by kernel_rfl)) ?_ (ha := by simp only [Act.put, List.setIfInBounds_toArray, List.set_cons_zero, List.set_cons_succ, i64_w, i32_w, hji58]; rfl)
                   refine Sh.pA 22 65 (Sh.pre 47 23) (any_of HT_.out (by kernel_rfl)) ?_ (ha := by simp only [Act.put, List.setIfInBounds_toArray, List.set_cons_zero, List.set_cons_succ, i64_w, i32_w, hji58]; rfl)
                   refine Sh.pA 23 66 (Sh.pre 47 24) (any_of HT_.out (by kernel_rfl)) ?_ (ha := by simp only [Act.put, List.setIfInBounds_toArray, List.set_cons_zero, List.set_cons_succ, i64_w, i32_w, hji58]; rfl)
                   refine Sh.tA 24 67 (Sh.pre 47 25) (take_ofW HT_.out HW_.out (by kernel_rfl)) hHeld ?_ (hy := by rintro w' ⟨s0, s1, s2, s3, s4, s5, s6, s7, s8, s9⟩; go_simp; with_reducible rfl) (ha := by simp only [Act.put, List.setIfInBounds_toArray, List.set_cons_zero, List.set_cons_succ, i64_w, i32_w, hji58]; rfl)
                   refine Sh.pA 25 68 (Sh.pre 47 26) (any_of HT_.out (by kernel_rfl)) ?_ (ha := by simp only [Act.put, List.setIfInBounds_toArray, List.set_cons_zero, List.set_cons_succ, i64_w, i32_w, hji58]; rfl)
                   refine Sh.pA 26 69 (Sh.pre 47 27) (any_of HT_.out (by kernel_rfl)) ?_ (ha := by simp only [Act.put, List.setIfInBounds_toArray, List.set_cons_zero, List.set_cons_succ, i64_w, i32_w, hji58]; rfl)
                   refine Sh.pA 27 70 (Sh.pre 47 28) (any_of HT_.out (by kernel_rfl)) ?_ (ha := by simp only [Act.put, List.setIfInBounds_toArray, List.set_cons_zero, List.set_cons_succ, i64_w, i32_w, hji58]; rfl)
                   refine Sh.pA 28 71 (Sh.pre 47 29) (any_of HT_.out (by kernel_rfl)) ?_ (ha := by simp only [Act.put, List.setIfInBounds_toArray, List.set_cons_zero, List.set_cons_succ, i64_w, i32_w, hji58]; rfl)
                   refine Sh.tA 29 72 (Sh.pre 47 30) (take_ofW HT_.out HW_.out (by kernel_rfl)) hHeld ?_ (hy := by rintro w' ⟨s0, s1, s2, s3, s4, s5, s6, s7, s8, s9⟩; go_simp; with_reducible rfl) (ha := by simp only [Act.put, List.setIfInBounds_toArray, List.set_cons_zero, List.set_cons_succ, i64_w, i32_w, hji58]; rfl)
                   refine Sh.pA 30 73 (Sh.pre 47 31) (any_of HT_.out (by kernel_rfl)) ?_ (ha := by simp only [Act.put, List.setIfInBounds_toArray, List.set_cons_zero, List.set_cons_succ, i64_w, i32_w, hji58]; rfl)
                   refine Sh.pA 31 74 (Sh.pre 47 32) (any_of HT_.out (by kernel_rfl)) ?_ (ha := by simp only [Act.put, List.setIfInBounds_toArray, List.set_cons_zero, List.set_cons_succ, i64_w, i32_w, hji58]; rfl)
                   refine Sh.pA 32 75 (Sh.pre 47 33) (any_of HT_.out (by kernel_rfl)) ?_ (ha := by simp only [Act.put, List.setIfInBounds_toArray, List.set_cons_zero, List.set_cons_succ, i64_w, i32_w, hji58]; rfl)
                   refine Sh.pA 33 76 (Sh.pre 47 34) (any_of HT_.out (by kernel_rfl)) ?_ (ha := by simp only [Act.put, List.setIfInBounds_toArray, List.set_cons_zero, List.set_cons_succ, i64_w, i32_w, hji58]; rfl)
                   refine Sh.pA 34 77 (Sh.pre 47 35) (any_of HT_.out (by kernel_rfl)) ?_ (ha := by simp only [Act.put, List.setIfInBounds_toArray, List.set_cons_zero, List.set_cons_succ, i64_w, i32_w, hji58]; rfl)
                   refine Sh.pA 35 78 (Sh.pre 47 36) (any_of HT_.out (by kernel_rfl)) ?_ (ha := by simp only [Act.put, List.setIfInBounds_toArray, List.set_cons_zero, List.set_cons_succ, i64_w, i32_w, hji58]; rfl)
                   refine Sh.pA 36 79 (Sh.pre 47 37) (any_of HT_.out (by kernel_rfl)) ?_ (ha := by simp only [Act.put, List.setIfInBounds_toArray, List.set_cons_zero, List.set_cons_succ, i64_w, i32_w, hji58]; rfl)
                   refine Sh.pA 38 81 #[true, true, true, true, true, true, true, true, true, true, true, true, true, true, true, true, true, true, true, true, true, true, true, true, true, true, true, true, true, true, true, true, true, true, true, true, true, false, true, false, false, false, false, false, false, false, false] (any_of HT_.out (by kernel_rfl)) ?_ (ha := by simp only [Act.put, List.setIfInBounds_toArray, List.set_cons_zero, List.set_cons_succ, i64_w, i32_w, hji58]; rfl)
                   refine Sh.pA 39 82 #[true, true, true, true, true, true, true, true, true, true, true, true, true, true, true, true, true, true, true, true, true, true, true, true, true, true, true, true, true, true, true, true, true, true, true, true, true, false, true, true, false, false, false, false, false, false, false] (any_of HT_.out (by kernel_rfl)) ?_ (ha := by simp only [Act.put, List.setIfInBounds_toArray, List.set_cons_zero, List.set_cons_succ, i64_w, i32_w, hji58]; rfl)
                   refine Sh.tA 37 80 (Sh.pre 47 40) (take_ofW HT_.out HW_.out (by kernel_rfl)) hHeld ?_ (hy := by rintro w' ⟨s0, s1, s2, s3, s4, s5, s6, s7, s8, s9⟩; go_simp; with_reducible rfl) (ha := by simp only [Act.put, List.setIfInBounds_toArray, List.set_cons_zero, List.set_cons_succ, i64_w, i32_w, hji58]; rfl)
                   refine Sh.pA 40 83 (Sh.pre 47 41) (any_of HT_.out (by kernel_rfl)) ?_ (ha := by simp only [Act.put, List.setIfInBounds_toArray, List.set_cons_zero, List.set_cons_succ, i64_w, i32_w, hji58]; rfl)
                   refine Sh.tA 41 84 (Sh.pre 47 42) (take_ofW HT_.out HW_.out (by kernel_rfl)) hHeld ?_ (hy := by rintro w' ⟨s0, s1, s2, s3, s4, s5, s6, s7, s8, s9⟩; go_simp; with_reducible rfl) (ha := by simp only [Act.put, List.setIfInBounds_toArray, List.set_cons_zero, List.set_cons_succ, i64_w, i32_w, hji58]; rfl)
                   refine Sh.tA 42 85 (Sh.pre 47 43) (take_ofW HT_.out HW_.out (by kernel_rfl)) hHeld ?_ (hy := by rintro w' ⟨s0, s1, s2, s3, s4, s5, s6, s7, s8, s9⟩; go_simp; with_reducible rfl) (ha := by simp only [Act.put, List.setIfInBounds_toArray, List.set_cons_zero, List.set_cons_succ, i64_w, i32_w, hji58]; rfl)
                   refine one_ (i := 43) (N := some 86) #[true, true, true, true, true, true, true, true, true, true, true, true, true, true, true, true, true, true, true, true, true, true, true, true, true, true, true, true, true, true, true, true, true, true, true, true, true, true, true, true, true, true, true, true, false, false, false] rfl rfl (one_of HT_.out (by kernel_rfl)) (by decide) (fun K hK => ?_)
                   refine goes_ Try.func102 (by kernel_rfl) rfl #[.agg #[.int .i64 ((rd_T113 l0_2 (ji58)).f0), .int .i64 ((rd_T113 l0_2 (ji58)).f1), .int .i64 ((rd_T113 l0_2 (ji58)).f2)], .agg #[.int .i64 ((rd_T113 l0_2 x38_2).f0), .int .i64 ((rd_T113 l0_2 x38_2).f1), .int .i64 ((rd_T113 l0_2 x38_2).f2)]] (by rfl) rfl rfl (by (try simp only [List.map_toArray, List.map_cons, List.map_nil]); first | done | (simp only [hji58]; rfl) | rfl | (simp only [List.length_drop, List.length_take]; rfl)) ?_
                   with_reducible refine (impl_compareEdges.calls k2 ((rd_T113 l0_2 (ji58)).f0) ((rd_T113 l0_2 (ji58)).f1) ((rd_T113 l0_2 (ji58)).f2) ((rd_T113 l0_2 x38_2).f0) ((rd_T113 l0_2 x38_2).f1) ((rd_T113 l0_2 x38_2).f2) t185 _ A61.out).mono ?_
                   rintro e w68 ⟨rfl, hb⟩
                   refine ⟨_, rfl, ?_⟩
                   have n0_ := am_ (blk_below (g := gb179) (o := .cells #[.int .i64 a0_0, .slice A0_1 l0_1.length c0_1, .slice (some ad182) l0_2.length c0_2, .slice A0_3 l0_3.length c0_3] 67 (0, 0)) (by (with_reducible repeat (first | refine blk_drewN ?_ _ | refine blk_drew ?_ | refine blk_alloc ?_ _)); exact BK179.out) hb)
                   have n1_ := am_ (blk_below (g := gb183) (o := .cells #[.int .i64 ((rd_T113 l0_2 x38_2).f0), .int .i64 ((rd_T113 l0_2 x38_2).f1), .int .i64 ((rd_T113 l0_2 x38_2).f2)] 113 (0, 0)) (by (with_reducible repeat (first | refine blk_drewN ?_ _ | refine blk_drew ?_ | refine blk_alloc ?_ _)); exact BK183.out) hb)
                   have n2_ := am_ (below_step (by repeat (first | (with_reducible first | exact HB.out | apply below_alloc | apply pw_below_drewN | apply below_drew1 | refine below_set ?_ GE179.out | refine below_set ?_ GE183.out) | exact HB.out)) hb)
                   clear BK179
                   clear BK183
                   clear HB
                   have BK179 := n0_
                   have BK183 := n1_
                   have HB := n2_
                   clear n0_ n1_ n2_
                   (try clear hb)
                   (try clear hb2)
                   (try clear hk)
                   (try clear hi)
                   refine hK.out _ _ ⟨(blk_cell BK183.out 0).trans rfl, (blk_cell BK183.out 1).trans rfl, (blk_cell BK183.out 2).trans rfl, (blk_cell BK179.out 0).trans rfl, (blk_cell BK179.out 1).trans rfl, (blk_cell BK179.out 2).trans rfl, (blk_cell BK179.out 3).trans rfl, ((HB.out.cell (World.block_lt_of_cell? w _ hw184_0)).trans hw184_0), ((HB.out.cell (World.block_lt_of_cell? w _ hw184_1)).trans hw184_1), ((HB.out.cell (World.block_lt_of_cell? w _ hw184_2)).trans hw184_2)⟩ (fun hHeld => ?_)
                   clear hK K
                   refine norm_ (a' := ?_) ?_ ?_
                   rotate_left
                   ·show Act.put _ (some 86) _ = _
                    simp only [Act.put, List.setIfInBounds_toArray, List.set_cons_zero, List.set_cons_succ, i64_w, i32_w, hji58]
                    rfl
                   refine Sh.pA 44 87 (Sh.pre 47 45) (any_of HT_.out (by kernel_rfl)) ?_ (ha := by simp only [Act.put, List.setIfInBounds_toArray, List.set_cons_zero, List.set_cons_succ, i64_w, i32_w, hji58]; rfl)
                   refine Sh.pA 45 88 (Sh.pre 47 46) (any_of HT_.out (by kernel_rfl)) ?_ (ha := by simp only [Act.put, List.setIfInBounds_toArray, List.set_cons_zero, List.set_cons_succ, i64_w, i32_w, hji58]; rfl)
                   refine Sh.pA 46 89 (Sh.pre 47 47) (any_of HT_.out (by kernel_rfl)) ?_ (ha := by simp only [Act.put, List.setIfInBounds_toArray, List.set_cons_zero, List.set_cons_succ, i64_w, i32_w, hji58]; rfl)
                   refine done_ (done_of HT_.out (by kernel_rfl)) ?_
                   try go_wp2
                   go_ret
                   exact ⟨by first | rfl | (simp [errW_none, errW_some] <;> rfl) | (simp only [← hji58]; first | rfl | (simp [errW_none, errW_some] <;> rfl)) | (simp [*, errW_none, errW_some] <;> rfl), by repeat (first | (with_reducible first | exact HB.out | apply below_alloc | apply pw_below_drewN | apply below_drew1 | refine below_set ?_ GE179.out | refine below_set ?_ GE183.out) | exact HB.out)⟩
                  ·rw [if_neg c62] at H
                   have c62b0 : decide (0 ≤ t185) = false := decide_eq_false c62
                   clear c62
                   have H' := am_ H
                   clear H
                   have p182 : 0 ≤ (x38_2 : Int) := of_decide_eq_true (by first | (with_reducible assumption) | assumption)
                   have q182 : x38_2 < (l0_2.length : Int) := of_decide_eq_true (by first | (with_reducible assumption) | assumption)
                   obtain ⟨ad182, e182, hx182_0, hx182_1, hx182_2⟩ := at_T113 HR0_2.out x38_2 p182 q182
                   cases e182
                   (try replace hx182_0 := (HB.out.cell (World.block_lt_of_cell? w _ hx182_0)).trans hx182_0)
                   (try replace hx182_1 := (HB.out.cell (World.block_lt_of_cell? w _ hx182_1)).trans hx182_1)
                   (try replace hx182_2 := (HB.out.cell (World.block_lt_of_cell? w _ hx182_2)).trans hx182_2)
                   replace p182 := eq_true p182
                   replace q182 := eq_true q182
                   try go_wp2_with (first | ((with_reducible refine gate_dst (N := 4) rfl ?_); (try (refine gate_guard (by rfl) ?_; dsimp only)); refine box_event ?hg (N := 4) ?hd (cs := #[.int .i64 0, .int .i64 0, .int .i64 0]) (t := 113) ?hr ?_; (case hd => rfl); (case hg => rfl); (case hr => first | (go_simp; done) | (go_simp; rfl)); intro gb183 hg w69 hbox hb; have n0_ := am_ (blk_below (g := gb179) (o := .cells #[.int .i64 a0_0, .slice A0_1 l0_1.length c0_1, .slice (some ad182) l0_2.length c0_2, .slice A0_3 l0_3.length c0_3] 67 (0, 0)) (by (with_reducible repeat (first | refine blk_drewN ?_ _ | refine blk_drew ?_ | refine blk_alloc ?_ _)); exact BK179.out) hb); have n1_ := am_ (below_step (by repeat (first | (with_reducible first | exact HB.out | apply below_alloc | apply pw_below_drewN | apply below_drew1 | refine below_set ?_ GE179.out) | exact HB.out)) hb); have n2_ := am_ (hbox); have n3_ := am_ ((by rw [hg]; exact (below_size (by repeat (first | (with_reducible first | exact HB.out | apply below_alloc | apply pw_below_drewN | apply below_drew1 | refine below_set ?_ GE179.out) | exact HB.out))) : w.heap.size ≤ gb183)); have n4_ := am_ ((by rw [hg]; exact (below_size (by repeat (first | (with_reducible first | exact HB.out | apply below_alloc | apply pw_below_drewN | apply below_drew1 | refine below_set ?_ GE179.out) | exact HB.out))) : w.heap.size ≤ gb183)); have n5_ := am_ ((by rw [hg]; exact Nat.ne_of_lt (blk_lt (g := gb179) (o := .cells #[.int .i64 a0_0, .slice A0_1 l0_1.length c0_1, .slice (some ad182) l0_2.length c0_2, .slice A0_3 l0_3.length c0_3] 67 (0, 0)) (by (with_reducible repeat (first | refine blk_drewN ?_ _ | refine blk_drew ?_ | refine blk_alloc ?_ _)); exact BK179.out)) : gb179 ≠ gb183)); have n6_ := am_ ((by rw [hg]; exact Nat.ne_of_gt (blk_lt (g := gb179) (o := .cells #[.int .i64 a0_0, .slice A0_1 l0_1.length c0_1, .slice (some ad182) l0_2.length c0_2, .slice A0_3 l0_3.length c0_3] 67 (0, 0)) (by (with_reducible repeat (first | refine blk_drewN ?_ _ | refine blk_drew ?_ | refine blk_alloc ?_ _)); exact BK179.out)) : gb183 ≠ gb179)); clear BK179; clear HB; have BK179 := n0_; have HB := n1_; have BK183 := n2_; have GW183 := n3_; have GE183 := n4_; have NB179_183 := n5_; have NB183_179 := n6_; clear n0_ n1_ n2_ n3_ n4_ n5_ n6_; clear hb hbox hg; have hnb70 := NB183_179.out; have hnc70 := NB179_183.out; have hcz71_0 : w69.cell? ⟨gb183, 0, none⟩ = some (.int .i64 0) := (blk_cell BK183.out 0).trans rfl; have hcz71_1 : w69.cell? ⟨gb183, 1, none⟩ = some (.int .i64 0) := (blk_cell BK183.out 1).trans rfl; have hcz71_2 : w69.cell? ⟨gb183, 2, none⟩ = some (.int .i64 0) := (blk_cell BK183.out 2).trans rfl; have hfz71_0 := blk_frozen BK183.out 0; have hfz71_1 := blk_frozen BK183.out 1; have hfz71_2 := blk_frozen BK183.out 2))
                   have n0_ : Aside0 ((((w69.setCell ⟨gb183, 0, none⟩ (.int .i64 ((rd_T113 l0_2 x38_2).f0))).setCell ⟨gb183, 1, none⟩ (.int .i64 ((rd_T113 l0_2 x38_2).f1))).setCell ⟨gb183, 2, none⟩ (.int .i64 ((rd_T113 l0_2 x38_2).f2))).heap[gb179]? = some (.cells #[.int .i64 a0_0, .slice A0_1 l0_1.length c0_1, .slice (some ad182) l0_2.length c0_2, .slice A0_3 l0_3.length c0_3] 67 (0, 0))) := ⟨by (with_reducible repeat (first | refine blk_drewN ?_ _ | refine blk_drew ?_ | refine blk_alloc ?_ _)); refine blk_far ?_ NB179_183.out _; (with_reducible repeat (first | refine blk_drewN ?_ _ | refine blk_drew ?_ | refine blk_alloc ?_ _)); refine blk_far ?_ NB179_183.out _; (with_reducible repeat (first | refine blk_drewN ?_ _ | refine blk_drew ?_ | refine blk_alloc ?_ _)); refine blk_far ?_ NB179_183.out _; (with_reducible repeat (first | refine blk_drewN ?_ _ | refine blk_drew ?_ | refine blk_alloc ?_ _)); exact BK179.out⟩
                   have n1_ : Aside0 ((((w69.setCell ⟨gb183, 0, none⟩ (.int .i64 ((rd_T113 l0_2 x38_2).f0))).setCell ⟨gb183, 1, none⟩ (.int .i64 ((rd_T113 l0_2 x38_2).f1))).setCell ⟨gb183, 2, none⟩ (.int .i64 ((rd_T113 l0_2 x38_2).f2))).heap[gb183]? = some (.cells #[.int .i64 ((rd_T113 l0_2 x38_2).f0), .int .i64 ((rd_T113 l0_2 x38_2).f1), .int .i64 ((rd_T113 l0_2 x38_2).f2)] 113 (0, 0))) := ⟨by (with_reducible repeat (first | refine blk_drewN ?_ _ | refine blk_drew ?_ | refine blk_alloc ?_ _)); refine blk_put (cs := #[.int .i64 ((rd_T113 l0_2 x38_2).f0), .int .i64 ((rd_T113 l0_2 x38_2).f1), .int .i64 0]) ?_ 2 _ rfl; (with_reducible repeat (first | refine blk_drewN ?_ _ | refine blk_drew ?_ | refine blk_alloc ?_ _)); refine blk_put (cs := #[.int .i64 ((rd_T113 l0_2 x38_2).f0), .int .i64 0, .int .i64 0]) ?_ 1 _ rfl; (with_reducible repeat (first | refine blk_drewN ?_ _ | refine blk_drew ?_ | refine blk_alloc ?_ _)); refine blk_put (cs := #[.int .i64 0, .int .i64 0, .int .i64 0]) ?_ 0 _ rfl; (with_reducible repeat (first | refine blk_drewN ?_ _ | refine blk_drew ?_ | refine blk_alloc ?_ _)); exact BK183.out⟩
                   have n2_ : Aside0 (Below w.heap.size w (((w69.setCell ⟨gb183, 0, none⟩ (.int .i64 ((rd_T113 l0_2 x38_2).f0))).setCell ⟨gb183, 1, none⟩ (.int .i64 ((rd_T113 l0_2 x38_2).f1))).setCell ⟨gb183, 2, none⟩ (.int .i64 ((rd_T113 l0_2 x38_2).f2)))) := ⟨by repeat (first | (with_reducible first | exact HB.out | apply below_alloc | apply pw_below_drewN | apply below_drew1 | refine below_set ?_ GE179.out | refine below_set ?_ GE183.out) | exact HB.out)⟩
                   (try clear BK179)
                   (try clear BK183)
                   (try clear HB)
                   generalize (((w69.setCell ⟨gb183, 0, none⟩ (.int .i64 ((rd_T113 l0_2 x38_2).f0))).setCell ⟨gb183, 1, none⟩ (.int .i64 ((rd_T113 l0_2 x38_2).f1))).setCell ⟨gb183, 2, none⟩ (.int .i64 ((rd_T113 l0_2 x38_2).f2))) = w72 at n0_ n1_ n2_ ⊢
                   have BK179 := n0_
                   have BK183 := n1_
                   have HB := n2_
                   clear n0_ n1_ n2_
                   have n0_ := am_ (blk_drew BK179.out)
                   have n1_ := am_ (blk_drew BK183.out)
                   have n2_ := am_ (below_drew1 HB.out)
                   clear BK179
                   clear BK183
                   clear HB
                   have BK179 := n0_
                   have BK183 := n1_
                   have HB := n2_
                   clear n0_ n1_ n2_
                   have p184 : 0 ≤ ((ji58) : Int) := of_decide_eq_true (by first | (with_reducible assumption) | assumption)
                   have q184 : (ji58) < (l0_2.length : Int) := of_decide_eq_true (by first | (with_reducible assumption) | assumption)
                   obtain ⟨ad184, e184, hx184_0, hx184_1, hx184_2⟩ := at_T113 HR0_2.out (ji58) p184 q184
                   have hw184_2 := hx184_2
                   have hw184_1 := hx184_1
                   have hw184_0 := hx184_0
                   obtain rfl : ad182 = ad184 := (by injection e184)
                   (try replace hx184_0 := (HB.out.cell (World.block_lt_of_cell? w _ hx184_0)).trans hx184_0)
                   (try replace hx184_1 := (HB.out.cell (World.block_lt_of_cell? w _ hx184_1)).trans hx184_1)
                   (try replace hx184_2 := (HB.out.cell (World.block_lt_of_cell? w _ hx184_2)).trans hx184_2)
                   replace p184 := eq_true p184
                   replace q184 := eq_true q184
                   refine start_ (n := 47) (S := fun w' => w'.cell? ⟨gb183, 0, none⟩ = some (.int .i64 ((rd_T113 l0_2 x38_2).f0)) ∧ w'.cell? ⟨gb183, 1, none⟩ = some (.int .i64 ((rd_T113 l0_2 x38_2).f1)) ∧ w'.cell? ⟨gb183, 2, none⟩ = some (.int .i64 ((rd_T113 l0_2 x38_2).f2)) ∧ w'.cell? ⟨gb179, 0, none⟩ = some (.int .i64 a0_0) ∧ w'.cell? ⟨gb179, 1, none⟩ = some (.slice A0_1 l0_1.length c0_1) ∧ w'.cell? ⟨gb179, 2, none⟩ = some (.slice (some ad182) l0_2.length c0_2) ∧ w'.cell? ⟨gb179, 3, none⟩ = some (.slice A0_3 l0_3.length c0_3) ∧ w'.cell? (ad182.add (((ji58)).toNat * 3)) = some (.int .i64 ((rd_T113 l0_2 (ji58)).f0)) ∧ w'.cell? ⟨(ad182.add (((ji58)).toNat * 3)).block, (ad182.add (((ji58)).toNat * 3)).off + 1, none⟩ = some (.int .i64 ((rd_T113 l0_2 (ji58)).f1)) ∧ w'.cell? ⟨(ad182.add (((ji58)).toNat * 3)).block, (ad182.add (((ji58)).toNat * 3)).off + 2, none⟩ = some (.int .i64 ((rd_T113 l0_2 (ji58)).f2))) (ds := []) #[false, false, false, false, false, false, false, false, false, false, false, false, false, false, false, false, false, false, false, false, false, false, false, false, false, false, false, false, false, false, false, false, false, false, false, false, false, false, false, false, false, false, false, false, false, false, false] (by kernel_rfl) rfl rfl ⟨(blk_cell BK183.out 0).trans rfl, (blk_cell BK183.out 1).trans rfl, (blk_cell BK183.out 2).trans rfl, (blk_cell BK179.out 0).trans rfl, (blk_cell BK179.out 1).trans rfl, (blk_cell BK179.out 2).trans rfl, (blk_cell BK179.out 3).trans rfl, ((HB.out.cell (World.block_lt_of_cell? w _ hw184_0)).trans hw184_0), ((HB.out.cell (World.block_lt_of_cell? w _ hw184_1)).trans hw184_1), ((HB.out.cell (World.block_lt_of_cell? w _ hw184_2)).trans hw184_2)⟩ (fun hHeld => ?_); refine with_tabW impl_GoodAuto.tab6 impl_GoodAuto.bits6 (fun HT_ HW_ => ?_)
                   generalize w72.drew = w73 at BK179 BK183 HB hx184_0 hx184_1 hx184_2 hHeld ⊢
                   refine Sh.pA 0 43 (Sh.pre 47 1) (any_of HT_.out (by kernel_rfl)) ?_ (ha := by simp only [Act.put, List.setIfInBounds_toArray, List.set_cons_zero, List.set_cons_succ, i64_w, i32_w, hji58]; rfl)
                   refine Sh.tA 1 44 (Sh.pre 47 2) (take_ofW HT_.out HW_.out (by kernel_rfl)) hHeld ?_ (hy := by rintro w' ⟨s0, s1, s2, s3, s4, s5, s6, s7, s8, s9⟩; go_simp; with_reducible rfl) (ha := by simp only [Act.put, List.setIfInBounds_toArray, List.set_cons_zero, List.set_cons_succ, i64_w, i32_w, hji58]; rfl)
                   refine Sh.pA 2 45 (Sh.pre 47 3) (any_of HT_.out (by kernel_rfl)) ?_ (ha := by simp only [Act.put, List.setIfInBounds_toArray, List.set_cons_zero, List.set_cons_succ, i64_w, i32_w, hji58]; rfl)
                   refine Sh.pA 3 46 (Sh.pre 47 4) (any_of HT_.out (by kernel_rfl)) ?_ (ha := by simp only [Act.put, List.setIfInBounds_toArray, List.set_cons_zero, List.set_cons_succ, i64_w, i32_w, hji58]; rfl)
                   refine Sh.pA 4 47 (Sh.pre 47 5) (any_of HT_.out (by kernel_rfl)) ?_ (ha := by simp only [Act.put, List.setIfInBounds_toArray, List.set_cons_zero, List.set_cons_succ, i64_w, i32_w, hji58]; rfl)
                   refine Sh.pA 6 49 #[true, true, true, true, true, false, true, false, false, false, false, false, false, false, false, false, false, false, false, false, false, false, false, false, false, false, false, false, false, false, false, false, false, false, false, false, false, false, false, false, false, false, false, false, false, false, false] (any_of HT_.out (by kernel_rfl)) ?_ (ha := by simp only [Act.put, List.setIfInBounds_toArray, List.set_cons_zero, List.set_cons_succ, i64_w, i32_w, hji58]; rfl)
                   refine Sh.tA 5 48 (Sh.pre 47 7) (take_ofW HT_.out HW_.out (by kernel_rfl)) hHeld ?_ (hy := by rintro w' ⟨s0, s1, s2, s3, s4, s5, s6, s7, s8, s9⟩; go_simp; with_reducible rfl) (ha := by simp only [Act.put, List.setIfInBounds_toArray, List.set_cons_zero, List.set_cons_succ, i64_w, i32_w, hji58]; rfl)
                   refine Sh.tA 7 50 (Sh.pre 47 8) (take_ofW HT_.out HW_.out (by kernel_rfl)) hHeld ?_ (hy := by rintro w' ⟨s0, s1, s2, s3, s4, s5, s6, s7, s8, s9⟩; go_simp; with_reducible rfl) (ha := by simp only [Act.put, List.setIfInBounds_toArray, List.set_cons_zero, List.set_cons_succ, i64_w, i32_w, hji58]; rfl)
                   refine Sh.pA 8 51 (Sh.pre 47 9) (any_of HT_.out (by kernel_rfl)) ?_ (ha := by simp only [Act.put, List.setIfInBounds_toArray, List.set_cons_zero, List.set_cons_succ, i64_w, i32_w, hji58]; rfl)
                   refine Sh.pA 9 52 (Sh.pre 47 10) (any_of HT_.out (by kernel_rfl)) ?_ (ha := by simp only [Act.put, List.setIfInBounds_toArray, List.set_cons_zero, List.set_cons_succ, i64_w, i32_w, hji58]; rfl)
                   refine Sh.pA 10 53 (Sh.pre 47 11) (any_of HT_.out (by kernel_rfl)) ?_ (ha := by simp only [Act.put, List.setIfInBounds_toArray, List.set_cons_zero, List.set_cons_succ, i64_w, i32_w, hji58]; rfl)
                   refine Sh.pA 11 54 (Sh.pre 47 12) (any_of HT_.out (by kernel_rfl)) ?_ (ha := by simp only [Act.put, List.setIfInBounds_toArray, List.set_cons_zero, List.set_cons_succ, i64_w, i32_w, hji58]; rfl)
                   refine Sh.tA 12 55 (Sh.pre 47 13) (take_ofW HT_.out HW_.out (by kernel_rfl)) hHeld ?_ (hy := by rintro w' ⟨s0, s1, s2, s3, s4, s5, s6, s7, s8, s9⟩; go_simp; with_reducible rfl) (ha := by simp only [Act.put, List.setIfInBounds_toArray, List.set_cons_zero, List.set_cons_succ, i64_w, i32_w, hji58]; rfl)
                   refine Sh.pA 13 56 (Sh.pre 47 14) (any_of HT_.out (by kernel_rfl)) ?_ (ha := by simp only [Act.put, List.setIfInBounds_toArray, List.set_cons_zero, List.set_cons_succ, i64_w, i32_w, hji58]; rfl)
                   refine Sh.pA 14 57 (Sh.pre 47 15) (any_of HT_.out (by kernel_rfl)) ?_ (ha := by simp only [Act.put, List.setIfInBounds_toArray, List.set_cons_zero, List.set_cons_succ, i64_w, i32_w, hji58]; rfl)
                   refine Sh.pA 15 58 (Sh.pre 47 16) (any_of HT_.out (by kernel_rfl)) ?_ (ha := by simp only [Act.put, List.setIfInBounds_toArray, List.set_cons_zero, List.set_cons_succ, i64_w, i32_w, hji58]; rfl)
                   refine Sh.pA 16 59 (Sh.pre 47 17) (any_of HT_.out (by kernel_rfl)) ?_ (ha := by simp only [Act.put, List.setIfInBounds_toArray, List.set_cons_zero, List.set_cons_succ, i64_w, i32_w, hji58]; rfl)
                   refine Sh.pA 18 61 #[true, true, true, true, true, true, true, true, true, true, true, true, true, true, true, true, true, false, true, false, false, false, false, false, false, false, false, false, false, false, false, false, false, false, false, false, false, false, false, false, false, false, false, false, false, false, false] (any_of HT_.out (by kernel_rfl)) ?_ (ha := by simp only [Act.put, List.setIfInBounds_toArray, List.set_cons_zero, List.set_cons_succ, i64_w, i32_w, hji58]; rfl)
                   refine Sh.tA 17 60 (Sh.pre 47 19) (take_ofW HT_.out HW_.out (by kernel_rfl)) hHeld ?_ (hy := by rintro w' ⟨s0, s1, s2, s3, s4, s5, s6, s7, s8, s9⟩; go_simp; with_reducible rfl) (ha := by simp only [Act.put, List.setIfInBounds_toArray, List.set_cons_zero, List.set_cons_succ, i64_w, i32_w, hji58]; rfl)
                   refine Sh.tA 19 62 (Sh.pre 47 20) (take_ofW HT_.out HW_.out (by kernel_rfl)) hHeld ?_ (hy := by rintro w' ⟨s0, s1, s2, s3, s4, s5, s6, s7, s8, s9⟩; go_simp; with_reducible rfl) (ha := by simp only [Act.put, List.setIfInBounds_toArray, List.set_cons_zero, List.set_cons_succ, i64_w, i32_w, hji58]; rfl)
                   refine Sh.pA 20 63 (Sh.pre 47 21) (any_of HT_.out (by kernel_rfl)) ?_ (ha := by simp only [Act.put, List.setIfInBounds_toArray, List.set_cons_zero, List.set_cons_succ, i64_w, i32_w, hji58]; rfl)
                   refine Sh.pA 21 64 (Sh.pre 47 22) (any_of HT_.out (by kernel_rfl)) ?_ (ha := by simp only [Act.put, List.setIfInBounds_toArray, List.set_cons_zero, List.set_cons_succ, i64_w, i32_w, hji58]; rfl)
                   refine Sh.pA 22 65 (Sh.pre 47 23) (any_of HT_.out (by kernel_rfl)) ?_ (ha := by simp only [Act.put, List.setIfInBounds_toArray, List.set_cons_zero, List.set_cons_succ, i64_w, i32_w, hji58]; rfl)
                   refine Sh.pA 23 66 (Sh.pre 47 24) (any_of HT_.out (by kernel_rfl)) ?_ (ha := by simp only [Act.put, List.setIfInBounds_toArray, List.set_cons_zero, List.set_cons_succ, i64_w, i32_w, hji58]; rfl)
                   refine Sh.tA 24 67 (Sh.pre 47 25) (take_ofW HT_.out HW_.out (by kernel_rfl)) hHeld ?_ (hy := by rintro w' ⟨s0, s1, s2, s3, s4, s5, s6, s7, s8, s9⟩; go_simp; with_reducible rfl) (ha := by simp only [Act.put, List.setIfInBounds_toArray, List.set_cons_zero, List.set_cons_succ, i64_w, i32_w, hji58]; rfl)
                   refine Sh.pA 25 68 (Sh.pre 47 26) (any_of HT_.out (by kernel_rfl)) ?_ (ha := by simp only [Act.put, List.setIfInBounds_toArray, List.set_cons_zero, List.set_cons_succ, i64_w, i32_w, hji58]; rfl)
                   refine Sh.pA 26 69 (Sh.pre 47 27) (any_of HT_.out (by kernel_rfl)) ?_ (ha := by simp only [Act.put, List.setIfInBounds_toArray, List.set_cons_zero, List.set_cons_succ, i64_w, i32_w, hji58]; rfl)
                   refine Sh.pA 27 70 (Sh.pre 47 28) (any_of HT_.out (by kernel_rfl)) ?_ (ha := by simp only [Act.put, List.setIfInBounds_toArray, List.set_cons_zero, List.set_cons_succ, i64_w, i32_w, hji58]; rfl)
                   refine Sh.pA 28 71 (Sh.pre 47 29) (any_of HT_.out (by kernel_rfl)) ?_ (ha := by simp only [Act.put, List.setIfInBounds_toArray, List.set_cons_zero, List.set_cons_succ, i64_w, i32_w, hji58]; rfl)
                   refine Sh.tA 29 72 (Sh.pre 47 30) (take_ofW HT_.out HW_.out (by kernel_rfl)) hHeld ?_ (hy := by rintro w' ⟨s0, s1, s2, s3, s4, s5, s6, s7, s8, s9⟩; go_simp; with_reducible rfl) (ha := by simp only [Act.put, List.setIfInBounds_toArray, List.set_cons_zero, List.set_cons_succ, i64_w, i32_w, hji58]; rfl)
                   refine Sh.pA 30 73 (Sh.pre 47 31) (any_of HT_.out (by kernel_rfl)) ?_ (ha := by simp only [Act.put, List.setIfInBounds_toArray, List.set_cons_zero, List.set_cons_succ, i64_w, i32_w, hji58]; rfl)
                   refine Sh.pA 31 74 (Sh.pre 47 32) (any_of HT_.out (by kernel_rfl)) ?_ (ha := by simp only [Act.put, List.setIfInBounds_toArray, List.set_cons_zero, List.set_cons_succ, i64_w, i32_w, hji58]; rfl)
                   refine Sh.pA 32 75 (Sh.pre 47 33) (any_of HT_.out (by kernel_rfl)) ?_ (ha := by simp only [Act.put, List.setIfInBounds_toArray, List.set_cons_zero, List.set_cons_succ, i64_w, i32_w, hji58]; rfl)
                   refine Sh.pA 33 76 (Sh.pre 47 34) (any_of HT_.out (by kernel_rfl)) ?_ (ha := by simp only [Act.put, List.setIfInBounds_toArray, List.set_cons_zero, List.set_cons_succ, i64_w, i32_w, hji58]; rfl)
                   refine Sh.pA 34 77 (Sh.pre 47 35) (any_of HT_.out (by kernel_rfl)) ?_ (ha := by simp only [Act.put, List.setIfInBounds_toArray, List.set_cons_zero, List.set_cons_succ, i64_w, i32_w, hji58]; rfl)
                   refine Sh.pA 35 78 (Sh.pre 47 36) (any_of HT_.out (by kernel_rfl)) ?_ (ha := by simp only [Act.put, List.setIfInBounds_toArray, List.set_cons_zero, List.set_cons_succ, i64_w, i32_w, hji58]; rfl)
                   refine Sh.pA 36 79 (Sh.pre 47 37) (any_of HT_.out (by kernel_rfl)) ?_ (ha := by simp only [Act.put, List.setIfInBounds_toArray, List.set_cons_zero, List.set_cons_succ, i64_w, i32_w, hji58]; rfl)
                   refine Sh.pA 38 81 #[true, true, true, true, true, true, true, true, true, true, true, true, true, true, true, true, true, true, true, true, true, true, true, true, true, true, true, true, true, true, true, true, true, true, true, true, true, false, true, false, false, false, false, false, false, false, false] (any_of HT_.out (by kernel_rfl)) ?_ (ha := by simp only [Act.put, List.setIfInBounds_toArray, List.set_cons_zero, List.set_cons_succ, i64_w, i32_w, hji58]; rfl)
                   refine Sh.pA 39 82 #[true, true, true, true, true, true, true, true, true, true, true, true, true, true, true, true, true, true, true, true, true, true, true, true, true, true, true, true, true, true, true, true, true, true, true, true, true, false, true, true, false, false, false, false, false, false, false] (any_of HT_.out (by kernel_rfl)) ?_ (ha := by simp only [Act.put, List.setIfInBounds_toArray, List.set_cons_zero, List.set_cons_succ, i64_w, i32_w, hji58]; rfl)
                   refine Sh.tA 37 80 (Sh.pre 47 40) (take_ofW HT_.out HW_.out (by kernel_rfl)) hHeld ?_ (hy := by rintro w' ⟨s0, s1, s2, s3, s4, s5, s6, s7, s8, s9⟩; go_simp; with_reducible rfl) (ha := by simp only [Act.put, List.setIfInBounds_toArray, List.set_cons_zero, List.set_cons_succ, i64_w, i32_w, hji58]; rfl)
                   refine Sh.pA 40 83 (Sh.pre 47 41) (any_of HT_.out (by kernel_rfl)) ?_ (ha := by simp only [Act.put, List.setIfInBounds_toArray, List.set_cons_zero, List.set_cons_succ, i64_w, i32_w, hji58]; rfl)
                   refine Sh.tA 41 84 (Sh.pre 47 42) (take_ofW HT_.out HW_.out (by kernel_rfl)) hHeld ?_ (hy := by rintro w' ⟨s0, s1, s2, s3, s4, s5, s6, s7, s8, s9⟩; go_simp; with_reducible rfl) (ha := by simp only [Act.put, List.setIfInBounds_toArray, List.set_cons_zero, List.set_cons_succ, i64_w, i32_w, hji58]; rfl)
                   refine Sh.tA 42 85 (Sh.pre 47 43) (take_ofW HT_.out HW_.out (by kernel_rfl)) hHeld ?_ (hy := by rintro w' ⟨s0, s1, s2, s3, s4, s5, s6, s7, s8, s9⟩; go_simp; with_reducible rfl) (ha := by simp only [Act.put, List.setIfInBounds_toArray, List.set_cons_zero, List.set_cons_succ, i64_w, i32_w, hji58]; rfl)
                   refine one_ (i := 43) (N := some 86) #[true, true, true, true, true, true, true, true, true, true, true, true, true, true, true, true, true, true, true, true, true, true, true, true, true, true, true, true, true, true, true, true, true, true, true, true, true, true, true, true, true, true, true, true, false, false, false] rfl rfl (one_of HT_.out (by kernel_rfl)) (by decide) (fun K hK => ?_)
                   refine goes_ Try.func102 (by kernel_rfl) rfl #[.agg #[.int .i64 ((rd_T113 l0_2 (ji58)).f0), .int .i64 ((rd_T113 l0_2 (ji58)).f1), .int .i64 ((rd_T113 l0_2 (ji58)).f2)], .agg #[.int .i64 ((rd_T113 l0_2 x38_2).f0), .int .i64 ((rd_T113 l0_2 x38_2).f1), .int .i64 ((rd_T113 l0_2 x38_2).f2)]] (by rfl) rfl rfl (by (try simp only [List.map_toArray, List.map_cons, List.map_nil]); first | done | (simp only [hji58]; rfl) | rfl | (simp only [List.length_drop, List.length_take]; rfl)) ?_
                   with_reducible refine (impl_compareEdges.calls k2 ((rd_T113 l0_2 (ji58)).f0) ((rd_T113 l0_2 (ji58)).f1) ((rd_T113 l0_2 (ji58)).f2) ((rd_T113 l0_2 x38_2).f0) ((rd_T113 l0_2 x38_2).f1) ((rd_T113 l0_2 x38_2).f2) t185 _ A61.out).mono ?_
                   rintro e w74 ⟨rfl, hb⟩
                   refine ⟨_, rfl, ?_⟩
                   have n0_ := am_ (blk_below (g := gb179) (o := .cells #[.int .i64 a0_0, .slice A0_1 l0_1.length c0_1, .slice (some ad182) l0_2.length c0_2, .slice A0_3 l0_3.length c0_3] 67 (0, 0)) (by (with_reducible repeat (first | refine blk_drewN ?_ _ | refine blk_drew ?_ | refine blk_alloc ?_ _)); exact BK179.out) hb)
                   have n1_ := am_ (blk_below (g := gb183) (o := .cells #[.int .i64 ((rd_T113 l0_2 x38_2).f0), .int .i64 ((rd_T113 l0_2 x38_2).f1), .int .i64 ((rd_T113 l0_2 x38_2).f2)] 113 (0, 0)) (by (with_reducible repeat (first | refine blk_drewN ?_ _ | refine blk_drew ?_ | refine blk_alloc ?_ _)); exact BK183.out) hb)
                   have n2_ := am_ (below_step (by repeat (first | (with_reducible first | exact HB.out | apply below_alloc | apply pw_below_drewN | apply below_drew1 | refine below_set ?_ GE179.out | refine below_set ?_ GE183.out) | exact HB.out)) hb)
                   clear BK179
                   clear BK183
                   clear HB
                   have BK179 := n0_
                   have BK183 := n1_
                   have HB := n2_
                   clear n0_ n1_ n2_
                   (try clear hb)
                   (try clear hb2)
                   (try clear hk)
                   (try clear hi)
                   refine hK.out _ _ ⟨(blk_cell BK183.out 0).trans rfl, (blk_cell BK183.out 1).trans rfl, (blk_cell BK183.out 2).trans rfl, (blk_cell BK179.out 0).trans rfl, (blk_cell BK179.out 1).trans rfl, (blk_cell BK179.out 2).trans rfl, (blk_cell BK179.out 3).trans rfl, ((HB.out.cell (World.block_lt_of_cell? w _ hw184_0)).trans hw184_0), ((HB.out.cell (World.block_lt_of_cell? w _ hw184_1)).trans hw184_1), ((HB.out.cell (World.block_lt_of_cell? w _ hw184_2)).trans hw184_2)⟩ (fun hHeld => ?_)
                   clear hK K
                   refine norm_ (a' := ?_) ?_ ?_
                   rotate_left
                   ·show Act.put _ (some 86) _ = _
                    simp only [Act.put, List.setIfInBounds_toArray, List.set_cons_zero, List.set_cons_succ, i64_w, i32_w, hji58]
                    rfl
                   refine Sh.pA 44 87 (Sh.pre 47 45) (any_of HT_.out (by kernel_rfl)) ?_ (ha := by simp only [Act.put, List.setIfInBounds_toArray, List.set_cons_zero, List.set_cons_succ, i64_w, i32_w, hji58]; rfl)
                   refine Sh.pA 45 88 (Sh.pre 47 46) (any_of HT_.out (by kernel_rfl)) ?_ (ha := by simp only [Act.put, List.setIfInBounds_toArray, List.set_cons_zero, List.set_cons_succ, i64_w, i32_w, hji58]; rfl)
                   refine Sh.pA 46 89 (Sh.pre 47 47) (any_of HT_.out (by kernel_rfl)) ?_ (ha := by simp only [Act.put, List.setIfInBounds_toArray, List.set_cons_zero, List.set_cons_succ, i64_w, i32_w, hji58]; rfl)
                   refine done_ (done_of HT_.out (by kernel_rfl)) ?_
                   try go_wp2
                   go_roundg k2
                   case measure => have := HJ1.out; have := HK2.out; omega
                   case rel => exact ⟨(wrap64 (x38_2 + 1)), (by first | rfl | (simp; done) | (simp [*]; done)), H', ⟨by have := HJ1.out; have := HK2.out; omega⟩, ⟨by (with_reducible repeat (first | refine blk_drewN ?_ _ | refine blk_drew ?_ | refine blk_alloc ?_ _)); exact BK179.out⟩, ⟨by repeat (first | (with_reducible first | exact HB.out | apply below_alloc | apply pw_below_drewN | apply below_drew1 | refine below_set ?_ GE179.out | refine below_set ?_ GE183.out) | exact HB.out)⟩⟩
                 ·rw [if_neg c60] at H
                  exact absurd H (by simp)
                ·rw [if_neg c59] at H
                 exact absurd H (by simp)
               ·rw [if_neg c57] at H
                have c57b0 : decide (0 < x38_2) = false := decide_eq_false c57
                clear c57
                have H' := am_ H
                clear H
                have p182 : 0 ≤ (x38_2 : Int) := of_decide_eq_true (by first | (with_reducible assumption) | assumption)
                have q182 : x38_2 < (l0_2.length : Int) := of_decide_eq_true (by first | (with_reducible assumption) | assumption)
                obtain ⟨ad182, e182, hx182_0, hx182_1, hx182_2⟩ := at_T113 HR0_2.out x38_2 p182 q182
                cases e182
                (try replace hx182_0 := (HB.out.cell (World.block_lt_of_cell? w _ hx182_0)).trans hx182_0)
                (try replace hx182_1 := (HB.out.cell (World.block_lt_of_cell? w _ hx182_1)).trans hx182_1)
                (try replace hx182_2 := (HB.out.cell (World.block_lt_of_cell? w _ hx182_2)).trans hx182_2)
                replace p182 := eq_true p182
                replace q182 := eq_true q182
                try go_wp2_with (first | ((with_reducible refine gate_dst (N := 4) rfl ?_); (try (refine gate_guard (by rfl) ?_; dsimp only)); refine box_event ?hg (N := 4) ?hd (cs := #[.int .i64 0, .int .i64 0, .int .i64 0]) (t := 113) ?hr ?_; (case hd => rfl); (case hg => rfl); (case hr => first | (go_simp; done) | (go_simp; rfl)); intro gb183 hg w75 hbox hb; have n0_ := am_ (blk_below (g := gb179) (o := .cells #[.int .i64 a0_0, .slice A0_1 l0_1.length c0_1, .slice (some ad182) l0_2.length c0_2, .slice A0_3 l0_3.length c0_3] 67 (0, 0)) (by (with_reducible repeat (first | refine blk_drewN ?_ _ | refine blk_drew ?_ | refine blk_alloc ?_ _)); exact BK179.out) hb); have n1_ := am_ (below_step (by repeat (first | (with_reducible first | exact HB.out | apply below_alloc | apply pw_below_drewN | apply below_drew1 | refine below_set ?_ GE179.out) | exact HB.out)) hb); have n2_ := am_ (hbox); have n3_ := am_ ((by rw [hg]; exact (below_size (by repeat (first | (with_reducible first | exact HB.out | apply below_alloc | apply pw_below_drewN | apply below_drew1 | refine below_set ?_ GE179.out) | exact HB.out))) : w.heap.size ≤ gb183)); have n4_ := am_ ((by rw [hg]; exact (below_size (by repeat (first | (with_reducible first | exact HB.out | apply below_alloc | apply pw_below_drewN | apply below_drew1 | refine below_set ?_ GE179.out) | exact HB.out))) : w.heap.size ≤ gb183)); have n5_ := am_ ((by rw [hg]; exact Nat.ne_of_lt (blk_lt (g := gb179) (o := .cells #[.int .i64 a0_0, .slice A0_1 l0_1.length c0_1, .slice (some ad182) l0_2.length c0_2, .slice A0_3 l0_3.length c0_3] 67 (0, 0)) (by (with_reducible repeat (first | refine blk_drewN ?_ _ | refine blk_drew ?_ | refine blk_alloc ?_ _)); exact BK179.out)) : gb179 ≠ gb183)); have n6_ := am_ ((by rw [hg]; exact Nat.ne_of_gt (blk_lt (g := gb179) (o := .cells #[.int .i64 a0_0, .slice A0_1 l0_1.length c0_1, .slice (some ad182) l0_2.length c0_2, .slice A0_3 l0_3.length c0_3] 67 (0, 0)) (by (with_reducible repeat (first | refine blk_drewN ?_ _ | refine blk_drew ?_ | refine blk_alloc ?_ _)); exact BK179.out)) : gb183 ≠ gb179)); clear BK179; clear HB; have BK179 := n0_; have HB := n1_; have BK183 := n2_; have GW183 := n3_; have GE183 := n4_; have NB179_183 := n5_; have NB183_179 := n6_; clear n0_ n1_ n2_ n3_ n4_ n5_ n6_; clear hb hbox hg; have hnb76 := NB183_179.out; have hnc76 := NB179_183.out; have hcz77_0 : w75.cell? ⟨gb183, 0, none⟩ = some (.int .i64 0) := (blk_cell BK183.out 0).trans rfl; have hcz77_1 : w75.cell? ⟨gb183, 1, none⟩ = some (.int .i64 0) := (blk_cell BK183.out 1).trans rfl; have hcz77_2 : w75.cell? ⟨gb183, 2, none⟩ = some (.int .i64 0) := (blk_cell BK183.out 2).trans rfl; have hfz77_0 := blk_frozen BK183.out 0; have hfz77_1 := blk_frozen BK183.out 1; have hfz77_2 := blk_frozen BK183.out 2))
                have n0_ : Aside0 ((((w75.setCell ⟨gb183, 0, none⟩ (.int .i64 ((rd_T113 l0_2 x38_2).f0))).setCell ⟨gb183, 1, none⟩ (.int .i64 ((rd_T113 l0_2 x38_2).f1))).setCell ⟨gb183, 2, none⟩ (.int .i64 ((rd_T113 l0_2 x38_2).f2))).heap[gb179]? = some (.cells #[.int .i64 a0_0, .slice A0_1 l0_1.length c0_1, .slice (some ad182) l0_2.length c0_2, .slice A0_3 l0_3.length c0_3] 67 (0, 0))) := ⟨by (with_reducible repeat (first | refine blk_drewN ?_ _ | refine blk_drew ?_ | refine blk_alloc ?_ _)); refine blk_far ?_ NB179_183.out _; (with_reducible repeat (first | refine blk_drewN ?_ _ | refine blk_drew ?_ | refine blk_alloc ?_ _)); refine blk_far ?_ NB179_183.out _; (with_reducible repeat (first | refine blk_drewN ?_ _ | refine blk_drew ?_ | refine blk_alloc ?_ _)); refine blk_far ?_ NB179_183.out _; (with_reducible repeat (first | refine blk_drewN ?_ _ | refine blk_drew ?_ | refine blk_alloc ?_ _)); exact BK179.out⟩
                have n1_ : Aside0 ((((w75.setCell ⟨gb183, 0, none⟩ (.int .i64 ((rd_T113 l0_2 x38_2).f0))).setCell ⟨gb183, 1, none⟩ (.int .i64 ((rd_T113 l0_2 x38_2).f1))).setCell ⟨gb183, 2, none⟩ (.int .i64 ((rd_T113 l0_2 x38_2).f2))).heap[gb183]? = some (.cells #[.int .i64 ((rd_T113 l0_2 x38_2).f0), .int .i64 ((rd_T113 l0_2 x38_2).f1), .int .i64 ((rd_T113 l0_2 x38_2).f2)] 113 (0, 0))) := ⟨by (with_reducible repeat (first | refine blk_drewN ?_ _ | refine blk_drew ?_ | refine blk_alloc ?_ _)); refine blk_put (cs := #[.int .i64 ((rd_T113 l0_2 x38_2).f0), .int .i64 ((rd_T113 l0_2 x38_2).f1), .int .i64 0]) ?_ 2 _ rfl; (with_reducible repeat (first | refine blk_drewN ?_ _ | refine blk_drew ?_ | refine blk_alloc ?_ _)); refine blk_put (cs := #[.int .i64 ((rd_T113 l0_2 x38_2).f0), .int .i64 0, .int .i64 0]) ?_ 1 _ rfl; (with_reducible repeat (first | refine blk_drewN ?_ _ | refine blk_drew ?_ | refine blk_alloc ?_ _)); refine blk_put (cs := #[.int .i64 0, .int .i64 0, .int .i64 0]) ?_ 0 _ rfl; (with_reducible repeat (first | refine blk_drewN ?_ _ | refine blk_drew ?_ | refine blk_alloc ?_ _)); exact BK183.out⟩
                have n2_ : Aside0 (Below w.heap.size w (((w75.setCell ⟨gb183, 0, none⟩ (.int .i64 ((rd_T113 l0_2 x38_2).f0))).setCell ⟨gb183, 1, none⟩ (.int .i64 ((rd_T113 l0_2 x38_2).f1))).setCell ⟨gb183, 2, none⟩ (.int .i64 ((rd_T113 l0_2 x38_2).f2)))) := ⟨by repeat (first | (with_reducible first | exact HB.out | apply below_alloc | apply pw_below_drewN | apply below_drew1 | refine below_set ?_ GE179.out | refine below_set ?_ GE183.out) | exact HB.out)⟩
                (try clear BK179)
                (try clear BK183)
                (try clear HB)
                generalize (((w75.setCell ⟨gb183, 0, none⟩ (.int .i64 ((rd_T113 l0_2 x38_2).f0))).setCell ⟨gb183, 1, none⟩ (.int .i64 ((rd_T113 l0_2 x38_2).f1))).setCell ⟨gb183, 2, none⟩ (.int .i64 ((rd_T113 l0_2 x38_2).f2))) = w78 at n0_ n1_ n2_ ⊢
                have BK179 := n0_
                have BK183 := n1_
                have HB := n2_
                clear n0_ n1_ n2_
                have n0_ := am_ (blk_drew BK179.out)
                have n1_ := am_ (blk_drew BK183.out)
                have n2_ := am_ (below_drew1 HB.out)
                clear BK179
                clear BK183
                clear HB
                have BK179 := n0_
                have BK183 := n1_
                have HB := n2_
                clear n0_ n1_ n2_
                refine start_ (n := 47) (S := fun w' => w'.cell? ⟨gb183, 0, none⟩ = some (.int .i64 ((rd_T113 l0_2 x38_2).f0)) ∧ w'.cell? ⟨gb183, 1, none⟩ = some (.int .i64 ((rd_T113 l0_2 x38_2).f1)) ∧ w'.cell? ⟨gb183, 2, none⟩ = some (.int .i64 ((rd_T113 l0_2 x38_2).f2)) ∧ w'.cell? ⟨gb179, 0, none⟩ = some (.int .i64 a0_0) ∧ w'.cell? ⟨gb179, 1, none⟩ = some (.slice A0_1 l0_1.length c0_1) ∧ w'.cell? ⟨gb179, 2, none⟩ = some (.slice (some ad182) l0_2.length c0_2) ∧ w'.cell? ⟨gb179, 3, none⟩ = some (.slice A0_3 l0_3.length c0_3)) (ds := []) #[false, false, false, false, false, false, false, false, false, false, false, false, false, false, false, false, false, false, false, false, false, false, false, false, false, false, false, false, false, false, false, false, false, false, false, false, false, false, false, false, false, false, false, false, false, false, false] (by kernel_rfl) rfl rfl ⟨(blk_cell BK183.out 0).trans rfl, (blk_cell BK183.out 1).trans rfl, (blk_cell BK183.out 2).trans rfl, (blk_cell BK179.out 0).trans rfl, (blk_cell BK179.out 1).trans rfl, (blk_cell BK179.out 2).trans rfl, (blk_cell BK179.out 3).trans rfl⟩ (fun hHeld => ?_); refine with_tabW impl_GoodAuto.tab6 impl_GoodAuto.bits6 (fun HT_ HW_ => ?_)
                generalize w78.drew = w79 at BK179 BK183 HB hHeld ⊢
                refine Sh.pA 0 43 (Sh.pre 47 1) (any_of HT_.out (by kernel_rfl)) ?_
                refine Sh.tA 1 44 (Sh.pre 47 2) (take_ofW HT_.out HW_.out (by kernel_rfl)) hHeld ?_ (hy := by rintro w' ⟨s0, s1, s2, s3, s4, s5, s6⟩; go_simp; with_reducible rfl)
                refine Sh.pA 2 45 (Sh.pre 47 3) (any_of HT_.out (by kernel_rfl)) ?_
                refine Sh.pA 3 46 (Sh.pre 47 4) (any_of HT_.out (by kernel_rfl)) ?_
                refine Sh.pA 4 47 (Sh.pre 47 5) (any_of HT_.out (by kernel_rfl)) ?_
                refine Sh.pA 6 49 #[true, true, true, true, true, false, true, false, false, false, false, false, false, false, false, false, false, false, false, false, false, false, false, false, false, false, false, false, false, false, false, false, false, false, false, false, false, false, false, false, false, false, false, false, false, false, false] (any_of HT_.out (by kernel_rfl)) ?_
                refine Sh.tA 5 48 (Sh.pre 47 7) (take_ofW HT_.out HW_.out (by kernel_rfl)) hHeld ?_ (hy := by rintro w' ⟨s0, s1, s2, s3, s4, s5, s6⟩; go_simp; with_reducible rfl)
                refine Sh.tA 7 50 (Sh.pre 47 8) (take_ofW HT_.out HW_.out (by kernel_rfl)) hHeld ?_ (hy := by rintro w' ⟨s0, s1, s2, s3, s4, s5, s6⟩; go_simp; with_reducible rfl)
                refine Sh.pA 8 51 (Sh.pre 47 9) (any_of HT_.out (by kernel_rfl)) ?_
                refine Sh.pA 9 52 (Sh.pre 47 10) (any_of HT_.out (by kernel_rfl)) ?_
                refine Sh.pA 10 53 (Sh.pre 47 11) (any_of HT_.out (by kernel_rfl)) ?_
                refine Sh.pA 11 54 (Sh.pre 47 12) (any_of HT_.out (by kernel_rfl)) ?_
                refine Sh.tA 12 55 (Sh.pre 47 13) (take_ofW HT_.out HW_.out (by kernel_rfl)) hHeld ?_ (hy := by rintro w' ⟨s0, s1, s2, s3, s4, s5, s6⟩; go_simp; with_reducible rfl)
                refine Sh.pA 13 56 (Sh.pre 47 14) (any_of HT_.out (by kernel_rfl)) ?_
                refine Sh.pA 14 57 (Sh.pre 47 15) (any_of HT_.out (by kernel_rfl)) ?_
                refine Sh.pA 15 58 (Sh.pre 47 16) (any_of HT_.out (by kernel_rfl)) ?_
                refine Sh.pA 16 59 (Sh.pre 47 17) (any_of HT_.out (by kernel_rfl)) ?_
                refine Sh.pA 18 61 #[true, true, true, true, true, true, true, true, true, true, true, true, true, true, true, true, true, false, true, false, false, false, false, false, false, false, false, false, false, false, false, false, false, false, false, false, false, false, false, false, false, false, false, false, false, false, false] (any_of HT_.out (by kernel_rfl)) ?_
                refine Sh.tA 17 60 (Sh.pre 47 19) (take_ofW HT_.out HW_.out (by kernel_rfl)) hHeld ?_ (hy := by rintro w' ⟨s0, s1, s2, s3, s4, s5, s6⟩; go_simp; with_reducible rfl)
                refine Sh.tA 19 62 (Sh.pre 47 20) (take_ofW HT_.out HW_.out (by kernel_rfl)) hHeld ?_ (hy := by rintro w' ⟨s0, s1, s2, s3, s4, s5, s6⟩; go_simp; with_reducible rfl)
                refine Sh.pA 20 63 (Sh.pre 47 21) (any_of HT_.out (by kernel_rfl)) ?_
                refine Sh.pA 21 64 (Sh.pre 47 22) (any_of HT_.out (by kernel_rfl)) ?_
                refine Sh.pA 22 65 (Sh.pre 47 23) (any_of HT_.out (by kernel_rfl)) ?_
                refine Sh.pA 23 66 (Sh.pre 47 24) (any_of HT_.out (by kernel_rfl)) ?_
                refine Sh.tA 24 67 (Sh.pre 47 25) (take_ofW HT_.out HW_.out (by kernel_rfl)) hHeld ?_ (hy := by rintro w' ⟨s0, s1, s2, s3, s4, s5, s6⟩; go_simp; with_reducible rfl)
                refine Sh.pA 25 68 (Sh.pre 47 26) (any_of HT_.out (by kernel_rfl)) ?_
                refine Sh.pA 26 69 (Sh.pre 47 27) (any_of HT_.out (by kernel_rfl)) ?_
                refine Sh.pA 27 70 (Sh.pre 47 28) (any_of HT_.out (by kernel_rfl)) ?_
                refine Sh.pA 28 71 (Sh.pre 47 29) (any_of HT_.out (by kernel_rfl)) ?_
                refine Sh.tA 29 72 (Sh.pre 47 30) (take_ofW HT_.out HW_.out (by kernel_rfl)) hHeld ?_ (hy := by rintro w' ⟨s0, s1, s2, s3, s4, s5, s6⟩; go_simp; with_reducible rfl)
                refine Sh.pA 30 73 (Sh.pre 47 31) (any_of HT_.out (by kernel_rfl)) ?_
                refine Sh.pA 31 74 (Sh.pre 47 32) (any_of HT_.out (by kernel_rfl)) ?_
                refine Sh.pA 32 75 (Sh.pre 47 33) (any_of HT_.out (by kernel_rfl)) ?_
                refine Sh.pA 33 76 (Sh.pre 47 34) (any_of HT_.out (by kernel_rfl)) ?_
                refine Sh.pA 34 77 (Sh.pre 47 35) (any_of HT_.out (by kernel_rfl)) ?_
                refine Sh.pA 35 78 (Sh.pre 47 36) (any_of HT_.out (by kernel_rfl)) ?_
                refine Sh.pU 36 79 (Sh.pre 47 37) (any_of HT_.out (by kernel_rfl)) ?_
                refine Sh.pU 37 80 (Sh.pre 47 38) (any_of HT_.out (by kernel_rfl)) ?_
                refine Sh.pU 38 81 (Sh.pre 47 39) (any_of HT_.out (by kernel_rfl)) ?_
                refine Sh.pU 39 82 (Sh.pre 47 40) (any_of HT_.out (by kernel_rfl)) ?_
                refine Sh.pU 40 83 (Sh.pre 47 41) (any_of HT_.out (by kernel_rfl)) ?_
                refine Sh.pU 41 84 (Sh.pre 47 42) (any_of HT_.out (by kernel_rfl)) ?_
                refine Sh.pU 42 85 (Sh.pre 47 43) (any_of HT_.out (by kernel_rfl)) ?_
                refine Sh.pU 43 86 (Sh.pre 47 44) (any_of HT_.out (by kernel_rfl)) ?_
                refine Sh.pU 44 87 (Sh.pre 47 45) (any_of HT_.out (by kernel_rfl)) ?_
                refine Sh.pA 45 88 (Sh.pre 47 46) (any_of HT_.out (by kernel_rfl)) ?_
                refine Sh.pA 46 89 (Sh.pre 47 47) (any_of HT_.out (by kernel_rfl)) ?_
                refine done_ (done_of HT_.out (by kernel_rfl)) ?_
                try go_wp2
                go_roundg k2
                case measure => have := HJ1.out; have := HK2.out; omega
                case rel => exact ⟨(wrap64 (x38_2 + 1)), (by first | rfl | (simp; done) | (simp [*]; done)), H', ⟨by have := HJ1.out; have := HK2.out; omega⟩, ⟨by (with_reducible repeat (first | refine blk_drewN ?_ _ | refine blk_drew ?_ | refine blk_alloc ?_ _)); exact BK179.out⟩, ⟨by repeat (first | (with_reducible first | exact HB.out | apply below_alloc | apply pw_below_drewN | apply below_drew1 | refine below_set ?_ GE179.out | refine below_set ?_ GE183.out) | exact HB.out)⟩⟩
        ·rw [if_neg c20] at H
         exact absurd H (by simp)
       ·rw [if_neg c19] at H
        exact absurd H (by simp)
      ·rw [if_neg c18] at H
       have c18b0 : decide (x38_2 < (l0_2.length : Int)) = false := decide_eq_false c18
       clear c18
       obtain rfl := Option.some.inj H
       go_wp2
       go_ret
       exact ⟨by first | rfl | (simp [errW_none, errW_some] <;> rfl) | (simp [*, errW_none, errW_some] <;> rfl), by repeat (first | (with_reducible first | exact HB.out | apply below_alloc | apply pw_below_drewN | apply below_drew1 | refine below_set ?_ GE179.out) | exact HB.out)⟩

end Go.Proofs.Ytbgbidgnlioomaa.P
namespace Go.Proofs.Ytbgbidgnlioomaa.P
open Go.RowKit Go.Proofs.YtbgbidgnlioomaaW.PrintWords Go.Proofs.YtbgbidgnlioomaaW.PrintLast Go.Proofs.YtbgbidgnlioomaaW.PrintMore Go.Proofs.Ytbgbidgnlioomaa.Hof
attribute [local go_sem] max2_int min2_int max_two min_two max_three min_three max_four min_four   -- for this text's walks alone
set_option linter.unusedVariables false
set_option linter.unusedSimpArgs false

/-! ### laws_eqIntS: function 52 -/
def laws_eqIntS.l0 : Nat → List Int → List Int → Int → Option (Bool)
 | 0, _, _, _ => none
 | k + 1, x0, x1, x5 => if x5 < (x0.length : Int) then (if 0 ≤ x5 then (if x5 < (x1.length : Int) then (if (rd x0 x5) = (rd x1 x5) then (laws_eqIntS.l0 k x0 x1 (wrap64 (x5 + 1))) else (some false)) else (none)) else (none)) else (some true)
def laws_eqIntS.f (k : Nat) (l0 : List Int) (l1 : List Int) : Option (Bool) := if (l0.length : Int) = (l1.length : Int) then (laws_eqIntS.l0 k l0 l1 0) else (some false)
theorem laws_eqIntS.mono_l : ∀ k, (∀ y0 y1 y2, LeO (laws_eqIntS.l0 k y0 y1 y2) (laws_eqIntS.l0 (k + 1) y0 y1 y2))
 | 0 => fun _ _ _ r h => by simp [laws_eqIntS.l0] at h
 | k + 1 => by
  have ih0 := laws_eqIntS.mono_l k
  ·intro y0 y1 y2
   unfold laws_eqIntS.l0
   repeat' first
   | (with_reducible exact ih0 _ _ _)
   | (with_reducible exact LeO.refl _)
   | (with_reducible exact LeO.none _)
   | (with_reducible refine LeO.ite ?_ ?_)
   | (with_reducible refine LeO.bind ?_ (fun _ => ?_))
   | exact ih0 _ _ _
   | exact LeO.none _
   | refine LeO.ite ?_ ?_
   | refine LeO.bind ?_ (fun _ => ?_)
theorem laws_eqIntS.mono : ∀ a0 a1 k, LeO (laws_eqIntS.f k a0 a1) (laws_eqIntS.f (k + 1) a0 a1) := by
 intro a0 a1 k
 have ih0 := laws_eqIntS.mono_l k
 unfold laws_eqIntS.f
 repeat' first
   | (with_reducible exact ih0 _ _ _)
   | (with_reducible exact LeO.refl _)
   | (with_reducible exact LeO.none _)
   | (with_reducible refine LeO.ite ?_ ?_)
   | (with_reducible refine LeO.bind ?_ (fun _ => ?_))
   | exact ih0 _ _ _
   | exact LeO.none _
   | refine LeO.ite ?_ ?_
   | refine LeO.bind ?_ (fun _ => ?_)
set_option maxHeartbeats 8000000 in
set_option maxRecDepth 100000 in
theorem laws_eqIntS.calls (k : Nat) (A0 : Option Addr) (c0 : Nat) (l0 : List Int) (A1 : Option Addr) (c1 : Nat) (l1 : List Int) (r : Bool) (w : World) (hr0 : Kd.C (Kd.int .i64) w A0 l0.length l0) (hc0 : l0.length ≤ c0) (hr1 : Kd.C (Kd.int .i64) w A1 l1.length l1) (hc1 : l1.length ≤ c1) (h : laws_eqIntS.f k l0 l1 = some r) :
  Calls Try.prog 52 #[.slice A0 l0.length c0, .slice A1 l1.length c1] w fun e w' => e = .returned (.bool r) ∧ Drawn0 w w' := by
 have HR0 := am_ hr0
 have HC0 := am_ hc0
 clear hr0 hc0
 have HR1 := am_ hr1
 have HC1 := am_ hc1
 clear hr1 hc1
 have H : (if (l0.length : Int) = (l1.length : Int) then (laws_eqIntS.l0 k l0 l1 0) else (some false)) = some r := h
 clear h
 by_cases c3 : (l0.length : Int) = (l1.length : Int)
 ·rw [if_pos c3] at H
  have c3b0 : ((l0.length : Int) == (l1.length : Int)) = true := beq_iff_eq.mpr c3
  have c3b1 : ((l0.length : Int) != (l1.length : Int)) = false := bne_eq_false_iff_eq.mpr c3
  have c3b2 : (l0.length == l1.length) = true := by first | simpa using c3 | (simp at c3 ⊢; omega)
  clear c3
  have H' := am_ H
  clear H
  go_enter Try.func52, Try.ntmps52
  go_wp2
  repeat (go_quiet (fail); try go_wp2)
  go_loopg [5] k (fun kq v5 w' => ∃ (x5_1 : Int), v5 = .int .i64 x5_1 ∧ Aside0 (laws_eqIntS.l0 kq l0 l1 x5_1 = some r) ∧ Aside0 (kq ≤ k) ∧ Drawn0 w w')
  case atStart => exact ⟨(0), (by first | rfl | (simp; done) | (simp [*]; done)), H', ⟨Nat.le_refl _⟩, by repeat (first | exact Drawn0.refl _ | apply Drawn0.step)⟩
  case round =>
   clear H'
   try clear c1
   try clear p2
   try clear c3
   try clear c3b0
   try clear c3b1
   try clear c3b2
   obtain ⟨x5_1, rfl, HA, HK1, ⟨m1, rfl⟩⟩ := hrel
   cases gk with
   | zero => exact absurd HA.out (by simp [laws_eqIntS.l0])
   | succ k1 =>
    have H := HA.out
    clear HA
    simp only [laws_eqIntS.l0] at H
    by_cases c4 : x5_1 < (l0.length : Int)
    ·rw [if_pos c4] at H
     have c4b0 : decide (x5_1 < (l0.length : Int)) = true := decide_eq_true c4
     clear c4
     by_cases c5 : 0 ≤ x5_1
     ·rw [if_pos c5] at H
      have c5b0 : decide (0 ≤ x5_1) = true := decide_eq_true c5
      clear c5
      by_cases c6 : x5_1 < (l1.length : Int)
      ·rw [if_pos c6] at H
       have c6b0 : decide (x5_1 < (l1.length : Int)) = true := decide_eq_true c6
       clear c6
       by_cases c7 : (rd l0 x5_1) = (rd l1 x5_1)
       ·rw [if_pos c7] at H
        have c7b0 : ((rd l0 x5_1) == (rd l1 x5_1)) = true := beq_iff_eq.mpr c7
        have c7b1 : ((rd l0 x5_1) != (rd l1 x5_1)) = false := bne_eq_false_iff_eq.mpr c7
        clear c7
        have H' := am_ H
        clear H
        have p186 : 0 ≤ (x5_1 : Int) := of_decide_eq_true (by first | (with_reducible assumption) | assumption)
        have q186 : x5_1 < (l0.length : Int) := of_decide_eq_true (by first | (with_reducible assumption) | assumption)
        obtain ⟨ad186, e186, hx186_0⟩ := Kd.at_int HR0.out x5_1 p186 q186
        cases e186
        replace p186 := eq_true p186
        replace q186 := eq_true q186
        have p187 : 0 ≤ (x5_1 : Int) := of_decide_eq_true (by first | (with_reducible assumption) | assumption)
        have q187 : x5_1 < (l1.length : Int) := of_decide_eq_true (by first | (with_reducible assumption) | assumption)
        obtain ⟨ad187, e187, hx187_0⟩ := Kd.at_int HR1.out x5_1 p187 q187
        cases e187
        replace p187 := eq_true p187
        replace q187 := eq_true q187
        go_wp2
        repeat (go_quiet (fail); try go_wp2)
        go_roundg k1
        case measure => have := HK1.out; omega
        case rel => exact ⟨(wrap64 (x5_1 + 1)), (by first | rfl | (simp; done) | (simp [*]; done)), H', ⟨by have := HK1.out; omega⟩, by repeat (first | exact Drawn0.refl _ | apply Drawn0.step)⟩
       ·rw [if_neg c7] at H
        have c7b0 : ((rd l0 x5_1) == (rd l1 x5_1)) = false := beq_eq_false_iff_ne.mpr c7
        have c7b1 : ((rd l0 x5_1) != (rd l1 x5_1)) = true := bne_iff_ne.mpr c7
        obtain rfl := Option.some.inj H
        have p186 : 0 ≤ (x5_1 : Int) := of_decide_eq_true (by first | (with_reducible assumption) | assumption)
        have q186 : x5_1 < (l0.length : Int) := of_decide_eq_true (by first | (with_reducible assumption) | assumption)
        obtain ⟨ad186, e186, hx186_0⟩ := Kd.at_int HR0.out x5_1 p186 q186
        cases e186
        replace p186 := eq_true p186
        replace q186 := eq_true q186
        have p187 : 0 ≤ (x5_1 : Int) := of_decide_eq_true (by first | (with_reducible assumption) | assumption)
        have q187 : x5_1 < (l1.length : Int) := of_decide_eq_true (by first | (with_reducible assumption) | assumption)
        obtain ⟨ad187, e187, hx187_0⟩ := Kd.at_int HR1.out x5_1 p187 q187
        cases e187
        replace p187 := eq_true p187
        replace q187 := eq_true q187
        go_wp2
        repeat (go_quiet (fail); try go_wp2)
        go_ret
        exact ⟨by first | rfl | (simp; done) | (simp [*]; done), by repeat (first | exact Drawn0.refl _ | apply Drawn0.step)⟩
      ·rw [if_neg c6] at H
       exact absurd H (by simp)
     ·rw [if_neg c5] at H
      exact absurd H (by simp)
    ·rw [if_neg c4] at H
     have c4b0 : decide (x5_1 < (l0.length : Int)) = false := decide_eq_false c4
     clear c4
     obtain rfl := Option.some.inj H
     go_wp2
     repeat (go_quiet (fail); try go_wp2)
     go_ret
     exact ⟨by first | rfl | (simp; done) | (simp [*]; done), by repeat (first | exact Drawn0.refl _ | apply Drawn0.step)⟩
 ·rw [if_neg c3] at H
  have c3b0 : ((l0.length : Int) == (l1.length : Int)) = false := beq_eq_false_iff_ne.mpr c3
  have c3b1 : ((l0.length : Int) != (l1.length : Int)) = true := bne_iff_ne.mpr c3
  have c3b2 : (l0.length == l1.length) = false := by first | simpa using c3 | (simp at c3 ⊢; omega)
  obtain rfl := Option.some.inj H
  go_enter Try.func52, Try.ntmps52
  go_wp2
  repeat (go_quiet (fail); try go_wp2)
  go_ret
  exact ⟨by first | rfl | (simp; done) | (simp [*]; done), by repeat (first | exact Drawn0.refl _ | apply Drawn0.step)⟩

end Go.Proofs.Ytbgbidgnlioomaa.P
namespace Go.Proofs.Ytbgbidgnlioomaa.P
open Go.RowKit Go.Proofs.YtbgbidgnlioomaaW.PrintWords Go.Proofs.YtbgbidgnlioomaaW.PrintLast Go.Proofs.YtbgbidgnlioomaaW.PrintMore Go.Proofs.Ytbgbidgnlioomaa.Hof
attribute [local go_sem] max2_int min2_int max_two min_two max_three min_three max_four min_four   -- for this text's walks alone
set_option linter.unusedVariables false
set_option linter.unusedSimpArgs false

/-! ### laws_eqIntSS: function 84 -/
def laws_eqIntSS.l0 : Nat → List (List Int) → List (List Int) → Int → Option (Bool)
 | 0, _, _, _ => none
 | k + 1, x0, x1, x5 => if x5 < (x0.length : Int) then (if 0 ≤ x5 then (if x5 < (x1.length : Int) then ((laws_eqIntS.f k (rd_L1 x0 x5) (rd_L1 x1 x5)).bind fun t190 => (if t190 = true then (laws_eqIntSS.l0 k x0 x1 (wrap64 (x5 + 1))) else (some false))) else (none)) else (none)) else (some true)
def laws_eqIntSS.f (k : Nat) (l0 : List (List Int)) (l1 : List (List Int)) : Option (Bool) := if (l0.length : Int) = (l1.length : Int) then (laws_eqIntSS.l0 k l0 l1 0) else (some false)
theorem laws_eqIntSS.mono_l : ∀ k, (∀ y0 y1 y2, LeO (laws_eqIntSS.l0 k y0 y1 y2) (laws_eqIntSS.l0 (k + 1) y0 y1 y2))
 | 0 => fun _ _ _ r h => by simp [laws_eqIntSS.l0] at h
 | k + 1 => by
  have ih0 := laws_eqIntSS.mono_l k
  ·intro y0 y1 y2
   unfold laws_eqIntSS.l0
   repeat' first
   | (with_reducible exact ih0 _ _ _)
   | (with_reducible exact laws_eqIntS.mono _ _ _)
   | (with_reducible exact LeO.refl _)
   | (with_reducible exact LeO.none _)
   | (with_reducible refine LeO.ite ?_ ?_)
   | (with_reducible refine LeO.bind ?_ (fun _ => ?_))
   | exact ih0 _ _ _
   | exact laws_eqIntS.mono _ _ _
   | exact LeO.none _
   | refine LeO.ite ?_ ?_
   | refine LeO.bind ?_ (fun _ => ?_)
theorem laws_eqIntSS.mono : ∀ a0 a1 k, LeO (laws_eqIntSS.f k a0 a1) (laws_eqIntSS.f (k + 1) a0 a1) := by
 intro a0 a1 k
 have ih0 := laws_eqIntSS.mono_l k
 unfold laws_eqIntSS.f
 repeat' first
   | (with_reducible exact ih0 _ _ _)
   | (with_reducible exact laws_eqIntS.mono _ _ _)
   | (with_reducible exact LeO.refl _)
   | (with_reducible exact LeO.none _)
   | (with_reducible refine LeO.ite ?_ ?_)
   | (with_reducible refine LeO.bind ?_ (fun _ => ?_))
   | exact ih0 _ _ _
   | exact laws_eqIntS.mono _ _ _
   | exact LeO.none _
   | refine LeO.ite ?_ ?_
   | refine LeO.bind ?_ (fun _ => ?_)
set_option maxHeartbeats 8000000 in
set_option maxRecDepth 100000 in
theorem laws_eqIntSS.calls (k : Nat) (A0 : Option Addr) (c0 : Nat) (l0 : List (List Int)) (A1 : Option Addr) (c1 : Nat) (l1 : List (List Int)) (r : Bool) (w : World) (hr0 : Kd.C (Kd.slice 3 (Kd.int .i64)) w A0 l0.length l0) (hc0 : l0.length ≤ c0) (hr1 : Kd.C (Kd.slice 3 (Kd.int .i64)) w A1 l1.length l1) (hc1 : l1.length ≤ c1) (h : laws_eqIntSS.f k l0 l1 = some r) :
  Calls Try.prog 84 #[.slice A0 l0.length c0, .slice A1 l1.length c1] w fun e w' => e = .returned (.bool r) ∧ Drawn0 w w' := by
 have HR0 := am_ hr0
 have HC0 := am_ hc0
 clear hr0 hc0
 have HR1 := am_ hr1
 have HC1 := am_ hc1
 clear hr1 hc1
 have H : (if (l0.length : Int) = (l1.length : Int) then (laws_eqIntSS.l0 k l0 l1 0) else (some false)) = some r := h
 clear h
 by_cases c3 : (l0.length : Int) = (l1.length : Int)
 ·rw [if_pos c3] at H
  have c3b0 : ((l0.length : Int) == (l1.length : Int)) = true := beq_iff_eq.mpr c3
  have c3b1 : ((l0.length : Int) != (l1.length : Int)) = false := bne_eq_false_iff_eq.mpr c3
  have c3b2 : (l0.length == l1.length) = true := by first | simpa using c3 | (simp at c3 ⊢; omega)
  clear c3
  have H' := am_ H
  clear H
  go_enter Try.func84, Try.ntmps84
  go_wp2
  repeat (go_quiet (fail); try go_wp2)
  go_loopg [5] k (fun kq v5 w' => ∃ (x5_1 : Int), v5 = .int .i64 x5_1 ∧ Aside0 (laws_eqIntSS.l0 kq l0 l1 x5_1 = some r) ∧ Aside0 (kq ≤ k) ∧ Drawn0 w w')
  case atStart => exact ⟨(0), (by first | rfl | (simp; done) | (simp [*]; done)), H', ⟨Nat.le_refl _⟩, by repeat (first | exact Drawn0.refl _ | apply Drawn0.step)⟩
  case round =>
   clear H'
   try clear c1
   try clear p2
   try clear c3
   try clear c3b0
   try clear c3b1
   try clear c3b2
   obtain ⟨x5_1, rfl, HA, HK1, ⟨m1, rfl⟩⟩ := hrel
   cases gk with
   | zero => exact absurd HA.out (by simp [laws_eqIntSS.l0])
   | succ k1 =>
    have H := HA.out
    clear HA
    simp only [laws_eqIntSS.l0] at H
    by_cases c4 : x5_1 < (l0.length : Int)
    ·rw [if_pos c4] at H
     have c4b0 : decide (x5_1 < (l0.length : Int)) = true := decide_eq_true c4
     clear c4
     by_cases c5 : 0 ≤ x5_1
     ·rw [if_pos c5] at H
      have c5b0 : decide (0 ≤ x5_1) = true := decide_eq_true c5
      clear c5
      by_cases c6 : x5_1 < (l1.length : Int)
      ·rw [if_pos c6] at H
       have c6b0 : decide (x5_1 < (l1.length : Int)) = true := decide_eq_true c6
       clear c6
       replace H := Option.bind_eq_some_iff.mp H
       obtain ⟨t190, A70, H⟩ := H
       replace H : (if t190 = true then (laws_eqIntSS.l0 k1 l0 l1 (wrap64 (x5_1 + 1))) else (some false)) = some r := H
       have A7 := am_ A70
       clear A70
       by_cases c8 : t190 = true
       ·subst c8
        have H1 : (laws_eqIntSS.l0 k1 l0 l1 (wrap64 (x5_1 + 1))) = some r := by rw [if_pos rfl] at H; exact H
        clear H
        have H := H1
        clear H1
        have H' := am_ H
        clear H
        have p188 : 0 ≤ (x5_1 : Int) := of_decide_eq_true (by first | (with_reducible assumption) | assumption)
        have q188 : x5_1 < (l0.length : Int) := of_decide_eq_true (by first | (with_reducible assumption) | assumption)
        obtain ⟨ad188, A188_0, c188_0, e188, hx188_0, hl188_0, hi188_0⟩ := at_L1 HR0.out x5_1 p188 q188
        cases e188
        have HR188_0 := am_ hi188_0
        have HC188_0 := am_ hl188_0
        clear hi188_0 hl188_0
        replace p188 := eq_true p188
        replace q188 := eq_true q188
        have p189 : 0 ≤ (x5_1 : Int) := of_decide_eq_true (by first | (with_reducible assumption) | assumption)
        have q189 : x5_1 < (l1.length : Int) := of_decide_eq_true (by first | (with_reducible assumption) | assumption)
        obtain ⟨ad189, A189_0, c189_0, e189, hx189_0, hl189_0, hi189_0⟩ := at_L1 HR1.out x5_1 p189 q189
        cases e189
        have HR189_0 := am_ hi189_0
        have HC189_0 := am_ hl189_0
        clear hi189_0 hl189_0
        replace p189 := eq_true p189
        replace q189 := eq_true q189
        go_wp2_with (first | (go_at_call 52; (with_reducible refine (laws_eqIntS.calls k1 _ _ (rd_L1 l0 x5_1) _ _ (rd_L1 l1 x5_1) true _ ?side1 ?side2 ?side3 ?side4 A7.out).mono ?_); (case side1 => repeat (first | exact HR188_0.out | (with_reducible first | refine Kd.C_alloc ?_ _ | refine Kd.C_drewN ?_ _ | refine Kd.C_drew ?_))); (case side2 => exact HC188_0.out); (case side3 => repeat (first | exact HR189_0.out | (with_reducible first | refine Kd.C_alloc ?_ _ | refine Kd.C_drewN ?_ _ | refine Kd.C_drew ?_))); (case side4 => exact HC189_0.out); rintro e w' ⟨rfl, ⟨nd, rfl⟩⟩; (try first | exact ⟨rfl, _, World.drewN_drewN _ _ _⟩ | exact ⟨rfl, _, Eq.trans (World.drewN_drewN _ _ _) (congrArg (World.drewN _) (Nat.add_assoc _ _ _))⟩)))
        repeat (go_quiet (first | (go_at_call 52; (with_reducible refine (laws_eqIntS.calls k1 _ _ (rd_L1 l0 x5_1) _ _ (rd_L1 l1 x5_1) true _ ?side1 ?side2 ?side3 ?side4 A7.out).mono ?_); (case side1 => repeat (first | exact HR188_0.out | (with_reducible first | refine Kd.C_alloc ?_ _ | refine Kd.C_drewN ?_ _ | refine Kd.C_drew ?_))); (case side2 => exact HC188_0.out); (case side3 => repeat (first | exact HR189_0.out | (with_reducible first | refine Kd.C_alloc ?_ _ | refine Kd.C_drewN ?_ _ | refine Kd.C_drew ?_))); (case side4 => exact HC189_0.out); rintro e w' ⟨rfl, ⟨nd, rfl⟩⟩; (try first | exact ⟨rfl, _, World.drewN_drewN _ _ _⟩ | exact ⟨rfl, _, Eq.trans (World.drewN_drewN _ _ _) (congrArg (World.drewN _) (Nat.add_assoc _ _ _))⟩))); try go_wp2_with (first | (go_at_call 52; (with_reducible refine (laws_eqIntS.calls k1 _ _ (rd_L1 l0 x5_1) _ _ (rd_L1 l1 x5_1) true _ ?side1 ?side2 ?side3 ?side4 A7.out).mono ?_); (case side1 => repeat (first | exact HR188_0.out | (with_reducible first | refine Kd.C_alloc ?_ _ | refine Kd.C_drewN ?_ _ | refine Kd.C_drew ?_))); (case side2 => exact HC188_0.out); (case side3 => repeat (first | exact HR189_0.out | (with_reducible first | refine Kd.C_alloc ?_ _ | refine Kd.C_drewN ?_ _ | refine Kd.C_drew ?_))); (case side4 => exact HC189_0.out); rintro e w' ⟨rfl, ⟨nd, rfl⟩⟩; (try first | exact ⟨rfl, _, World.drewN_drewN _ _ _⟩ | exact ⟨rfl, _, Eq.trans (World.drewN_drewN _ _ _) (congrArg (World.drewN _) (Nat.add_assoc _ _ _))⟩))))
        go_roundg k1
        case measure => have := HK1.out; omega
        case rel => exact ⟨(wrap64 (x5_1 + 1)), (by first | rfl | (simp; done) | (simp [*]; done)), H', ⟨by have := HK1.out; omega⟩, by repeat (first | exact Drawn0.refl _ | apply Drawn0.step)⟩
       ·replace c8 := Bool.eq_false_iff.mpr c8
        subst c8
        have H1 : (some false) = some r := by rw [if_neg (show ¬ (false = true) by decide)] at H; exact H
        clear H
        have H := H1
        clear H1
        obtain rfl := Option.some.inj H
        have p188 : 0 ≤ (x5_1 : Int) := of_decide_eq_true (by first | (with_reducible assumption) | assumption)
        have q188 : x5_1 < (l0.length : Int) := of_decide_eq_true (by first | (with_reducible assumption) | assumption)
        obtain ⟨ad188, A188_0, c188_0, e188, hx188_0, hl188_0, hi188_0⟩ := at_L1 HR0.out x5_1 p188 q188
        cases e188
        have HR188_0 := am_ hi188_0
        have HC188_0 := am_ hl188_0
        clear hi188_0 hl188_0
        replace p188 := eq_true p188
        replace q188 := eq_true q188
        have p189 : 0 ≤ (x5_1 : Int) := of_decide_eq_true (by first | (with_reducible assumption) | assumption)
        have q189 : x5_1 < (l1.length : Int) := of_decide_eq_true (by first | (with_reducible assumption) | assumption)
        obtain ⟨ad189, A189_0, c189_0, e189, hx189_0, hl189_0, hi189_0⟩ := at_L1 HR1.out x5_1 p189 q189
        cases e189
        have HR189_0 := am_ hi189_0
        have HC189_0 := am_ hl189_0
        clear hi189_0 hl189_0
        replace p189 := eq_true p189
        replace q189 := eq_true q189
        go_wp2_with (first | (go_at_call 52; (with_reducible refine (laws_eqIntS.calls k1 _ _ (rd_L1 l0 x5_1) _ _ (rd_L1 l1 x5_1) false _ ?side1 ?side2 ?side3 ?side4 A7.out).mono ?_); (case side1 => repeat (first | exact HR188_0.out | (with_reducible first | refine Kd.C_alloc ?_ _ | refine Kd.C_drewN ?_ _ | refine Kd.C_drew ?_))); (case side2 => exact HC188_0.out); (case side3 => repeat (first | exact HR189_0.out | (with_reducible first | refine Kd.C_alloc ?_ _ | refine Kd.C_drewN ?_ _ | refine Kd.C_drew ?_))); (case side4 => exact HC189_0.out); rintro e w' ⟨rfl, ⟨nd, rfl⟩⟩; (try first | exact ⟨rfl, _, World.drewN_drewN _ _ _⟩ | exact ⟨rfl, _, Eq.trans (World.drewN_drewN _ _ _) (congrArg (World.drewN _) (Nat.add_assoc _ _ _))⟩)))
        repeat (go_quiet (first | (go_at_call 52; (with_reducible refine (laws_eqIntS.calls k1 _ _ (rd_L1 l0 x5_1) _ _ (rd_L1 l1 x5_1) false _ ?side1 ?side2 ?side3 ?side4 A7.out).mono ?_); (case side1 => repeat (first | exact HR188_0.out | (with_reducible first | refine Kd.C_alloc ?_ _ | refine Kd.C_drewN ?_ _ | refine Kd.C_drew ?_))); (case side2 => exact HC188_0.out); (case side3 => repeat (first | exact HR189_0.out | (with_reducible first | refine Kd.C_alloc ?_ _ | refine Kd.C_drewN ?_ _ | refine Kd.C_drew ?_))); (case side4 => exact HC189_0.out); rintro e w' ⟨rfl, ⟨nd, rfl⟩⟩; (try first | exact ⟨rfl, _, World.drewN_drewN _ _ _⟩ | exact ⟨rfl, _, Eq.trans (World.drewN_drewN _ _ _) (congrArg (World.drewN _) (Nat.add_assoc _ _ _))⟩))); try go_wp2_with (first | (go_at_call 52; (with_reducible refine (laws_eqIntS.calls k1 _ _ (rd_L1 l0 x5_1) _ _ (rd_L1 l1 x5_1) false _ ?side1 ?side2 ?side3 ?side4 A7.out).mono ?_); (case side1 => repeat (first | exact HR188_0.out | (with_reducible first | refine Kd.C_alloc ?_ _ | refine Kd.C_drewN ?_ _ | refine Kd.C_drew ?_))); (case side2 => exact HC188_0.out); (case side3 => repeat (first | exact HR189_0.out | (with_reducible first | refine Kd.C_alloc ?_ _ | refine Kd.C_drewN ?_ _ | refine Kd.C_drew ?_))); (case side4 => exact HC189_0.out); rintro e w' ⟨rfl, ⟨nd, rfl⟩⟩; (try first | exact ⟨rfl, _, World.drewN_drewN _ _ _⟩ | exact ⟨rfl, _, Eq.trans (World.drewN_drewN _ _ _) (congrArg (World.drewN _) (Nat.add_assoc _ _ _))⟩))))
        go_ret
        exact ⟨by first | rfl | (simp; done) | (simp [*]; done), by repeat (first | exact Drawn0.refl _ | apply Drawn0.step)⟩
      ·rw [if_neg c6] at H
       exact absurd H (by simp)
     ·rw [if_neg c5] at H
      exact absurd H (by simp)
    ·rw [if_neg c4] at H
     have c4b0 : decide (x5_1 < (l0.length : Int)) = false := decide_eq_false c4
     clear c4
     obtain rfl := Option.some.inj H
     go_wp2
     repeat (go_quiet (fail); try go_wp2)
     go_ret
     exact ⟨by first | rfl | (simp; done) | (simp [*]; done), by repeat (first | exact Drawn0.refl _ | apply Drawn0.step)⟩
 ·rw [if_neg c3] at H
  have c3b0 : ((l0.length : Int) == (l1.length : Int)) = false := beq_eq_false_iff_ne.mpr c3
  have c3b1 : ((l0.length : Int) != (l1.length : Int)) = true := bne_iff_ne.mpr c3
  have c3b2 : (l0.length == l1.length) = false := by first | simpa using c3 | (simp at c3 ⊢; omega)
  obtain rfl := Option.some.inj H
  go_enter Try.func84, Try.ntmps84
  go_wp2
  repeat (go_quiet (fail); try go_wp2)
  go_ret
  exact ⟨by first | rfl | (simp; done) | (simp [*]; done), by repeat (first | exact Drawn0.refl _ | apply Drawn0.step)⟩

end Go.Proofs.Ytbgbidgnlioomaa.P
namespace Go.Proofs.Ytbgbidgnlioomaa.P
open Go.RowKit Go.Proofs.YtbgbidgnlioomaaW.PrintWords Go.Proofs.YtbgbidgnlioomaaW.PrintLast Go.Proofs.YtbgbidgnlioomaaW.PrintMore Go.Proofs.Ytbgbidgnlioomaa.Hof
attribute [local go_sem] max2_int min2_int max_two min_two max_three min_three max_four min_four   -- for this text's walks alone
set_option linter.unusedVariables false
set_option linter.unusedSimpArgs false

/-! ### laws_eqEdge: function 136 -/
def laws_eqEdge.f (a0_0 : Int) (a0_1 : Int) (a0_2 : Int) (a1_0 : Int) (a1_1 : Int) (a1_2 : Int) : Option (Bool) := if a0_0 = a1_0 then (if a0_1 = a1_1 then (if a0_2 = a1_2 then (some true) else (some false)) else (some false)) else (some false)
set_option maxHeartbeats 8000000 in
set_option maxRecDepth 100000 in
theorem laws_eqEdge.calls (a0_0 : Int) (a0_1 : Int) (a0_2 : Int) (a1_0 : Int) (a1_1 : Int) (a1_2 : Int) (r : Bool) (w : World) (h : laws_eqEdge.f a0_0 a0_1 a0_2 a1_0 a1_1 a1_2 = some r) :
  Calls Try.prog 136 #[.agg #[.int .i64 a0_0, .int .i64 a0_1, .int .i64 a0_2], .agg #[.int .i64 a1_0, .int .i64 a1_1, .int .i64 a1_2]] w fun e w' => e = .returned (.bool r) ∧ Below w.heap.size w w' := by
 have hu113 := Try.underlying113
 have HB := am_ (Below.refl w.heap.size w)
 have H : (if a0_0 = a1_0 then (if a0_1 = a1_1 then (if a0_2 = a1_2 then (some true) else (some false)) else (some false)) else (some false)) = some r := h
 clear h
 by_cases c3 : a0_0 = a1_0
 ·rw [if_pos c3] at H
  have c3b0 : (a0_0 == a1_0) = true := beq_iff_eq.mpr c3
  have c3b1 : (a0_0 != a1_0) = false := bne_eq_false_iff_eq.mpr c3
  clear c3
  by_cases c4 : a0_1 = a1_1
  ·rw [if_pos c4] at H
   have c4b0 : (a0_1 == a1_1) = true := beq_iff_eq.mpr c4
   have c4b1 : (a0_1 != a1_1) = false := bne_eq_false_iff_eq.mpr c4
   clear c4
   by_cases c5 : a0_2 = a1_2
   ·rw [if_pos c5] at H
    have c5b0 : (a0_2 == a1_2) = true := beq_iff_eq.mpr c5
    have c5b1 : (a0_2 != a1_2) = false := bne_eq_false_iff_eq.mpr c5
    clear c5
    obtain rfl := Option.some.inj H
    go_enter Try.func136, Try.ntmps136
    go_wp2_with (first | ((with_reducible refine gate_dst (N := 2) rfl ?_); refine box_event ?hg (N := 2) ?hd (cs := #[.int .i64 a0_0, .int .i64 a0_1, .int .i64 a0_2]) (t := 113) ?hr ?_; (case hd => rfl); (case hg => rfl); (case hr => first | (go_simp; done) | (go_simp; rfl)); intro gb191 hg w6 hbox hb; have n0_ := am_ (below_step (by repeat (first | (with_reducible first | exact HB.out | apply below_alloc | apply pw_below_drewN | apply below_drew1) | exact HB.out)) hb); have n1_ := am_ (hbox); have n2_ := am_ ((by rw [hg]; exact (below_size (by repeat (first | (with_reducible first | exact HB.out | apply below_alloc | apply pw_below_drewN | apply below_drew1) | exact HB.out))) : w.heap.size ≤ gb191)); have n3_ := am_ ((by rw [hg]; exact (below_size (by repeat (first | (with_reducible first | exact HB.out | apply below_alloc | apply pw_below_drewN | apply below_drew1) | exact HB.out))) : w.heap.size ≤ gb191)); clear HB; have HB := n0_; have BK191 := n1_; have GW191 := n2_; have GE191 := n3_; clear n0_ n1_ n2_ n3_; clear hb hbox hg) | ((with_reducible refine gate_dst (N := 3) rfl ?_); refine box_event ?hg (N := 3) ?hd (cs := #[.int .i64 a1_0, .int .i64 a1_1, .int .i64 a1_2]) (t := 113) ?hr ?_; (case hd => rfl); (case hg => rfl); (case hr => first | (go_simp; done) | (go_simp; rfl)); intro gb192 hg w7 hbox hb; have n0_ := am_ (blk_below (g := gb191) (o := .cells #[.int .i64 a0_0, .int .i64 a0_1, .int .i64 a0_2] 113 (0, 0)) (by (with_reducible repeat (first | refine blk_drewN ?_ _ | refine blk_drew ?_ | refine blk_alloc ?_ _)); exact BK191.out) hb); have n1_ := am_ (below_step (by repeat (first | (with_reducible first | exact HB.out | apply below_alloc | apply pw_below_drewN | apply below_drew1 | refine below_set ?_ GE191.out) | exact HB.out)) hb); have n2_ := am_ (hbox); have n3_ := am_ ((by rw [hg]; exact (below_size (by repeat (first | (with_reducible first | exact HB.out | apply below_alloc | apply pw_below_drewN | apply below_drew1 | refine below_set ?_ GE191.out) | exact HB.out))) : w.heap.size ≤ gb192)); have n4_ := am_ ((by rw [hg]; exact (below_size (by repeat (first | (with_reducible first | exact HB.out | apply below_alloc | apply pw_below_drewN | apply below_drew1 | refine below_set ?_ GE191.out) | exact HB.out))) : w.heap.size ≤ gb192)); have n5_ := am_ ((by rw [hg]; exact Nat.ne_of_lt (blk_lt (g := gb191) (o := .cells #[.int .i64 a0_0, .int .i64 a0_1, .int .i64 a0_2] 113 (0, 0)) (by (with_reducible repeat (first | refine blk_drewN ?_ _ | refine blk_drew ?_ | refine blk_alloc ?_ _)); exact BK191.out)) : gb191 ≠ gb192)); have n6_ := am_ ((by rw [hg]; exact Nat.ne_of_gt (blk_lt (g := gb191) (o := .cells #[.int .i64 a0_0, .int .i64 a0_1, .int .i64 a0_2] 113 (0, 0)) (by (with_reducible repeat (first | refine blk_drewN ?_ _ | refine blk_drew ?_ | refine blk_alloc ?_ _)); exact BK191.out)) : gb192 ≠ gb191)); clear BK191; clear HB; have BK191 := n0_; have HB := n1_; have BK192 := n2_; have GW192 := n3_; have GE192 := n4_; have NB191_192 := n5_; have NB192_191 := n6_; clear n0_ n1_ n2_ n3_ n4_ n5_ n6_; clear hb hbox hg; have hnb8 := NB191_192.out; have hnc8 := NB192_191.out; have hcz9_0 : w7.cell? ⟨gb191, 0, none⟩ = some (.int .i64 a0_0) := (blk_cell BK191.out 0).trans rfl; have hcz9_1 : w7.cell? ⟨gb191, 1, none⟩ = some (.int .i64 a0_1) := (blk_cell BK191.out 1).trans rfl; have hcz9_2 : w7.cell? ⟨gb191, 2, none⟩ = some (.int .i64 a0_2) := (blk_cell BK191.out 2).trans rfl; have hfz9_0 := blk_frozen BK191.out 0; have hfz9_1 := blk_frozen BK191.out 1; have hfz9_2 := blk_frozen BK191.out 2; have hcz10_0 : w7.cell? ⟨gb192, 0, none⟩ = some (.int .i64 a1_0) := (blk_cell BK192.out 0).trans rfl; have hcz10_1 : w7.cell? ⟨gb192, 1, none⟩ = some (.int .i64 a1_1) := (blk_cell BK192.out 1).trans rfl; have hcz10_2 : w7.cell? ⟨gb192, 2, none⟩ = some (.int .i64 a1_2) := (blk_cell BK192.out 2).trans rfl; have hfz10_0 := blk_frozen BK192.out 0; have hfz10_1 := blk_frozen BK192.out 1; have hfz10_2 := blk_frozen BK192.out 2))
    go_ret
    exact ⟨by first | rfl | (simp [errW_none, errW_some] <;> rfl) | (simp [*, errW_none, errW_some] <;> rfl), by repeat (first | (with_reducible first | exact HB.out | apply below_alloc | apply pw_below_drewN | apply below_drew1 | refine below_set ?_ GE191.out | refine below_set ?_ GE192.out) | exact HB.out)⟩
   ·rw [if_neg c5] at H
    have c5b0 : (a0_2 == a1_2) = false := beq_eq_false_iff_ne.mpr c5
    have c5b1 : (a0_2 != a1_2) = true := bne_iff_ne.mpr c5
    obtain rfl := Option.some.inj H
    go_enter Try.func136, Try.ntmps136
    go_wp2_with (first | ((with_reducible refine gate_dst (N := 2) rfl ?_); refine box_event ?hg (N := 2) ?hd (cs := #[.int .i64 a0_0, .int .i64 a0_1, .int .i64 a0_2]) (t := 113) ?hr ?_; (case hd => rfl); (case hg => rfl); (case hr => first | (go_simp; done) | (go_simp; rfl)); intro gb191 hg w11 hbox hb; have n0_ := am_ (below_step (by repeat (first | (with_reducible first | exact HB.out | apply below_alloc | apply pw_below_drewN | apply below_drew1) | exact HB.out)) hb); have n1_ := am_ (hbox); have n2_ := am_ ((by rw [hg]; exact (below_size (by repeat (first | (with_reducible first | exact HB.out | apply below_alloc | apply pw_below_drewN | apply below_drew1) | exact HB.out))) : w.heap.size ≤ gb191)); have n3_ := am_ ((by rw [hg]; exact (below_size (by repeat (first | (with_reducible first | exact HB.out | apply below_alloc | apply pw_below_drewN | apply below_drew1) | exact HB.out))) : w.heap.size ≤ gb191)); clear HB; have HB := n0_; have BK191 := n1_; have GW191 := n2_; have GE191 := n3_; clear n0_ n1_ n2_ n3_; clear hb hbox hg) | ((with_reducible refine gate_dst (N := 3) rfl ?_); refine box_event ?hg (N := 3) ?hd (cs := #[.int .i64 a1_0, .int .i64 a1_1, .int .i64 a1_2]) (t := 113) ?hr ?_; (case hd => rfl); (case hg => rfl); (case hr => first | (go_simp; done) | (go_simp; rfl)); intro gb192 hg w12 hbox hb; have n0_ := am_ (blk_below (g := gb191) (o := .cells #[.int .i64 a0_0, .int .i64 a0_1, .int .i64 a0_2] 113 (0, 0)) (by (with_reducible repeat (first | refine blk_drewN ?_ _ | refine blk_drew ?_ | refine blk_alloc ?_ _)); exact BK191.out) hb); have n1_ := am_ (below_step (by repeat (first | (with_reducible first | exact HB.out | apply below_alloc | apply pw_below_drewN | apply below_drew1 | refine below_set ?_ GE191.out) | exact HB.out)) hb); have n2_ := am_ (hbox); have n3_ := am_ ((by rw [hg]; exact (below_size (by repeat (first | (with_reducible first | exact HB.out | apply below_alloc | apply pw_below_drewN | apply below_drew1 | refine below_set ?_ GE191.out) | exact HB.out))) : w.heap.size ≤ gb192)); have n4_ := am_ ((by rw [hg]; exact (below_size (by repeat (first | (with_reducible first | exact HB.out | apply below_alloc | apply pw_below_drewN | apply below_drew1 | refine below_set ?_ GE191.out) | exact HB.out))) : w.heap.size ≤ gb192)); have n5_ := am_ ((by rw [hg]; exact Nat.ne_of_lt (blk_lt (g := gb191) (o := .cells #[.int .i64 a0_0, .int .i64 a0_1, .int .i64 a0_2] 113 (0, 0)) (by (with_reducible repeat (first | refine blk_drewN ?_ _ | refine blk_drew ?_ | refine blk_alloc ?_ _)); exact BK191.out)) : gb191 ≠ gb192)); have n6_ := am_ ((by rw [hg]; exact Nat.ne_of_gt (blk_lt (g := gb191) (o := .cells #[.int .i64 a0_0, .int .i64 a0_1, .int .i64 a0_2] 113 (0, 0)) (by (with_reducible repeat (first | refine blk_drewN ?_ _ | refine blk_drew ?_ | refine blk_alloc ?_ _)); exact BK191.out)) : gb192 ≠ gb191)); clear BK191; clear HB; have BK191 := n0_; have HB := n1_; have BK192 := n2_; have GW192 := n3_; have GE192 := n4_; have NB191_192 := n5_; have NB192_191 := n6_; clear n0_ n1_ n2_ n3_ n4_ n5_ n6_; clear hb hbox hg; have hnb13 := NB191_192.out; have hnc13 := NB192_191.out; have hcz14_0 : w12.cell? ⟨gb191, 0, none⟩ = some (.int .i64 a0_0) := (blk_cell BK191.out 0).trans rfl; have hcz14_1 : w12.cell? ⟨gb191, 1, none⟩ = some (.int .i64 a0_1) := (blk_cell BK191.out 1).trans rfl; have hcz14_2 : w12.cell? ⟨gb191, 2, none⟩ = some (.int .i64 a0_2) := (blk_cell BK191.out 2).trans rfl; have hfz14_0 := blk_frozen BK191.out 0; have hfz14_1 := blk_frozen BK191.out 1; have hfz14_2 := blk_frozen BK191.out 2; have hcz15_0 : w12.cell? ⟨gb192, 0, none⟩ = some (.int .i64 a1_0) := (blk_cell BK192.out 0).trans rfl; have hcz15_1 : w12.cell? ⟨gb192, 1, none⟩ = some (.int .i64 a1_1) := (blk_cell BK192.out 1).trans rfl; have hcz15_2 : w12.cell? ⟨gb192, 2, none⟩ = some (.int .i64 a1_2) := (blk_cell BK192.out 2).trans rfl; have hfz15_0 := blk_frozen BK192.out 0; have hfz15_1 := blk_frozen BK192.out 1; have hfz15_2 := blk_frozen BK192.out 2))
    go_ret
    exact ⟨by first | rfl | (simp [errW_none, errW_some] <;> rfl) | (simp [*, errW_none, errW_some] <;> rfl), by repeat (first | (with_reducible first | exact HB.out | apply below_alloc | apply pw_below_drewN | apply below_drew1 | refine below_set ?_ GE191.out | refine below_set ?_ GE192.out) | exact HB.out)⟩
  ·rw [if_neg c4] at H
   have c4b0 : (a0_1 == a1_1) = false := beq_eq_false_iff_ne.mpr c4
   have c4b1 : (a0_1 != a1_1) = true := bne_iff_ne.mpr c4
   obtain rfl := Option.some.inj H
   go_enter Try.func136, Try.ntmps136
   go_wp2_with (first | ((with_reducible refine gate_dst (N := 2) rfl ?_); refine box_event ?hg (N := 2) ?hd (cs := #[.int .i64 a0_0, .int .i64 a0_1, .int .i64 a0_2]) (t := 113) ?hr ?_; (case hd => rfl); (case hg => rfl); (case hr => first | (go_simp; done) | (go_simp; rfl)); intro gb191 hg w16 hbox hb; have n0_ := am_ (below_step (by repeat (first | (with_reducible first | exact HB.out | apply below_alloc | apply pw_below_drewN | apply below_drew1) | exact HB.out)) hb); have n1_ := am_ (hbox); have n2_ := am_ ((by rw [hg]; exact (below_size (by repeat (first | (with_reducible first | exact HB.out | apply below_alloc | apply pw_below_drewN | apply below_drew1) | exact HB.out))) : w.heap.size ≤ gb191)); have n3_ := am_ ((by rw [hg]; exact (below_size (by repeat (first | (with_reducible first | exact HB.out | apply below_alloc | apply pw_below_drewN | apply below_drew1) | exact HB.out))) : w.heap.size ≤ gb191)); clear HB; have HB := n0_; have BK191 := n1_; have GW191 := n2_; have GE191 := n3_; clear n0_ n1_ n2_ n3_; clear hb hbox hg) | ((with_reducible refine gate_dst (N := 3) rfl ?_); refine box_event ?hg (N := 3) ?hd (cs := #[.int .i64 a1_0, .int .i64 a1_1, .int .i64 a1_2]) (t := 113) ?hr ?_; (case hd => rfl); (case hg => rfl); (case hr => first | (go_simp; done) | (go_simp; rfl)); intro gb192 hg w17 hbox hb; have n0_ := am_ (blk_below (g := gb191) (o := .cells #[.int .i64 a0_0, .int .i64 a0_1, .int .i64 a0_2] 113 (0, 0)) (by (with_reducible repeat (first | refine blk_drewN ?_ _ | refine blk_drew ?_ | refine blk_alloc ?_ _)); exact BK191.out) hb); have n1_ := am_ (below_step (by repeat (first | (with_reducible first | exact HB.out | apply below_alloc | apply pw_below_drewN | apply below_drew1 | refine below_set ?_ GE191.out) | exact HB.out)) hb); have n2_ := am_ (hbox); have n3_ := am_ ((by rw [hg]; exact (below_size (by repeat (first | (with_reducible first | exact HB.out | apply below_alloc | apply pw_below_drewN | apply below_drew1 | refine below_set ?_ GE191.out) | exact HB.out))) : w.heap.size ≤ gb192)); have n4_ := am_ ((by rw [hg]; exact (below_size (by repeat (first | (with_reducible first | exact HB.out | apply below_alloc | apply pw_below_drewN | apply below_drew1 | refine below_set ?_ GE191.out) | exact HB.out))) : w.heap.size ≤ gb192)); have n5_ := am_ ((by rw [hg]; exact Nat.ne_of_lt (blk_lt (g := gb191) (o := .cells #[.int .i64 a0_0, .int .i64 a0_1, .int .i64 a0_2] 113 (0, 0)) (by (with_reducible repeat (first | refine blk_drewN ?_ _ | refine blk_drew ?_ | refine blk_alloc ?_ _)); exact BK191.out)) : gb191 ≠ gb192)); have n6_ := am_ ((by rw [hg]; exact Nat.ne_of_gt (blk_lt (g := gb191) (o := .cells #[.int .i64 a0_0, .int .i64 a0_1, .int .i64 a0_2] 113 (0, 0)) (by (with_reducible repeat (first | refine blk_drewN ?_ _ | refine blk_drew ?_ | refine blk_alloc ?_ _)); exact BK191.out)) : gb192 ≠ gb191)); clear BK191; clear HB; have BK191 := n0_; have HB := n1_; have BK192 := n2_; have GW192 := n3_; have GE192 := n4_; have NB191_192 := n5_; have NB192_191 := n6_; clear n0_ n1_ n2_ n3_ n4_ n5_ n6_; clear hb hbox hg; have hnb18 := NB191_192.out; have hnc18 := NB192_191.out; have hcz19_0 : w17.cell? ⟨gb191, 0, none⟩ = some (.int .i64 a0_0) := (blk_cell BK191.out 0).trans rfl; have hcz19_1 : w17.cell? ⟨gb191, 1, none⟩ = some (.int .i64 a0_1) := (blk_cell BK191.out 1).trans rfl; have hcz19_2 : w17.cell? ⟨gb191, 2, none⟩ = some (.int .i64 a0_2) := (blk_cell BK191.out 2).trans rfl; have hfz19_0 := blk_frozen BK191.out 0; have hfz19_1 := blk_frozen BK191.out 1; have hfz19_2 := blk_frozen BK191.out 2; have hcz20_0 : w17.cell? ⟨gb192, 0, none⟩ = some (.int .i64 a1_0) := (blk_cell BK192.out 0).trans rfl; have hcz20_1 : w17.cell? ⟨gb192, 1, none⟩ = some (.int .i64 a1_1) := (blk_cell BK192.out 1).trans rfl; have hcz20_2 : w17.cell? ⟨gb192, 2, none⟩ = some (.int .i64 a1_2) := (blk_cell BK192.out 2).trans rfl; have hfz20_0 := blk_frozen BK192.out 0; have hfz20_1 := blk_frozen BK192.out 1; have hfz20_2 := blk_frozen BK192.out 2))
   go_ret
   exact ⟨by first | rfl | (simp [errW_none, errW_some] <;> rfl) | (simp [*, errW_none, errW_some] <;> rfl), by repeat (first | (with_reducible first | exact HB.out | apply below_alloc | apply pw_below_drewN | apply below_drew1 | refine below_set ?_ GE191.out | refine below_set ?_ GE192.out) | exact HB.out)⟩
 ·rw [if_neg c3] at H
  have c3b0 : (a0_0 == a1_0) = false := beq_eq_false_iff_ne.mpr c3
  have c3b1 : (a0_0 != a1_0) = true := bne_iff_ne.mpr c3
  obtain rfl := Option.some.inj H
  go_enter Try.func136, Try.ntmps136
  go_wp2_with (first | ((with_reducible refine gate_dst (N := 2) rfl ?_); refine box_event ?hg (N := 2) ?hd (cs := #[.int .i64 a0_0, .int .i64 a0_1, .int .i64 a0_2]) (t := 113) ?hr ?_; (case hd => rfl); (case hg => rfl); (case hr => first | (go_simp; done) | (go_simp; rfl)); intro gb191 hg w21 hbox hb; have n0_ := am_ (below_step (by repeat (first | (with_reducible first | exact HB.out | apply below_alloc | apply pw_below_drewN | apply below_drew1) | exact HB.out)) hb); have n1_ := am_ (hbox); have n2_ := am_ ((by rw [hg]; exact (below_size (by repeat (first | (with_reducible first | exact HB.out | apply below_alloc | apply pw_below_drewN | apply below_drew1) | exact HB.out))) : w.heap.size ≤ gb191)); have n3_ := am_ ((by rw [hg]; exact (below_size (by repeat (first | (with_reducible first | exact HB.out | apply below_alloc | apply pw_below_drewN | apply below_drew1) | exact HB.out))) : w.heap.size ≤ gb191)); clear HB; have HB := n0_; have BK191 := n1_; have GW191 := n2_; have GE191 := n3_; clear n0_ n1_ n2_ n3_; clear hb hbox hg) | ((with_reducible refine gate_dst (N := 3) rfl ?_); refine box_event ?hg (N := 3) ?hd (cs := #[.int .i64 a1_0, .int .i64 a1_1, .int .i64 a1_2]) (t := 113) ?hr ?_; (case hd => rfl); (case hg => rfl); (case hr => first | (go_simp; done) | (go_simp; rfl)); intro gb192 hg w22 hbox hb; have n0_ := am_ (blk_below (g := gb191) (o := .cells #[.int .i64 a0_0, .int .i64 a0_1, .int .i64 a0_2] 113 (0, 0)) (by (with_reducible repeat (first | refine blk_drewN ?_ _ | refine blk_drew ?_ | refine blk_alloc ?_ _)); exact BK191.out) hb); have n1_ := am_ (below_step (by repeat (first | (with_reducible first | exact HB.out | apply below_alloc | apply pw_below_drewN | apply below_drew1 | refine below_set ?_ GE191.out) | exact HB.out)) hb); have n2_ := am_ (hbox); have n3_ := am_ ((by rw [hg]; exact (below_size (by repeat (first | (with_reducible first | exact HB.out | apply below_alloc | apply pw_below_drewN | apply below_drew1 | refine below_set ?_ GE191.out) | exact HB.out))) : w.heap.size ≤ gb192)); have n4_ := am_ ((by rw [hg]; exact (below_size (by repeat (first | (with_reducible first | exact HB.out | apply below_alloc | apply pw_below_drewN | apply below_drew1 | refine below_set ?_ GE191.out) | exact HB.out))) : w.heap.size ≤ gb192)); have n5_ := am_ ((by rw [hg]; exact Nat.ne_of_lt (blk_lt (g := gb191) (o := .cells #[.int .i64 a0_0, .int .i64 a0_1, .int .i64 a0_2] 113 (0, 0)) (by (with_reducible repeat (first | refine blk_drewN ?_ _ | refine blk_drew ?_ | refine blk_alloc ?_ _)); exact BK191.out)) : gb191 ≠ gb192)); have n6_ := am_ ((by rw [hg]; exact Nat.ne_of_gt (blk_lt (g := gb191) (o := .cells #[.int .i64 a0_0, .int .i64 a0_1, .int .i64 a0_2] 113 (0, 0)) (by (with_reducible repeat (first | refine blk_drewN ?_ _ | refine blk_drew ?_ | refine blk_alloc ?_ _)); exact BK191.out)) : gb192 ≠ gb191)); clear BK191; clear HB; have BK191 := n0_; have HB := n1_; have BK192 := n2_; have GW192 := n3_; have GE192 := n4_; have NB191_192 := n5_; have NB192_191 := n6_; clear n0_ n1_ n2_ n3_ n4_ n5_ n6_; clear hb hbox hg; have hnb23 := NB191_192.out; have hnc23 := NB192_191.out; have hcz24_0 : w22.cell? ⟨gb191, 0, none⟩ = some (.int .i64 a0_0) := (blk_cell BK191.out 0).trans rfl; have hcz24_1 : w22.cell? ⟨gb191, 1, none⟩ = some (.int .i64 a0_1) := (blk_cell BK191.out 1).trans rfl; have hcz24_2 : w22.cell? ⟨gb191, 2, none⟩ = some (.int .i64 a0_2) := (blk_cell BK191.out 2).trans rfl; have hfz24_0 := blk_frozen BK191.out 0; have hfz24_1 := blk_frozen BK191.out 1; have hfz24_2 := blk_frozen BK191.out 2; have hcz25_0 : w22.cell? ⟨gb192, 0, none⟩ = some (.int .i64 a1_0) := (blk_cell BK192.out 0).trans rfl; have hcz25_1 : w22.cell? ⟨gb192, 1, none⟩ = some (.int .i64 a1_1) := (blk_cell BK192.out 1).trans rfl; have hcz25_2 : w22.cell? ⟨gb192, 2, none⟩ = some (.int .i64 a1_2) := (blk_cell BK192.out 2).trans rfl; have hfz25_0 := blk_frozen BK192.out 0; have hfz25_1 := blk_frozen BK192.out 1; have hfz25_2 := blk_frozen BK192.out 2))
  go_ret
  exact ⟨by first | rfl | (simp [errW_none, errW_some] <;> rfl) | (simp [*, errW_none, errW_some] <;> rfl), by repeat (first | (with_reducible first | exact HB.out | apply below_alloc | apply pw_below_drewN | apply below_drew1 | refine below_set ?_ GE191.out | refine below_set ?_ GE192.out) | exact HB.out)⟩

end Go.Proofs.Ytbgbidgnlioomaa.P
namespace Go.Proofs.Ytbgbidgnlioomaa.P
open Go.RowKit Go.Proofs.YtbgbidgnlioomaaW.PrintWords Go.Proofs.YtbgbidgnlioomaaW.PrintLast Go.Proofs.YtbgbidgnlioomaaW.PrintMore Go.Proofs.Ytbgbidgnlioomaa.Hof
attribute [local go_sem] max2_int min2_int max_two min_two max_three min_three max_four min_four   -- for this text's walks alone
set_option linter.unusedVariables false
set_option linter.unusedSimpArgs false

/-! ### laws_eqEdgeS: function 103 -/
def laws_eqEdgeS.l0 : Nat → List (S113) → List (S113) → Int → Option (Bool)
 | 0, _, _, _ => none
 | k + 1, x0, x1, x5 => if x5 < (x0.length : Int) then (if 0 ≤ x5 then (if x5 < (x1.length : Int) then ((laws_eqEdge.f ((rd_T113 x0 x5).f0) ((rd_T113 x0 x5).f1) ((rd_T113 x0 x5).f2) ((rd_T113 x1 x5).f0) ((rd_T113 x1 x5).f1) ((rd_T113 x1 x5).f2)).bind fun t195 => (if t195 = true then (laws_eqEdgeS.l0 k x0 x1 (wrap64 (x5 + 1))) else (some false))) else (none)) else (none)) else (some true)
def laws_eqEdgeS.f (k : Nat) (l0 : List (S113)) (l1 : List (S113)) : Option (Bool) := if (l0.length : Int) = (l1.length : Int) then (laws_eqEdgeS.l0 k l0 l1 0) else (some false)
theorem laws_eqEdgeS.mono_l : ∀ k, (∀ y0 y1 y2, LeO (laws_eqEdgeS.l0 k y0 y1 y2) (laws_eqEdgeS.l0 (k + 1) y0 y1 y2))
 | 0 => fun _ _ _ r h => by simp [laws_eqEdgeS.l0] at h
 | k + 1 => by
  have ih0 := laws_eqEdgeS.mono_l k
  ·intro y0 y1 y2
   unfold laws_eqEdgeS.l0
   repeat' first
   | (with_reducible exact ih0 _ _ _)
   | (with_reducible exact LeO.refl _)
   | (with_reducible exact LeO.none _)
   | (with_reducible refine LeO.ite ?_ ?_)
   | (with_reducible refine LeO.bind ?_ (fun _ => ?_))
   | exact ih0 _ _ _
   | exact LeO.none _
   | refine LeO.ite ?_ ?_
   | refine LeO.bind ?_ (fun _ => ?_)
theorem laws_eqEdgeS.mono : ∀ a0 a1 k, LeO (laws_eqEdgeS.f k a0 a1) (laws_eqEdgeS.f (k + 1) a0 a1) := by
 intro a0 a1 k
 have ih0 := laws_eqEdgeS.mono_l k
 unfold laws_eqEdgeS.f
 repeat' first
   | (with_reducible exact ih0 _ _ _)
   | (with_reducible exact LeO.refl _)
   | (with_reducible exact LeO.none _)
   | (with_reducible refine LeO.ite ?_ ?_)
   | (with_reducible refine LeO.bind ?_ (fun _ => ?_))
   | exact ih0 _ _ _
   | exact LeO.none _
   | refine LeO.ite ?_ ?_
   | refine LeO.bind ?_ (fun _ => ?_)
def laws_eqEdgeS.T6 : Bool × List (List Nat × List Nat) := (true, [([], []), ([], []), ([0, 1], [0, 1]), ([2], [2]), ([], []), ([], []), ([4, 5], [4, 5]), ([6], [6]), ([3, 7], [3, 7]), ([8], [8])])
def laws_eqEdgeS.B6 : List Nat := [0, 0, 3, 7, 0, 0, 48, 112, 255, 511]
theorem laws_eqEdgeS.tab6 : rtab .any (opsOf Try.f103 6) = laws_eqEdgeS.T6 := by kernel_rfl
theorem laws_eqEdgeS.bits6 : waitsOk laws_eqEdgeS.T6.2 laws_eqEdgeS.B6 = true := by kernel_rfl
set_option maxHeartbeats 8000000 in
set_option maxRecDepth 100000 in
theorem laws_eqEdgeS.calls (k : Nat) (A0 : Option Addr) (c0 : Nat) (l0 : List (S113)) (A1 : Option Addr) (c1 : Nat) (l1 : List (S113)) (r : Bool) (w : World) (hr0 : Kd.C k113 w A0 l0.length l0) (hc0 : l0.length ≤ c0) (hr1 : Kd.C k113 w A1 l1.length l1) (hc1 : l1.length ≤ c1) (h : laws_eqEdgeS.f k l0 l1 = some r) :
  Calls Try.prog 103 #[.slice A0 l0.length c0, .slice A1 l1.length c1] w fun e w' => e = .returned (.bool r) ∧ Below w.heap.size w w' := by
 have hu113 := Try.underlying113
 have HR0 := am_ hr0
 have HC0 := am_ hc0
 clear hr0 hc0
 have HR1 := am_ hr1
 have HC1 := am_ hc1
 clear hr1 hc1
 have HB := am_ (Below.refl w.heap.size w)
 have H : (if (l0.length : Int) = (l1.length : Int) then (laws_eqEdgeS.l0 k l0 l1 0) else (some false)) = some r := h
 clear h
 by_cases c3 : (l0.length : Int) = (l1.length : Int)
 ·rw [if_pos c3] at H
  have c3b0 : ((l0.length : Int) == (l1.length : Int)) = true := beq_iff_eq.mpr c3
  have c3b1 : ((l0.length : Int) != (l1.length : Int)) = false := bne_eq_false_iff_eq.mpr c3
  have c3b2 : (l0.length == l1.length) = true := by first | simpa using c3 | (simp at c3 ⊢; omega)
  clear c3
  have H' := am_ H
  clear H
  go_enter Try.func103, Try.ntmps103
  go_wp2
  go_loopg [5] k (fun kq v5 w' => ∃ (x5_1 : Int), v5 = .int .i64 x5_1 ∧ Aside0 (laws_eqEdgeS.l0 kq l0 l1 x5_1 = some r) ∧ Aside0 (kq ≤ k) ∧ Aside0 (Below w.heap.size w w'))
  case atStart => exact ⟨(0), (by first | rfl | (simp; done) | (simp [*]; done)), H', ⟨Nat.le_refl _⟩, ⟨by repeat (first | (with_reducible first | exact HB.out | apply below_alloc | apply pw_below_drewN | apply below_drew1) | exact HB.out)⟩⟩
  case round =>
   clear H'
   try clear c1
   try clear p2
   try clear c3
   try clear c3b0
   try clear c3b1
   try clear c3b2
   obtain ⟨x5_1, rfl, HA, HK1, HB⟩ := hrel
   cases gk with
   | zero => exact absurd HA.out (by simp [laws_eqEdgeS.l0])
   | succ k1 =>
    have H := HA.out
    clear HA
    simp only [laws_eqEdgeS.l0] at H
    by_cases c4 : x5_1 < (l0.length : Int)
    ·rw [if_pos c4] at H
     have c4b0 : decide (x5_1 < (l0.length : Int)) = true := decide_eq_true c4
     clear c4
     by_cases c5 : 0 ≤ x5_1
     ·rw [if_pos c5] at H
      have c5b0 : decide (0 ≤ x5_1) = true := decide_eq_true c5
      clear c5
      by_cases c6 : x5_1 < (l1.length : Int)
      ·rw [if_pos c6] at H
       have c6b0 : decide (x5_1 < (l1.length : Int)) = true := decide_eq_true c6
       clear c6
       replace H := Option.bind_eq_some_iff.mp H
       obtain ⟨t195, A70, H⟩ := H
       replace H : (if t195 = true then (laws_eqEdgeS.l0 k1 l0 l1 (wrap64 (x5_1 + 1))) else (some false)) = some r := H
       have A7 := am_ A70
       clear A70
       by_cases c8 : t195 = true
       ·subst c8
        have H1 : (laws_eqEdgeS.l0 k1 l0 l1 (wrap64 (x5_1 + 1))) = some r := by rw [if_pos rfl] at H; exact H
        clear H
        have H := H1
        clear H1
        have H' := am_ H
        clear H
        try go_wp2
        have n0_ := am_ (below_drew1 HB.out)
        clear HB
        have HB := n0_
        clear n0_
        have p193 : 0 ≤ (x5_1 : Int) := of_decide_eq_true (by first | (with_reducible assumption) | assumption)
        have q193 : x5_1 < (l0.length : Int) := of_decide_eq_true (by first | (with_reducible assumption) | assumption)
        obtain ⟨ad193, e193, hx193_0, hx193_1, hx193_2⟩ := at_T113 HR0.out x5_1 p193 q193
        have hw193_2 := hx193_2
        have hw193_1 := hx193_1
        have hw193_0 := hx193_0
        cases e193
        (try replace hx193_0 := (HB.out.cell (World.block_lt_of_cell? w _ hx193_0)).trans hx193_0)
        (try replace hx193_1 := (HB.out.cell (World.block_lt_of_cell? w _ hx193_1)).trans hx193_1)
        (try replace hx193_2 := (HB.out.cell (World.block_lt_of_cell? w _ hx193_2)).trans hx193_2)
        replace p193 := eq_true p193
        replace q193 := eq_true q193
        have p194 : 0 ≤ (x5_1 : Int) := of_decide_eq_true (by first | (with_reducible assumption) | assumption)
        have q194 : x5_1 < (l1.length : Int) := of_decide_eq_true (by first | (with_reducible assumption) | assumption)
        obtain ⟨ad194, e194, hx194_0, hx194_1, hx194_2⟩ := at_T113 HR1.out x5_1 p194 q194
        have hw194_2 := hx194_2
        have hw194_1 := hx194_1
        have hw194_0 := hx194_0
        cases e194
        (try replace hx194_0 := (HB.out.cell (World.block_lt_of_cell? w _ hx194_0)).trans hx194_0)
        (try replace hx194_1 := (HB.out.cell (World.block_lt_of_cell? w _ hx194_1)).trans hx194_1)
        (try replace hx194_2 := (HB.out.cell (World.block_lt_of_cell? w _ hx194_2)).trans hx194_2)
        replace p194 := eq_true p194
        replace q194 := eq_true q194
        refine start_ (n := 10) (S := fun w' => w'.cell? (ad193.add ((x5_1).toNat * 3)) = some (.int .i64 ((rd_T113 l0 x5_1).f0)) ∧ w'.cell? ⟨(ad193.add ((x5_1).toNat * 3)).block, (ad193.add ((x5_1).toNat * 3)).off + 1, none⟩ = some (.int .i64 ((rd_T113 l0 x5_1).f1)) ∧ w'.cell? ⟨(ad193.add ((x5_1).toNat * 3)).block, (ad193.add ((x5_1).toNat * 3)).off + 2, none⟩ = some (.int .i64 ((rd_T113 l0 x5_1).f2)) ∧ w'.cell? (ad194.add ((x5_1).toNat * 3)) = some (.int .i64 ((rd_T113 l1 x5_1).f0)) ∧ w'.cell? ⟨(ad194.add ((x5_1).toNat * 3)).block, (ad194.add ((x5_1).toNat * 3)).off + 1, none⟩ = some (.int .i64 ((rd_T113 l1 x5_1).f1)) ∧ w'.cell? ⟨(ad194.add ((x5_1).toNat * 3)).block, (ad194.add ((x5_1).toNat * 3)).off + 2, none⟩ = some (.int .i64 ((rd_T113 l1 x5_1).f2))) (ds := []) #[false, false, false, false, false, false, false, false, false, false] (by kernel_rfl) rfl rfl ⟨((HB.out.cell (World.block_lt_of_cell? w _ hw193_0)).trans hw193_0), ((HB.out.cell (World.block_lt_of_cell? w _ hw193_1)).trans hw193_1), ((HB.out.cell (World.block_lt_of_cell? w _ hw193_2)).trans hw193_2), ((HB.out.cell (World.block_lt_of_cell? w _ hw194_0)).trans hw194_0), ((HB.out.cell (World.block_lt_of_cell? w _ hw194_1)).trans hw194_1), ((HB.out.cell (World.block_lt_of_cell? w _ hw194_2)).trans hw194_2)⟩ (fun hHeld => ?_); refine with_tabW laws_eqEdgeS.tab6 laws_eqEdgeS.bits6 (fun HT_ HW_ => ?_)
        generalize wr.drew = w9 at HB hx193_0 hx193_1 hx193_2 hx194_0 hx194_1 hx194_2 hHeld ⊢
        refine Sh.pA 0 17 (Sh.pre 10 1) (any_of HT_.out (by kernel_rfl)) ?_
        refine Sh.pA 1 18 (Sh.pre 10 2) (any_of HT_.out (by kernel_rfl)) ?_
        refine Sh.pA 2 19 (Sh.pre 10 3) (any_of HT_.out (by kernel_rfl)) ?_
        refine Sh.pA 4 21 #[true, true, true, false, true, false, false, false, false, false] (any_of HT_.out (by kernel_rfl)) ?_
        refine Sh.pA 5 22 #[true, true, true, false, true, true, false, false, false, false] (any_of HT_.out (by kernel_rfl)) ?_
        refine Sh.pA 6 23 #[true, true, true, false, true, true, true, false, false, false] (any_of HT_.out (by kernel_rfl)) ?_
        refine Sh.tA 3 20 (Sh.pre 10 7) (take_ofW HT_.out HW_.out (by kernel_rfl)) hHeld ?_ (hy := by rintro w' ⟨s0, s1, s2, s3, s4, s5⟩; go_simp; with_reducible rfl)
        refine Sh.tA 7 24 (Sh.pre 10 8) (take_ofW HT_.out HW_.out (by kernel_rfl)) hHeld ?_ (hy := by rintro w' ⟨s0, s1, s2, s3, s4, s5⟩; go_simp; with_reducible rfl)
        refine one_ (i := 8) (N := some 25) #[true, true, true, true, true, true, true, true, true, false] rfl rfl (one_of HT_.out (by kernel_rfl)) (by decide) (fun K hK => ?_)
        refine goes_ Try.func136 (by kernel_rfl) rfl #[.agg #[.int .i64 ((rd_T113 l0 x5_1).f0), .int .i64 ((rd_T113 l0 x5_1).f1), .int .i64 ((rd_T113 l0 x5_1).f2)], .agg #[.int .i64 ((rd_T113 l1 x5_1).f0), .int .i64 ((rd_T113 l1 x5_1).f1), .int .i64 ((rd_T113 l1 x5_1).f2)]] (by rfl) rfl rfl (by (try simp only [List.map_toArray, List.map_cons, List.map_nil]); first | done | rfl | (simp only [List.length_drop, List.length_take]; rfl)) ?_
        with_reducible refine (laws_eqEdge.calls ((rd_T113 l0 x5_1).f0) ((rd_T113 l0 x5_1).f1) ((rd_T113 l0 x5_1).f2) ((rd_T113 l1 x5_1).f0) ((rd_T113 l1 x5_1).f1) ((rd_T113 l1 x5_1).f2) true _ A7.out).mono ?_
        rintro e w10 ⟨rfl, hb⟩
        refine ⟨_, rfl, ?_⟩
        have n0_ := am_ (below_step (by repeat (first | (with_reducible first | exact HB.out | apply below_alloc | apply pw_below_drewN | apply below_drew1) | exact HB.out)) hb)
        clear HB
        have HB := n0_
        clear n0_
        (try clear hb)
        (try clear hb2)
        (try clear hk)
        (try clear hi)
        refine hK.out _ _ ⟨((HB.out.cell (World.block_lt_of_cell? w _ hw193_0)).trans hw193_0), ((HB.out.cell (World.block_lt_of_cell? w _ hw193_1)).trans hw193_1), ((HB.out.cell (World.block_lt_of_cell? w _ hw193_2)).trans hw193_2), ((HB.out.cell (World.block_lt_of_cell? w _ hw194_0)).trans hw194_0), ((HB.out.cell (World.block_lt_of_cell? w _ hw194_1)).trans hw194_1), ((HB.out.cell (World.block_lt_of_cell? w _ hw194_2)).trans hw194_2)⟩ (fun hHeld => ?_)
        clear hK K
        refine norm_ (a' := ?_) ?_ ?_
        rotate_left
        ·show Act.put _ (some 25) _ = _
         simp only [Act.put, List.setIfInBounds_toArray, List.set_cons_zero, List.set_cons_succ, i64_w, i32_w]
         rfl
        refine Sh.pA 9 26 (Sh.pre 10 10) (any_of HT_.out (by kernel_rfl)) ?_
        refine done_ (done_of HT_.out (by kernel_rfl)) ?_
        try go_wp2
        go_roundg k1
        case measure => have := HK1.out; omega
        case rel => exact ⟨(wrap64 (x5_1 + 1)), (by first | rfl | (simp; done) | (simp [*]; done)), H', ⟨by have := HK1.out; omega⟩, ⟨by repeat (first | (with_reducible first | exact HB.out | apply below_alloc | apply pw_below_drewN | apply below_drew1) | exact HB.out)⟩⟩
       ·replace c8 := Bool.eq_false_iff.mpr c8
        subst c8
        have H1 : (some false) = some r := by rw [if_neg (show ¬ (false = true) by decide)] at H; exact H
        clear H
        have H := H1
        clear H1
        obtain rfl := Option.some.inj H
        try go_wp2
        have n0_ := am_ (below_drew1 HB.out)
        clear HB
        have HB := n0_
        clear n0_
        have p193 : 0 ≤ (x5_1 : Int) := of_decide_eq_true (by first | (with_reducible assumption) | assumption)
        have q193 : x5_1 < (l0.length : Int) := of_decide_eq_true (by first | (with_reducible assumption) | assumption)
        obtain ⟨ad193, e193, hx193_0, hx193_1, hx193_2⟩ := at_T113 HR0.out x5_1 p193 q193
        have hw193_2 := hx193_2
        have hw193_1 := hx193_1
        have hw193_0 := hx193_0
        cases e193
        (try replace hx193_0 := (HB.out.cell (World.block_lt_of_cell? w _ hx193_0)).trans hx193_0)
        (try replace hx193_1 := (HB.out.cell (World.block_lt_of_cell? w _ hx193_1)).trans hx193_1)
        (try replace hx193_2 := (HB.out.cell (World.block_lt_of_cell? w _ hx193_2)).trans hx193_2)
        replace p193 := eq_true p193
        replace q193 := eq_true q193
        have p194 : 0 ≤ (x5_1 : Int) := of_decide_eq_true (by first | (with_reducible assumption) | assumption)
        have q194 : x5_1 < (l1.length : Int) := of_decide_eq_true (by first | (with_reducible assumption) | assumption)
        obtain ⟨ad194, e194, hx194_0, hx194_1, hx194_2⟩ := at_T113 HR1.out x5_1 p194 q194
        have hw194_2 := hx194_2
        have hw194_1 := hx194_1
        have hw194_0 := hx194_0
        cases e194
        (try replace hx194_0 := (HB.out.cell (World.block_lt_of_cell? w _ hx194_0)).trans hx194_0)
        (try replace hx194_1 := (HB.out.cell (World.block_lt_of_cell? w _ hx194_1)).trans hx194_1)
        (try replace hx194_2 := (HB.out.cell (World.block_lt_of_cell? w _ hx194_2)).trans hx194_2)
        replace p194 := eq_true p194
        replace q194 := eq_true q194
        refine start_ (n := 10) (S := fun w' => w'.cell? (ad193.add ((x5_1).toNat * 3)) = some (.int .i64 ((rd_T113 l0 x5_1).f0)) ∧ w'.cell? ⟨(ad193.add ((x5_1).toNat * 3)).block, (ad193.add ((x5_1).toNat * 3)).off + 1, none⟩ = some (.int .i64 ((rd_T113 l0 x5_1).f1)) ∧ w'.cell? ⟨(ad193.add ((x5_1).toNat * 3)).block, (ad193.add ((x5_1).toNat * 3)).off + 2, none⟩ = some (.int .i64 ((rd_T113 l0 x5_1).f2)) ∧ w'.cell? (ad194.add ((x5_1).toNat * 3)) = some (.int .i64 ((rd_T113 l1 x5_1).f0)) ∧ w'.cell? ⟨(ad194.add ((x5_1).toNat * 3)).block, (ad194.add ((x5_1).toNat * 3)).off + 1, none⟩ = some (.int .i64 ((rd_T113 l1 x5_1).f1)) ∧ w'.cell? ⟨(ad194.add ((x5_1).toNat * 3)).block, (ad194.add ((x5_1).toNat * 3)).off + 2, none⟩ = some (.int .i64 ((rd_T113 l1 x5_1).f2))) (ds := []) #[false, false, false, false, false, false, false, false, false, false] (by kernel_rfl) rfl rfl ⟨((HB.out.cell (World.block_lt_of_cell? w _ hw193_0)).trans hw193_0), ((HB.out.cell (World.block_lt_of_cell? w _ hw193_1)).trans hw193_1), ((HB.out.cell (World.block_lt_of_cell? w _ hw193_2)).trans hw193_2), ((HB.out.cell (World.block_lt_of_cell? w _ hw194_0)).trans hw194_0), ((HB.out.cell (World.block_lt_of_cell? w _ hw194_1)).trans hw194_1), ((HB.out.cell (World.block_lt_of_cell? w _ hw194_2)).trans hw194_2)⟩ (fun hHeld => ?_); refine with_tabW laws_eqEdgeS.tab6 laws_eqEdgeS.bits6 (fun HT_ HW_ => ?_)
        generalize wr.drew = w11 at HB hx193_0 hx193_1 hx193_2 hx194_0 hx194_1 hx194_2 hHeld ⊢
        refine Sh.pA 0 17 (Sh.pre 10 1) (any_of HT_.out (by kernel_rfl)) ?_
        refine Sh.pA 1 18 (Sh.pre 10 2) (any_of HT_.out (by kernel_rfl)) ?_
        refine Sh.pA 2 19 (Sh.pre 10 3) (any_of HT_.out (by kernel_rfl)) ?_
        refine Sh.pA 4 21 #[true, true, true, false, true, false, false, false, false, false] (any_of HT_.out (by kernel_rfl)) ?_
        refine Sh.pA 5 22 #[true, true, true, false, true, true, false, false, false, false] (any_of HT_.out (by kernel_rfl)) ?_
        refine Sh.pA 6 23 #[true, true, true, false, true, true, true, false, false, false] (any_of HT_.out (by kernel_rfl)) ?_
        refine Sh.tA 3 20 (Sh.pre 10 7) (take_ofW HT_.out HW_.out (by kernel_rfl)) hHeld ?_ (hy := by rintro w' ⟨s0, s1, s2, s3, s4, s5⟩; go_simp; with_reducible rfl)
        refine Sh.tA 7 24 (Sh.pre 10 8) (take_ofW HT_.out HW_.out (by kernel_rfl)) hHeld ?_ (hy := by rintro w' ⟨s0, s1, s2, s3, s4, s5⟩; go_simp; with_reducible rfl)
        refine one_ (i := 8) (N := some 25) #[true, true, true, true, true, true, true, true, true, false] rfl rfl (one_of HT_.out (by kernel_rfl)) (by decide) (fun K hK => ?_)
        refine goes_ Try.func136 (by kernel_rfl) rfl #[.agg #[.int .i64 ((rd_T113 l0 x5_1).f0), .int .i64 ((rd_T113 l0 x5_1).f1), .int .i64 ((rd_T113 l0 x5_1).f2)], .agg #[.int .i64 ((rd_T113 l1 x5_1).f0), .int .i64 ((rd_T113 l1 x5_1).f1), .int .i64 ((rd_T113 l1 x5_1).f2)]] (by rfl) rfl rfl (by (try simp only [List.map_toArray, List.map_cons, List.map_nil]); first | done | rfl | (simp only [List.length_drop, List.length_take]; rfl)) ?_
        with_reducible refine (laws_eqEdge.calls ((rd_T113 l0 x5_1).f0) ((rd_T113 l0 x5_1).f1) ((rd_T113 l0 x5_1).f2) ((rd_T113 l1 x5_1).f0) ((rd_T113 l1 x5_1).f1) ((rd_T113 l1 x5_1).f2) false _ A7.out).mono ?_
        rintro e w12 ⟨rfl, hb⟩
        refine ⟨_, rfl, ?_⟩
        have n0_ := am_ (below_step (by repeat (first | (with_reducible first | exact HB.out | apply below_alloc | apply pw_below_drewN | apply below_drew1) | exact HB.out)) hb)
        clear HB
        have HB := n0_
        clear n0_
        (try clear hb)
        (try clear hb2)
        (try clear hk)
        (try clear hi)
        refine hK.out _ _ ⟨((HB.out.cell (World.block_lt_of_cell? w _ hw193_0)).trans hw193_0), ((HB.out.cell (World.block_lt_of_cell? w _ hw193_1)).trans hw193_1), ((HB.out.cell (World.block_lt_of_cell? w _ hw193_2)).trans hw193_2), ((HB.out.cell (World.block_lt_of_cell? w _ hw194_0)).trans hw194_0), ((HB.out.cell (World.block_lt_of_cell? w _ hw194_1)).trans hw194_1), ((HB.out.cell (World.block_lt_of_cell? w _ hw194_2)).trans hw194_2)⟩ (fun hHeld => ?_)
        clear hK K
        refine norm_ (a' := ?_) ?_ ?_
        rotate_left
        ·show Act.put _ (some 25) _ = _
         simp only [Act.put, List.setIfInBounds_toArray, List.set_cons_zero, List.set_cons_succ, i64_w, i32_w]
         rfl
        refine Sh.pA 9 26 (Sh.pre 10 10) (any_of HT_.out (by kernel_rfl)) ?_
        refine done_ (done_of HT_.out (by kernel_rfl)) ?_
        try go_wp2
        go_ret
        exact ⟨by first | rfl | (simp [errW_none, errW_some] <;> rfl) | (simp [*, errW_none, errW_some] <;> rfl), by repeat (first | (with_reducible first | exact HB.out | apply below_alloc | apply pw_below_drewN | apply below_drew1) | exact HB.out)⟩
      ·rw [if_neg c6] at H
       exact absurd H (by simp)
     ·rw [if_neg c5] at H
      exact absurd H (by simp)
    ·rw [if_neg c4] at H
     have c4b0 : decide (x5_1 < (l0.length : Int)) = false := decide_eq_false c4
     clear c4
     obtain rfl := Option.some.inj H
     go_wp2
     go_ret
     exact ⟨by first | rfl | (simp [errW_none, errW_some] <;> rfl) | (simp [*, errW_none, errW_some] <;> rfl), by repeat (first | (with_reducible first | exact HB.out | apply below_alloc | apply pw_below_drewN | apply below_drew1) | exact HB.out)⟩
 ·rw [if_neg c3] at H
  have c3b0 : ((l0.length : Int) == (l1.length : Int)) = false := beq_eq_false_iff_ne.mpr c3
  have c3b1 : ((l0.length : Int) != (l1.length : Int)) = true := bne_iff_ne.mpr c3
  have c3b2 : (l0.length == l1.length) = false := by first | simpa using c3 | (simp at c3 ⊢; omega)
  obtain rfl := Option.some.inj H
  go_enter Try.func103, Try.ntmps103
  go_wp2
  go_ret
  exact ⟨by first | rfl | (simp [errW_none, errW_some] <;> rfl) | (simp [*, errW_none, errW_some] <;> rfl), by repeat (first | (with_reducible first | exact HB.out | apply below_alloc | apply pw_below_drewN | apply below_drew1) | exact HB.out)⟩

end Go.Proofs.Ytbgbidgnlioomaa.P
