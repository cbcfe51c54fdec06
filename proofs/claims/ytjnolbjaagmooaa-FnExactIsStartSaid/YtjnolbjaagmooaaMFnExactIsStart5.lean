/- Go functions of this seat as Lean functions, and the proofs that the calls come to what these say; printed by a program of this session. No condition. -/
import Derived.Test.YtjnolbjaagmooaaP0
import Derived.Test.YtjnolbjaagmooaaMFnExactIsStart3
import Derived.Test.YtjnolbjaagmooaaMFnExactIsStart4
import Derived.Test.YtjnolbjaagmooaaMFnExactIsStart2
import Derived.Test.YtjnolbjaagmooaaMFnExactIsStart1
namespace Go.Proofs.Ytjnolbjaagmooaa.P
open Go.RowKit Go.Proofs.YtjnolbjaagmooaaW.PrintWords Go.Proofs.YtjnolbjaagmooaaW.PrintLast Go.Proofs.YtjnolbjaagmooaaW.PrintMore Go.Proofs.Ytjnolbjaagmooaa.Hof
attribute [local go_sem] max2_int min2_int max_two min_two max_three min_three max_four min_four   -- for this text's walks alone
set_option linter.unusedVariables false
set_option linter.unusedSimpArgs false

/-! ### impl_valueOf: function 67 -/
mutual
def impl_valueOf.l0 : Nat → Int → List Int → List Int → List (S80) → Int → Int → Option (Int)
 | 0, _, _, _, _, _, _ => none
 | k + 1, x0, x2, x7, x12, x13, x14 => if x14 < x13 then (if 0 ≤ x14 then (if x14 < (x12.length : Int) then (if ((rd_T80 x12 x14).f0) = 1 then (impl_valueOf.j1 k x0 x2 x7 (wrap64 ((x7.length : Int) - 1)) x12 x13 x14 ((rd_T80 x12 x14).f0) (((rd_T80 x12 x14).f0) == 1) ((rd_T80 x12 x14).f0) ((rd_T80 x12 x14).f1)) else (impl_valueOf.j1 k x0 x2 x7 (wrap64 ((x7.length : Int) - 1)) x12 x13 x14 ((rd_T80 x12 x14).f0) (((rd_T80 x12 x14).f0) == 20) ((rd_T80 x12 x14).f0) ((rd_T80 x12 x14).f1))) else (none)) else (none)) else (if 0 < (x7.length : Int) then (some (rd x7 0)) else (none))
def impl_valueOf.j1 : Nat → Int → List Int → List Int → Int → List (S80) → Int → Int → Int → Bool → Int → Int → Option (Int)
 | 0, _, _, _, _, _, _, _, _, _, _, _ => none
 | k + 1, x0, x2, x7, x10, x12, x13, x14, x22, x42, x400000, x400001 => if x42 = true then (if x7.length < 17592186044416 then (impl_valueOf.l0 k x0 x2 (x7 ++ [x400001]) x12 x13 (wrap64 (x14 + 1))) else (none)) else (if x22 = 2 then (if 0 ≤ x400001 then (if x400001 < (x2.length : Int) then (if x7.length < 17592186044416 then (impl_valueOf.l0 k x0 x2 (x7 ++ [rd x2 x400001]) x12 x13 (wrap64 (x14 + 1))) else (none)) else (none)) else (none)) else (if x22 = 13 then (if 0 ≤ x10 then (if x10 < (x7.length : Int) then ((impl_mask.f x0).bind fun t408 => (impl_valueOf.l0 k x0 x2 (x7.set (x10 : Int).toNat (Go.bits .and .u64 (Go.bits .xor .u64 18446744073709551615 (rd x7 x10)) t408)) x12 x13 (wrap64 (x14 + 1)))) else (none)) else (none)) else (if x22 = 19 then (if 0 ≤ x10 then (if x10 < (x7.length : Int) then (impl_valueOf.l0 k x0 x2 (x7.set (x10 : Int).toNat (IntKind.u64.wrap (1 - (rd x7 x10)))) x12 x13 (wrap64 (x14 + 1))) else (none)) else (none)) else (if 0 ≤ (wrap64 (x10 - 1)) then (if (wrap64 (x10 - 1)) < (x7.length : Int) then (if 0 ≤ x10 then (if x10 < (x7.length : Int) then (if (wrap64 (x10 - 1)) ≤ (x7.length : Int) then ((some (x7.take ((wrap64 (x10 - 1)) : Int).toNat : List Int)).bind fun y414 => ((impl_apply.f k x0 x400000 (rd x7 (wrap64 (x10 - 1))) (rd x7 x10)).bind fun t417 => (if y414.length < 17592186044416 then (impl_valueOf.l0 k x0 x2 (y414 ++ [t417]) x12 x13 (wrap64 (x14 + 1))) else (none)))) else (none)) else (none)) else (none)) else (none)) else (none)))))
end
def impl_valueOf.f (k : Nat) (a0 : Int) (l1 : List (S80)) (l2 : List Int) : Option (Int) := impl_valueOf.l0 k a0 l2 (([] : List Int)) l1 (l1.length : Int) 0
theorem impl_valueOf.mono_l : ∀ k, (∀ y0 y1 y2 y3 y4 y5, LeO (impl_valueOf.l0 k y0 y1 y2 y3 y4 y5) (impl_valueOf.l0 (k + 1) y0 y1 y2 y3 y4 y5)) ∧ (∀ y0 y1 y2 y3 y4 y5 y6 y7 y8 y9 y10, LeO (impl_valueOf.j1 k y0 y1 y2 y3 y4 y5 y6 y7 y8 y9 y10) (impl_valueOf.j1 (k + 1) y0 y1 y2 y3 y4 y5 y6 y7 y8 y9 y10))
 | 0 => ⟨fun _ _ _ _ _ _ r h => by simp [impl_valueOf.l0] at h, fun _ _ _ _ _ _ _ _ _ _ _ r h => by simp [impl_valueOf.j1] at h⟩
 | k + 1 => by
  obtain ⟨ih0, ih1⟩ := impl_valueOf.mono_l k
  refine ⟨?_, ?_⟩
  ·intro y0 y1 y2 y3 y4 y5
   unfold impl_valueOf.l0
   repeat' first
   | (with_reducible exact ih0 _ _ _ _ _ _)
   | (with_reducible exact ih1 _ _ _ _ _ _ _ _ _ _ _)
   | (with_reducible exact impl_apply.mono _ _ _ _ _)
   | (with_reducible exact LeO.refl _)
   | (with_reducible exact LeO.none _)
   | (with_reducible refine LeO.ite ?_ ?_)
   | (with_reducible refine LeO.bind ?_ (fun _ => ?_))
   | exact ih0 _ _ _ _ _ _
   | exact ih1 _ _ _ _ _ _ _ _ _ _ _
   | exact impl_apply.mono _ _ _ _ _
   | exact LeO.none _
   | refine LeO.ite ?_ ?_
   | refine LeO.bind ?_ (fun _ => ?_)
  ·intro y0 y1 y2 y3 y4 y5 y6 y7 y8 y9 y10
   unfold impl_valueOf.j1
   repeat' first
   | (with_reducible exact ih0 _ _ _ _ _ _)
   | (with_reducible exact ih1 _ _ _ _ _ _ _ _ _ _ _)
   | (with_reducible exact impl_apply.mono _ _ _ _ _)
   | (with_reducible exact LeO.refl _)
   | (with_reducible exact LeO.none _)
   | (with_reducible refine LeO.ite ?_ ?_)
   | (with_reducible refine LeO.bind ?_ (fun _ => ?_))
   | exact ih0 _ _ _ _ _ _
   | exact ih1 _ _ _ _ _ _ _ _ _ _ _
   | exact impl_apply.mono _ _ _ _ _
   | exact LeO.none _
   | refine LeO.ite ?_ ?_
   | refine LeO.bind ?_ (fun _ => ?_)
theorem impl_valueOf.mono : ∀ a0 a1 a2 k, LeO (impl_valueOf.f k a0 a1 a2) (impl_valueOf.f (k + 1) a0 a1 a2) := by
 intro a0 a1 a2 k
 obtain ⟨ih0, ih1⟩ := impl_valueOf.mono_l k
 unfold impl_valueOf.f
 repeat' first
   | (with_reducible exact ih0 _ _ _ _ _ _)
   | (with_reducible exact ih1 _ _ _ _ _ _ _ _ _ _ _)
   | (with_reducible exact impl_apply.mono _ _ _ _ _)
   | (with_reducible exact LeO.refl _)
   | (with_reducible exact LeO.none _)
   | (with_reducible refine LeO.ite ?_ ?_)
   | (with_reducible refine LeO.bind ?_ (fun _ => ?_))
   | exact ih0 _ _ _ _ _ _
   | exact ih1 _ _ _ _ _ _ _ _ _ _ _
   | exact impl_apply.mono _ _ _ _ _
   | exact LeO.none _
   | refine LeO.ite ?_ ?_
   | refine LeO.bind ?_ (fun _ => ?_)
def impl_valueOf.T7 : Bool × List (List Nat × List Nat) := (true, [([], []), ([], []), ([1], [1]), ([0, 2], [0, 2]), ([], []), ([], []), ([5], [5]), ([], []), ([], []), ([8], [8]), ([7, 9], [7, 9]), ([10], [10]), ([], []), ([], []), ([12, 13], [12, 13]), ([14], [14]), ([4, 6, 11, 15], [4, 6, 11, 15]), ([16], [16]), ([3, 17, 16], [3, 17]), ([18, 18, 0, 1, 2, 3, 4, 5, 6, 7, 8, 9, 10, 11, 12, 13, 14, 15, 16, 17, 18], [0, 7, 12, 18])])
def impl_valueOf.B7 : List Nat := [0, 0, 2, 7, 0, 0, 32, 0, 0, 256, 896, 1920, 0, 0, 12288, 28672, 65520, 131056, 262143, 524287]
theorem impl_valueOf.tab7 : rtab .any (opsOf Try.f67 7) = impl_valueOf.T7 := by kernel_rfl
theorem impl_valueOf.bits7 : waitsOk impl_valueOf.T7.2 impl_valueOf.B7 = true := by kernel_rfl
def impl_valueOf.T14 : Bool × List (List Nat × List Nat) := (true, [([], []), ([], []), ([], []), ([], []), ([2, 3], [2, 3]), ([4], [4]), ([5], [5]), ([], []), ([7], [7]), ([6, 8], [6, 8]), ([0, 1, 0, 1, 2, 3, 4, 5, 6, 7, 8, 9], [0, 1]), ([10, 9, 8, 0, 1, 2, 3, 4, 5, 6, 7, 8, 9], [9, 10])])
def impl_valueOf.B14 : List Nat := [0, 0, 0, 0, 12, 28, 60, 0, 128, 508, 1023, 2047]
theorem impl_valueOf.tab14 : rtab .any (opsOf Try.f67 14) = impl_valueOf.T14 := by kernel_rfl
theorem impl_valueOf.bits14 : waitsOk impl_valueOf.T14.2 impl_valueOf.B14 = true := by kernel_rfl
set_option maxHeartbeats 8000000 in
set_option maxRecDepth 100000 in
theorem impl_valueOf.calls (k : Nat) (a0 : Int) (A1 : Option Addr) (c1 : Nat) (l1 : List (S80)) (A2 : Option Addr) (c2 : Nat) (l2 : List Int) (r : Int) (w : World) (hr1 : Kd.C k80 w A1 l1.length l1) (hc1 : l1.length ≤ c1) (hr2 : Kd.C (Kd.int .u64) w A2 l2.length l2) (hc2 : l2.length ≤ c2) (h : impl_valueOf.f k a0 l1 l2 = some r) :
  Calls Try.prog 67 #[.int .i64 a0, .slice A1 l1.length c1, .slice A2 l2.length c2] w fun e w' => e = .returned (.int .u64 r) ∧ Below w.heap.size w w' := by
 have hu80 := Try.underlying80
 have HR1 := am_ hr1
 have HC1 := am_ hc1
 clear hr1 hc1
 have HR2 := am_ hr2
 have HC2 := am_ hc2
 clear hr2 hc2
 have HB := am_ (Below.refl w.heap.size w)
 have H : (impl_valueOf.l0 k a0 l2 (([] : List Int)) l1 (l1.length : Int) 0) = some r := h
 clear h
 obtain ⟨y394, hy394⟩ : ∃ y_ : List Int, y_ = (([] : List Int)) := ⟨_, rfl⟩
 replace H : (impl_valueOf.l0 k a0 l2 y394 l1 (l1.length : Int) 0) = some r := by first | (rw [hy394]; with_reducible exact H) | (have H2_ := (Option.bind_some _ _).symm.trans H; rw [hy394]; with_reducible exact H2_) | (have H2_ := (Option.bind_some _ _).symm.trans H; with_reducible exact H2_) | with_reducible exact H | (rw [hy394]; exact H) | exact H
 have Ny394 := am_ hy394
 clear hy394
 have H' := am_ H
 clear H
 go_enter Try.func67, Try.ntmps67
 go_wp2_with (first | ((with_reducible refine gate_dst (N := 11) rfl ?_); refine Kd.R_lit (Kd.int .u64) _ 61 ?hg (N := 11) ?hd (xs := ([] : List Int)) (inner := []) (ok := fun _ => True) (okp := fun _ => True) ?hr ?hp (fun _ hk => hk) trivial (Below.refl _ _) (Nat.le_refl _) (by simp) ?_; (case hd => rfl); (case hg => rfl); (case hr => first | (go_simp; done) | (go_simp; rfl)); (case hp => exact (Reps.none _ _)); intro v395 w4 ho5 hb hg_ hnew_; clear hg_ hnew_; (first | rw [← Ny394.out] at ho5 | (simp only [Int.reduceToNat] at ho5; rw [← Ny394.out] at ho5)); have n0_ := am_ (Kd.R_lower ho5 (below_size Sh.bw)); have n1_ := am_ (below_step Sh.bw hb); clear HB; have HO396 := n0_; have HB := n1_; clear n0_ n1_; clear hb ho5))
 go_loopg [7, 14] k (fun kq v7 v14 w' => ∃ (x7_1 : List Int) (x14_1 : Int), v14 = .int .i64 x14_1 ∧ Aside0 (impl_valueOf.l0 kq a0 l2 x7_1 l1 (l1.length : Int) x14_1 = some r) ∧ Aside0 (kq ≤ k) ∧ Aside0 (Kd.R (Kd.int .u64) 61 w' w.heap.size (fun _ => True) v7 x7_1) ∧ Aside0 (Below w.heap.size w w'))
 case atStart => exact ⟨(y394), (0), (by first | rfl | (simp; done) | (simp [*]; done)), H', ⟨Nat.le_refl _⟩, ⟨by (with_reducible repeat (first | apply Kd.R_alloc | apply Kd.R_drewN | apply Kd.R_drew)); exact HO396.out⟩, ⟨by repeat (first | (with_reducible first | exact HB.out | apply below_alloc | apply pw_below_drewN | apply below_drew1) | exact HB.out)⟩⟩
 case round =>
  clear H'
  try clear c1
  try clear c2
  try clear p2
  obtain ⟨x7_1, x14_1, rfl, HA, HK1, HO_7, HB⟩ := hrel
  cases gk with
  | zero => exact absurd HA.out (by simp [impl_valueOf.l0])
  | succ k1 =>
   have H := HA.out
   clear HA
   simp only [impl_valueOf.l0] at H
   by_cases c6 : x14_1 < (l1.length : Int)
   ·rw [if_pos c6] at H
    have c6b0 : decide (x14_1 < (l1.length : Int)) = true := decide_eq_true c6
    clear c6
    by_cases c7 : 0 ≤ x14_1
    ·rw [if_pos c7] at H
     have c7b0 : decide (0 ≤ x14_1) = true := decide_eq_true c7
     clear c7
     by_cases c8 : x14_1 < (l1.length : Int)
     ·rw [if_pos c8] at H
      have c8b0 : decide (x14_1 < (l1.length : Int)) = true := decide_eq_true c8
      clear c8
      have HC9 := am_ H
      clear H
      have p398 : 0 ≤ (x14_1 : Int) := of_decide_eq_true (by first | (with_reducible assumption) | assumption)
      have q398 : x14_1 < (l1.length : Int) := of_decide_eq_true (by first | (with_reducible assumption) | assumption)
      obtain ⟨ad398, e398, hx398_0, hx398_1⟩ := at_T80 HR1.out x14_1 p398 q398
      cases e398
      (try replace hx398_0 := (HB.out.cell (World.block_lt_of_cell? w _ hx398_0)).trans hx398_0)
      (try replace hx398_1 := (HB.out.cell (World.block_lt_of_cell? w _ hx398_1)).trans hx398_1)
      replace p398 := eq_true p398
      replace q398 := eq_true q398
      go_upto_if 42 with (first | ((with_reducible refine gate_dst (N := 9) rfl ?_); refine Sh.bx (N := 9) (cs := #[.int .i64 0, .int .u64 0]) (t := 80) (h := ?_); intro gb399 hg w10 hbox hb; have n0_ := am_ (Kd.R_below (by (with_reducible repeat (first | apply Kd.R_alloc | apply Kd.R_drewN | apply Kd.R_drew)); exact HO_7.out) hb); have n1_ := am_ (below_step Sh.bw hb); have n2_ := am_ (hbox); have n3_ := am_ (Sh.gw (w := w) hg); have n4_ := am_ (Sh.gw (w := w) hg); clear HO_7; clear HB; have HO_7 := n0_; have HB := n1_; have BK399 := n2_; have GW399 := n3_; have GE399 := n4_; clear n0_ n1_ n2_ n3_ n4_; clear hb hbox hg; have hcz11_0 := Sh.bc BK399.out 0; have hcz11_1 := Sh.bc BK399.out 1; have hfz11_0 := blk_frozen BK399.out 0; have hfz11_1 := blk_frozen BK399.out 1; obtain ⟨Ao12, co12, eo12⟩ := Kd.R_slice HO_7.out; subst eo12))
      (try simp only [Act.put, List.setIfInBounds_toArray, List.set_cons_zero, List.set_cons_succ])
      go_cut [42] (fun v42 wc => ∃ (kq : Nat) (x42_8 : Bool), v42 = .bool x42_8 ∧ Aside0 (impl_valueOf.j1 kq a0 l2 x7_1 (wrap64 ((x7_1.length : Int) - 1)) l1 (l1.length : Int) x14_1 ((rd_T80 l1 x14_1).f0) x42_8 ((rd_T80 l1 x14_1).f0) ((rd_T80 l1 x14_1).f1) = some r) ∧ Aside0 (kq ≤ k1) ∧ Aside0 (Kd.R (Kd.int .u64) 61 wc w.heap.size (fun _ => True) (.slice Ao12 x7_1.length co12) x7_1) ∧ Aside0 (wc.heap[gb399]? = some (.cells #[.int .i64 ((rd_T80 l1 x14_1).f0), .int .u64 ((rd_T80 l1 x14_1).f1)] 80 (0, 0))) ∧ Aside0 (Below w.heap.size w wc))
      case first =>
       have H := HC9.out
       clear HC9
       by_cases c13 : ((rd_T80 l1 x14_1).f0) = 1
       ·rw [if_pos c13] at H
        have c13b0 : (((rd_T80 l1 x14_1).f0) == 1) = true := beq_iff_eq.mpr c13
        have c13b1 : (((rd_T80 l1 x14_1).f0) != 1) = false := bne_eq_false_iff_eq.mpr c13
        clear c13
        (first | rw [c13b0] | (simp only [i64_w, i32_w]; rw [c13b0]) | skip)
        have H' := am_ H
        clear H
        go_wp2
        go_meet
        case rel => exact ⟨_, ((((rd_T80 l1 x14_1).f0) == 1)), (by first | rfl | (simp; done) | (simp [*]; done)), H', ⟨by have := HK1.out; first | omega | exact Nat.le_refl _⟩, ⟨by (with_reducible repeat (first | apply Kd.R_alloc | apply Kd.R_drewN | apply Kd.R_drew)); exact Kd.R_mono (Kd.R_far (p := ⟨gb399, 1, none⟩) (Kd.R_far (p := ⟨gb399, 0, none⟩) (Kd.R_types HO_7.out BK399.out (by decide)) (fun _ hk => hk.2) (.int .i64 ((rd_T80 l1 x14_1).f0))) (fun _ hk => hk.2) (.int .u64 ((rd_T80 l1 x14_1).f1))) (fun _ hk => trivial)⟩, ⟨by (with_reducible repeat (first | refine blk_drewN ?_ _ | refine blk_drew ?_ | refine blk_alloc ?_ _)); refine blk_put (cs := #[.int .i64 ((rd_T80 l1 x14_1).f0), .int .u64 0]) ?_ 1 _ rfl; (with_reducible repeat (first | refine blk_drewN ?_ _ | refine blk_drew ?_ | refine blk_alloc ?_ _)); refine blk_put (cs := #[.int .i64 0, .int .u64 0]) ?_ 0 _ rfl; (with_reducible repeat (first | refine blk_drewN ?_ _ | refine blk_drew ?_ | refine blk_alloc ?_ _)); exact BK399.out⟩, ⟨by repeat (first | (with_reducible first | exact HB.out | apply below_alloc | apply pw_below_drewN | apply below_drew1 | refine below_set ?_ GE399.out) | exact HB.out)⟩⟩
       ·rw [if_neg c13] at H
        have c13b0 : (((rd_T80 l1 x14_1).f0) == 1) = false := beq_eq_false_iff_ne.mpr c13
        have c13b1 : (((rd_T80 l1 x14_1).f0) != 1) = true := bne_iff_ne.mpr c13
        (first | rw [c13b0] | (simp only [i64_w, i32_w]; rw [c13b0]) | skip)
        have H' := am_ H
        clear H
        go_wp2
        go_meet
        case rel => exact ⟨_, ((((rd_T80 l1 x14_1).f0) == 20)), (by first | rfl | (simp; done) | (simp [*]; done)), H', ⟨by have := HK1.out; first | omega | exact Nat.le_refl _⟩, ⟨by (with_reducible repeat (first | apply Kd.R_alloc | apply Kd.R_drewN | apply Kd.R_drew)); exact Kd.R_mono (Kd.R_far (p := ⟨gb399, 1, none⟩) (Kd.R_far (p := ⟨gb399, 0, none⟩) (Kd.R_types HO_7.out BK399.out (by decide)) (fun _ hk => hk.2) (.int .i64 ((rd_T80 l1 x14_1).f0))) (fun _ hk => hk.2) (.int .u64 ((rd_T80 l1 x14_1).f1))) (fun _ hk => trivial)⟩, ⟨by (with_reducible repeat (first | refine blk_drewN ?_ _ | refine blk_drew ?_ | refine blk_alloc ?_ _)); refine blk_put (cs := #[.int .i64 ((rd_T80 l1 x14_1).f0), .int .u64 0]) ?_ 1 _ rfl; (with_reducible repeat (first | refine blk_drewN ?_ _ | refine blk_drew ?_ | refine blk_alloc ?_ _)); refine blk_put (cs := #[.int .i64 0, .int .u64 0]) ?_ 0 _ rfl; (with_reducible repeat (first | refine blk_drewN ?_ _ | refine blk_drew ?_ | refine blk_alloc ?_ _)); exact BK399.out⟩, ⟨by repeat (first | (with_reducible first | exact HB.out | apply below_alloc | apply pw_below_drewN | apply below_drew1 | refine below_set ?_ GE399.out) | exact HB.out)⟩⟩
      case rest =>
       clear HC9
       try clear c1
       try clear c2
       try clear p2
       try clear p3
       try clear q3
       try clear hx3
       try clear c6
       try clear c6b0
       try clear p6
       try clear c7
       try clear c7b0
       try clear c8
       try clear c8b0
       try clear c13
       try clear c13b0
       try clear c13b1
       try clear hcz11_0
       try clear hcz11_1
       try clear hfz11_0
       try clear hfz11_1
       try clear hx398_0
       try clear hx398_1
       try clear p2
       try clear p398
       try clear q398
       obtain ⟨kq, x42_8, rfl, HA, HJ8, HO_7, BK399, HB⟩ := hcut
       cases kq with
       | zero => exact absurd HA.out (by simp [impl_valueOf.j1])
       | succ kj8 =>
        have H := HA.out
        clear HA
        simp only [impl_valueOf.j1] at H
        by_cases c14 : x42_8 = true
        ·subst c14
         have H1 : (if x7_1.length < 17592186044416 then (impl_valueOf.l0 kj8 a0 l2 (x7_1 ++ [((rd_T80 l1 x14_1).f1)]) l1 (l1.length : Int) (wrap64 (x14_1 + 1))) else (none)) = some r := by rw [if_pos rfl] at H; exact H
         clear H
         have H := H1
         clear H1
         by_cases c15 : x7_1.length < 17592186044416
         ·rw [if_pos c15] at H
          have LMc15 := am_ c15
          clear c15
          obtain ⟨y400, hy400⟩ : ∃ y_ : List Int, y_ = (x7_1 ++ [((rd_T80 l1 x14_1).f1)]) := ⟨_, rfl⟩
          replace H : (impl_valueOf.l0 kj8 a0 l2 y400 l1 (l1.length : Int) (wrap64 (x14_1 + 1))) = some r := by first | (rw [hy400]; with_reducible exact H) | (have H2_ := (Option.bind_some _ _).symm.trans H; rw [hy400]; with_reducible exact H2_) | (have H2_ := (Option.bind_some _ _).symm.trans H; with_reducible exact H2_) | with_reducible exact H | (rw [hy400]; exact H) | exact H
          have Ny400 := am_ hy400
          clear hy400
          have H' := am_ H
          clear H
          have hcz16_0 := Sh.bc BK399.out 0
          have hcz16_1 := Sh.bc BK399.out 1
          have hfz16_0 := blk_frozen BK399.out 0
          have hfz16_1 := blk_frozen BK399.out 1
          go_wp2_with (first | ((with_reducible refine gate_builtin (b := .append) (xs := #[.tmp 45, .tmp 48]) rfl ?_); at_builtin; refine Kd.R_append (Kd.int .u64) (w0 := w) w.heap.size rfl (.tmp 45) (.tmp 48) 26 61 (.int .u64 0) 8 rfl Try.underlying26 info61 rfl (by decide) (by omega) (.slice Ao12 x7_1.length co12) x7_1 ((rd_T80 l1 x14_1).f1) [.int .u64 ((rd_T80 l1 x14_1).f1)] (fun _ => True) (fun _ => False) rfl rfl ?aP (fun _ hk => hk.elim) ?aF ?aO ?aB ?aS ?aL ?_; (case aP => exact rfl); (case aB => exact Sh.bw); (case aF => exact (fun _ _ => trivial)); (case aO => exact (by (with_reducible repeat (first | apply Kd.R_alloc | apply Kd.R_drewN | apply Kd.R_drew)); exact HO_7.out)); (case aS => exact (below_size Sh.bw)); (case aL => have := LMc15.out; omega); intro v401 w17 ho hb hg hat; rw [← Ny400.out] at ho; have n0_ := am_ (blk_grown (g := gb399) (o := .cells #[.int .i64 ((rd_T80 l1 x14_1).f0), .int .u64 ((rd_T80 l1 x14_1).f1)] 80 (0, 0)) (by (with_reducible repeat (first | refine blk_drewN ?_ _ | refine blk_drew ?_ | refine blk_alloc ?_ _)); exact BK399.out) hg (Kd.R_ne HO_7.out BK399.out (by decide))); have n1_ := am_ (hb); have n2_ := am_ (ho); clear BK399; clear HB; clear HO_7; have BK399 := n0_; have HB := n1_; have HO402 := n2_; clear n0_ n1_ n2_; clear ho hb hg hat))
          go_roundg kj8
          case measure => have := HK1.out; have := HJ8.out; omega
          case rel => exact ⟨(y400), (wrap64 (x14_1 + 1)), (by first | rfl | (simp; done) | (simp [*]; done)), H', ⟨by have := HK1.out; have := HJ8.out; omega⟩, ⟨by (with_reducible repeat (first | apply Kd.R_alloc | apply Kd.R_drewN | apply Kd.R_drew)); exact HO402.out⟩, ⟨by repeat (first | (with_reducible first | exact HB.out | apply below_alloc | apply pw_below_drewN | apply below_drew1 | refine below_set ?_ GE399.out) | exact HB.out)⟩⟩
         ·rw [if_neg c15] at H
          exact absurd H (by simp)
        ·replace c14 := Bool.eq_false_iff.mpr c14
         subst c14
         have H1 : (if ((rd_T80 l1 x14_1).f0) = 2 then (if 0 ≤ ((rd_T80 l1 x14_1).f1) then (if ((rd_T80 l1 x14_1).f1) < (l2.length : Int) then (if x7_1.length < 17592186044416 then (impl_valueOf.l0 kj8 a0 l2 (x7_1 ++ [rd l2 ((rd_T80 l1 x14_1).f1)]) l1 (l1.length : Int) (wrap64 (x14_1 + 1))) else (none)) else (none)) else (none)) else (if ((rd_T80 l1 x14_1).f0) = 13 then (if 0 ≤ (wrap64 ((x7_1.length : Int) - 1)) then (if (wrap64 ((x7_1.length : Int) - 1)) < (x7_1.length : Int) then ((impl_mask.f a0).bind fun t408 => (impl_valueOf.l0 kj8 a0 l2 (x7_1.set ((wrap64 ((x7_1.length : Int) - 1)) : Int).toNat (Go.bits .and .u64 (Go.bits .xor .u64 18446744073709551615 (rd x7_1 (wrap64 ((x7_1.length : Int) - 1)))) t408)) l1 (l1.length : Int) (wrap64 (x14_1 + 1)))) else (none)) else (none)) else (if ((rd_T80 l1 x14_1).f0) = 19 then (if 0 ≤ (wrap64 ((x7_1.length : Int) - 1)) then (if (wrap64 ((x7_1.length : Int) - 1)) < (x7_1.length : Int) then (impl_valueOf.l0 kj8 a0 l2 (x7_1.set ((wrap64 ((x7_1.length : Int) - 1)) : Int).toNat (IntKind.u64.wrap (1 - (rd x7_1 (wrap64 ((x7_1.length : Int) - 1)))))) l1 (l1.length : Int) (wrap64 (x14_1 + 1))) else (none)) else (none)) else (if 0 ≤ (wrap64 ((wrap64 ((x7_1.length : Int) - 1)) - 1)) then (if (wrap64 ((wrap64 ((x7_1.length : Int) - 1)) - 1)) < (x7_1.length : Int) then (if 0 ≤ (wrap64 ((x7_1.length : Int) - 1)) then (if (wrap64 ((x7_1.length : Int) - 1)) < (x7_1.length : Int) then (if (wrap64 ((wrap64 ((x7_1.length : Int) - 1)) - 1)) ≤ (x7_1.length : Int) then ((some (x7_1.take ((wrap64 ((wrap64 ((x7_1.length : Int) - 1)) - 1)) : Int).toNat : List Int)).bind fun y414 => ((impl_apply.f kj8 a0 ((rd_T80 l1 x14_1).f0) (rd x7_1 (wrap64 ((wrap64 ((x7_1.length : Int) - 1)) - 1))) (rd x7_1 (wrap64 ((x7_1.length : Int) - 1)))).bind fun t417 => (if y414.length < 17592186044416 then (impl_valueOf.l0 kj8 a0 l2 (y414 ++ [t417]) l1 (l1.length : Int) (wrap64 (x14_1 + 1))) else (none)))) else (none)) else (none)) else (none)) else (none)) else (none))))) = some r := by rw [if_neg (show ¬ (false = true) by decide)] at H; exact H
         clear H
         have H := H1
         clear H1
         by_cases c18 : ((rd_T80 l1 x14_1).f0) = 2
         ·rw [if_pos c18] at H
          have c18b0 : (((rd_T80 l1 x14_1).f0) == 2) = true := beq_iff_eq.mpr c18
          have c18b1 : (((rd_T80 l1 x14_1).f0) != 2) = false := bne_eq_false_iff_eq.mpr c18
          clear c18
          by_cases c19 : 0 ≤ ((rd_T80 l1 x14_1).f1)
          ·rw [if_pos c19] at H
           have c19b0 : decide (0 ≤ ((rd_T80 l1 x14_1).f1)) = true := decide_eq_true c19
           clear c19
           by_cases c20 : ((rd_T80 l1 x14_1).f1) < (l2.length : Int)
           ·rw [if_pos c20] at H
            have c20b0 : decide (((rd_T80 l1 x14_1).f1) < (l2.length : Int)) = true := decide_eq_true c20
            clear c20
            by_cases c21 : x7_1.length < 17592186044416
            ·rw [if_pos c21] at H
             have LMc21 := am_ c21
             clear c21
             obtain ⟨y404, hy404⟩ : ∃ y_ : List Int, y_ = (x7_1 ++ [rd l2 ((rd_T80 l1 x14_1).f1)]) := ⟨_, rfl⟩
             replace H : (impl_valueOf.l0 kj8 a0 l2 y404 l1 (l1.length : Int) (wrap64 (x14_1 + 1))) = some r := by first | (rw [hy404]; with_reducible exact H) | (have H2_ := (Option.bind_some _ _).symm.trans H; rw [hy404]; with_reducible exact H2_) | (have H2_ := (Option.bind_some _ _).symm.trans H; with_reducible exact H2_) | with_reducible exact H | (rw [hy404]; exact H) | exact H
             have Ny404 := am_ hy404
             clear hy404
             have H' := am_ H
             clear H
             have hcz22_0 := Sh.bc BK399.out 0
             have hcz22_1 := Sh.bc BK399.out 1
             have hfz22_0 := blk_frozen BK399.out 0
             have hfz22_1 := blk_frozen BK399.out 1
             have p403 : 0 ≤ (((rd_T80 l1 x14_1).f1) : Int) := of_decide_eq_true (by first | (with_reducible assumption) | assumption)
             have q403 : ((rd_T80 l1 x14_1).f1) < (l2.length : Int) := of_decide_eq_true (by first | (with_reducible assumption) | assumption)
             obtain ⟨ad403, e403, hx403_0⟩ := Kd.at_int HR2.out ((rd_T80 l1 x14_1).f1) p403 q403
             cases e403
             (try replace hx403_0 := (HB.out.cell (World.block_lt_of_cell? w _ hx403_0)).trans hx403_0)
             replace p403 := eq_true p403
             replace q403 := eq_true q403
             go_wp2_with (first | ((with_reducible refine gate_builtin (b := .append) (xs := #[.tmp 52, .tmp 58]) rfl ?_); at_builtin; refine Kd.R_append (Kd.int .u64) (w0 := w) w.heap.size rfl (.tmp 52) (.tmp 58) 26 61 (.int .u64 0) 8 rfl Try.underlying26 info61 rfl (by decide) (by omega) (.slice Ao12 x7_1.length co12) x7_1 (rd l2 ((rd_T80 l1 x14_1).f1)) [.int .u64 (rd l2 ((rd_T80 l1 x14_1).f1))] (fun _ => True) (fun _ => False) rfl rfl ?aP (fun _ hk => hk.elim) ?aF ?aO ?aB ?aS ?aL ?_; (case aP => exact rfl); (case aB => exact Sh.bw); (case aF => exact (fun _ _ => trivial)); (case aO => exact (by (with_reducible repeat (first | apply Kd.R_alloc | apply Kd.R_drewN | apply Kd.R_drew)); exact HO_7.out)); (case aS => exact (below_size Sh.bw)); (case aL => have := LMc21.out; omega); intro v405 w23 ho hb hg hat; rw [← Ny404.out] at ho; have n0_ := am_ (blk_grown (g := gb399) (o := .cells #[.int .i64 ((rd_T80 l1 x14_1).f0), .int .u64 ((rd_T80 l1 x14_1).f1)] 80 (0, 0)) (by (with_reducible repeat (first | refine blk_drewN ?_ _ | refine blk_drew ?_ | refine blk_alloc ?_ _)); exact BK399.out) hg (Kd.R_ne HO_7.out BK399.out (by decide))); have n1_ := am_ (hb); have n2_ := am_ (ho); clear BK399; clear HB; clear HO_7; have BK399 := n0_; have HB := n1_; have HO406 := n2_; clear n0_ n1_ n2_; clear ho hb hg hat))
             go_roundg kj8
             case measure => have := HK1.out; have := HJ8.out; omega
             case rel => exact ⟨(y404), (wrap64 (x14_1 + 1)), (by first | rfl | (simp; done) | (simp [*]; done)), H', ⟨by have := HK1.out; have := HJ8.out; omega⟩, ⟨by (with_reducible repeat (first | apply Kd.R_alloc | apply Kd.R_drewN | apply Kd.R_drew)); exact HO406.out⟩, ⟨by repeat (first | (with_reducible first | exact HB.out | apply below_alloc | apply pw_below_drewN | apply below_drew1 | refine below_set ?_ GE399.out) | exact HB.out)⟩⟩
            ·rw [if_neg c21] at H
             exact absurd H (by simp)
           ·rw [if_neg c20] at H
            exact absurd H (by simp)
          ·rw [if_neg c19] at H
           exact absurd H (by simp)
         ·rw [if_neg c18] at H
          have c18b0 : (((rd_T80 l1 x14_1).f0) == 2) = false := beq_eq_false_iff_ne.mpr c18
          have c18b1 : (((rd_T80 l1 x14_1).f0) != 2) = true := bne_iff_ne.mpr c18
          by_cases c24 : ((rd_T80 l1 x14_1).f0) = 13
          ·rw [if_pos c24] at H
           have c24b0 : (((rd_T80 l1 x14_1).f0) == 13) = true := beq_iff_eq.mpr c24
           have c24b1 : (((rd_T80 l1 x14_1).f0) != 13) = false := bne_eq_false_iff_eq.mpr c24
           clear c24
           obtain ⟨ji25, hji25⟩ : ∃ j_ : Int, (wrap64 ((x7_1.length : Int) - 1)) = j_ := ⟨_, rfl⟩
           replace H : (if 0 ≤ (ji25) then (if (ji25) < (x7_1.length : Int) then ((impl_mask.f a0).bind fun t408 => (impl_valueOf.l0 kj8 a0 l2 (x7_1.set ((ji25) : Int).toNat (Go.bits .and .u64 (Go.bits .xor .u64 18446744073709551615 (rd x7_1 (ji25))) t408)) l1 (l1.length : Int) (wrap64 (x14_1 + 1)))) else (none)) else (none)) = some r := by first | (rw [hji25] at H; exact H) | (simp only [hji25] at H ⊢; exact H)
           have hji25w : (IntKind.i64.wrap ((x7_1.length : Int) - 1)) = ji25 := (i64_w _).trans hji25
           by_cases c26 : 0 ≤ (ji25)
           ·rw [if_pos c26] at H
            have c26b0 : decide (0 ≤ (ji25)) = true := decide_eq_true c26
            clear c26
            by_cases c27 : (ji25) < (x7_1.length : Int)
            ·rw [if_pos c27] at H
             have c27b0 : decide ((ji25) < (x7_1.length : Int)) = true := decide_eq_true c27
             clear c27
             replace H := Option.bind_eq_some_iff.mp H
             obtain ⟨t408, A280, H⟩ := H
             replace H : (impl_valueOf.l0 kj8 a0 l2 (x7_1.set ((ji25) : Int).toNat (Go.bits .and .u64 (Go.bits .xor .u64 18446744073709551615 (rd x7_1 (ji25))) t408)) l1 (l1.length : Int) (wrap64 (x14_1 + 1))) = some r := H
             have A28 := am_ A280
             clear A280
             obtain ⟨y409, hy409⟩ : ∃ y_ : List Int, y_ = (x7_1.set ((ji25) : Int).toNat (Go.bits .and .u64 (Go.bits .xor .u64 18446744073709551615 (rd x7_1 (ji25))) t408)) := ⟨_, rfl⟩
             replace H : (impl_valueOf.l0 kj8 a0 l2 y409 l1 (l1.length : Int) (wrap64 (x14_1 + 1))) = some r := by first | (rw [hy409]; with_reducible exact H) | (have H2_ := (Option.bind_some _ _).symm.trans H; rw [hy409]; with_reducible exact H2_) | (have H2_ := (Option.bind_some _ _).symm.trans H; with_reducible exact H2_) | with_reducible exact H | (rw [hy409]; exact H) | exact H
             have Ny409 := am_ hy409
             clear hy409
             have H' := am_ H
             clear H
             try go_wp2
             have n0_ := am_ (Kd.R_drew HO_7.out)
             have n1_ := am_ (blk_drew BK399.out)
             have n2_ := am_ (below_drew1 HB.out)
             clear HO_7
             clear BK399
             clear HB
             have HO_7 := n0_
             have BK399 := n1_
             have HB := n2_
             clear n0_ n1_ n2_
             have p407 : 0 ≤ ((ji25) : Int) := of_decide_eq_true (by first | (with_reducible assumption) | assumption)
             have q407 : (ji25) < (x7_1.length : Int) := of_decide_eq_true (by first | (with_reducible assumption) | assumption)
             obtain ⟨ad407, e407, hx407_0⟩ := Kd.at_int (Kd.R_reads' HO_7.out).2.2 (ji25) p407 q407
             cases e407
             replace p407 := eq_true p407
             replace q407 := eq_true q407
             refine start_ (n := 12) (S := fun w' => w'.cell? (ad407.add ((ji25)).toNat) = some (.int .u64 (rd x7_1 (ji25)))) (ds := [11]) #[false, false, false, false, false, false, false, false, false, false, false, false] (by kernel_rfl) rfl rfl (hx407_0) (fun hHeld => ?_); refine with_tabW impl_valueOf.tab14 impl_valueOf.bits14 (fun HT_ HW_ => ?_)
             generalize wc.drew = w30 at HO_7 BK399 HB hx407_0 hHeld ⊢
             refine Sh.pA 0 62 (Sh.pre 12 1) (any_of HT_.out (by kernel_rfl)) ?_ (ha := by simp only [Act.put, List.setIfInBounds_toArray, List.set_cons_zero, List.set_cons_succ, i64_w, i32_w, hji25]; rfl)
             refine Sh.pA 1 63 (Sh.pre 12 2) (any_of HT_.out (by kernel_rfl)) ?_ (ha := by simp only [Act.put, List.setIfInBounds_toArray, List.set_cons_zero, List.set_cons_succ, i64_w, i32_w, hji25]; rfl)
             refine Sh.pA 2 64 (Sh.pre 12 3) (any_of HT_.out (by kernel_rfl)) ?_ (ha := by simp only [Act.put, List.setIfInBounds_toArray, List.set_cons_zero, List.set_cons_succ, i64_w, i32_w, hji25]; rfl)
             refine Sh.pA 3 65 (Sh.pre 12 4) (any_of HT_.out (by kernel_rfl)) ?_ (ha := by simp only [Act.put, List.setIfInBounds_toArray, List.set_cons_zero, List.set_cons_succ, i64_w, i32_w, hji25]; rfl)
             refine Sh.pA 4 66 (Sh.pre 12 5) (any_of HT_.out (by kernel_rfl)) ?_ (ha := by simp only [Act.put, List.setIfInBounds_toArray, List.set_cons_zero, List.set_cons_succ, i64_w, i32_w, hji25]; rfl)
             refine Sh.pA 7 69 #[true, true, true, true, true, false, false, true, false, false, false, false] (any_of HT_.out (by kernel_rfl)) ?_ (ha := by simp only [Act.put, List.setIfInBounds_toArray, List.set_cons_zero, List.set_cons_succ, i64_w, i32_w, hji25]; rfl)
             refine take_ (i := 5) (N := some 67) (v := ?_) (a' := ?_) #[true, true, true, true, true, true, false, true, false, false, false, false] rfl rfl (take_ofW HT_.out HW_.out (by kernel_rfl)) (fun _ _ _ h => h) (Or.inl ⟨by rfl, ?_⟩) hHeld ?_ ?_
             rotate_left
             ·intro w' s0
              go_simp
              with_reducible rfl
             rotate_left
             ·simp only [Act.put, List.setIfInBounds_toArray, List.set_cons_zero, List.set_cons_succ, i64_w, i32_w, hji25]
              rfl
             refine Sh.pA 6 68 (Sh.pre 12 8) (any_of HT_.out (by kernel_rfl)) ?_ (ha := by simp only [Act.put, List.setIfInBounds_toArray, List.set_cons_zero, List.set_cons_succ, i64_w, i32_w, hji25]; rfl)
             refine one_ (i := 8) (N := some 70) #[true, true, true, true, true, true, true, true, true, false, false, false] rfl rfl (one_of HT_.out (by kernel_rfl)) (by decide) (fun K hK => ?_)
             refine goes_ Try.func75 (by kernel_rfl) rfl #[.int .i64 a0] (by rfl) rfl rfl (by (try simp only [List.map_toArray, List.map_cons, List.map_nil]); first | done | rfl | (simp only [List.length_drop, List.length_take]; rfl)) ?_
             with_reducible refine (impl_mask.calls a0 t408 _ A28.out).mono ?_
             rintro e w' ⟨rfl, ⟨nd, rfl⟩⟩
             refine ⟨_, rfl, ?_⟩
             have p29 : 0 ≤ ((ji25) : Int) := of_decide_eq_true (by first | (with_reducible assumption) | assumption)
             have q29 : ((ji25) : Int) < ((x7_1.length : Int) : Int) := of_decide_eq_true (by first | (with_reducible assumption) | assumption)
             obtain ⟨go29, co29, eo29, gb29, gl29, cl29, HG29⟩ := Kd.R_form HO_7.out (by omega)
             (first | cases eo29 | (injection eo29 with ea_ en_ ec_; (first | subst ea_ | (injection ea_ with ea_; subst ea_)); subst ec_; clear en_))
             have GB29 := am_ gb29
             have GG29 := am_ HG29
             clear gb29 gl29 HG29
             (first | simp only [add_plain] at hx407_0 | skip)
             obtain ⟨hx29_0, hf29_0⟩ := Kd.R_celln 0 HO_7.out ((ji25) : Int) p29 q29
             replace p29 := eq_true p29
             replace q29 := eq_true q29
             have HP31 := Kd.R_putn HO_7.out ((ji25) : Int) (Go.bits .and .u64 (Go.bits .xor .u64 18446744073709551615 (rd x7_1 (ji25))) t408)
             rw [← Ny409.out] at HP31
             have HQ31 := am_ HP31
             clear HP31
             refine hK.out _ _ (hHeld) (fun hHeld => ?_)
             clear hK K
             refine norm_ (a' := ?_) ?_ ?_
             rotate_left
             ·show Act.put _ (some 70) _ = _
              simp only [Act.put, List.setIfInBounds_toArray, List.set_cons_zero, List.set_cons_succ, i64_w, i32_w, hji25]
              rfl
             refine Sh.pA 9 71 (Sh.pre 12 10) (any_of HT_.out (by kernel_rfl)) ?_ (ha := by simp only [Act.put, List.setIfInBounds_toArray, List.set_cons_zero, List.set_cons_succ, i64_w, i32_w, hji25]; rfl)
             refine Sh.pA 10 72 (Sh.pre 12 11) (any_of HT_.out (by kernel_rfl)) ?_ (ha := by simp only [Act.put, List.setIfInBounds_toArray, List.set_cons_zero, List.set_cons_succ, i64_w, i32_w, hji25]; rfl)
             refine last_ (i := 11) (N := none) #[true, true, true, true, true, true, true, true, true, true, true, true] rfl rfl (one_of HT_.out (by kernel_rfl)) (by decide) (fun K hK => ?_)
             refine skip_ (w1 := ?_) (by rfl) rfl ?_ ?_
             rotate_left
             ·go_simp
              rfl
             refine hK.out _ _ ?_
             clear hK K
             refine done_ (done_of HT_.out (by kernel_rfl)) ?_
             try go_wp2
             go_roundg kj8
             case measure => have := HK1.out; have := HJ8.out; omega
             case rel => exact ⟨(y409), (wrap64 (x14_1 + 1)), (by first | rfl | (simp; done) | (simp [*]; done)), H', ⟨by have := HK1.out; have := HJ8.out; omega⟩, ⟨by (with_reducible repeat (first | apply Kd.R_alloc | apply Kd.R_drewN | apply Kd.R_drew)); exact HQ31.out⟩, ⟨by repeat (first | (with_reducible first | exact HB.out | apply below_alloc | apply pw_below_drewN | apply below_drew1 | refine below_set ?_ GB29.out | refine below_set ?_ GE399.out) | exact HB.out)⟩⟩
            ·rw [if_neg c27] at H
             exact absurd H (by simp)
           ·rw [if_neg c26] at H
            exact absurd H (by simp)
          ·rw [if_neg c24] at H
           have c24b0 : (((rd_T80 l1 x14_1).f0) == 13) = false := beq_eq_false_iff_ne.mpr c24
           have c24b1 : (((rd_T80 l1 x14_1).f0) != 13) = true := bne_iff_ne.mpr c24
           by_cases c32 : ((rd_T80 l1 x14_1).f0) = 19
           ·rw [if_pos c32] at H
            have c32b0 : (((rd_T80 l1 x14_1).f0) == 19) = true := beq_iff_eq.mpr c32
            have c32b1 : (((rd_T80 l1 x14_1).f0) != 19) = false := bne_eq_false_iff_eq.mpr c32
            clear c32
            obtain ⟨ji33, hji33⟩ : ∃ j_ : Int, (wrap64 ((x7_1.length : Int) - 1)) = j_ := ⟨_, rfl⟩
            replace H : (if 0 ≤ (ji33) then (if (ji33) < (x7_1.length : Int) then (impl_valueOf.l0 kj8 a0 l2 (x7_1.set ((ji33) : Int).toNat (IntKind.u64.wrap (1 - (rd x7_1 (ji33))))) l1 (l1.length : Int) (wrap64 (x14_1 + 1))) else (none)) else (none)) = some r := by first | (rw [hji33] at H; exact H) | (simp only [hji33] at H ⊢; exact H)
            have hji33w : (IntKind.i64.wrap ((x7_1.length : Int) - 1)) = ji33 := (i64_w _).trans hji33
            by_cases c34 : 0 ≤ (ji33)
            ·rw [if_pos c34] at H
             have c34b0 : decide (0 ≤ (ji33)) = true := decide_eq_true c34
             clear c34
             by_cases c35 : (ji33) < (x7_1.length : Int)
             ·rw [if_pos c35] at H
              have c35b0 : decide ((ji33) < (x7_1.length : Int)) = true := decide_eq_true c35
              clear c35
              obtain ⟨y411, hy411⟩ : ∃ y_ : List Int, y_ = (x7_1.set ((ji33) : Int).toNat (IntKind.u64.wrap (1 - (rd x7_1 (ji33))))) := ⟨_, rfl⟩
              replace H : (impl_valueOf.l0 kj8 a0 l2 y411 l1 (l1.length : Int) (wrap64 (x14_1 + 1))) = some r := by first | (rw [hy411]; with_reducible exact H) | (have H2_ := (Option.bind_some _ _).symm.trans H; rw [hy411]; with_reducible exact H2_) | (have H2_ := (Option.bind_some _ _).symm.trans H; with_reducible exact H2_) | with_reducible exact H | (rw [hy411]; exact H) | exact H
              have Ny411 := am_ hy411
              clear hy411
              have H' := am_ H
              clear H
              have p410 : 0 ≤ ((ji33) : Int) := of_decide_eq_true (by first | (with_reducible assumption) | assumption)
              have q410 : (ji33) < (x7_1.length : Int) := of_decide_eq_true (by first | (with_reducible assumption) | assumption)
              obtain ⟨ad410, e410, hx410_0⟩ := Kd.at_int (Kd.R_reads' HO_7.out).2.2 (ji33) p410 q410
              cases e410
              replace p410 := eq_true p410
              replace q410 := eq_true q410
              have p36 : 0 ≤ ((ji33) : Int) := of_decide_eq_true (by first | (with_reducible assumption) | assumption)
              have q36 : ((ji33) : Int) < ((x7_1.length : Int) : Int) := of_decide_eq_true (by first | (with_reducible assumption) | assumption)
              obtain ⟨go36, co36, eo36, gb36, gl36, cl36, HG36⟩ := Kd.R_form HO_7.out (by omega)
              (first | cases eo36 | (injection eo36 with ea_ en_ ec_; (first | subst ea_ | (injection ea_ with ea_; subst ea_)); subst ec_; clear en_))
              have GB36 := am_ gb36
              have GG36 := am_ HG36
              clear gb36 gl36 HG36
              (first | simp only [add_plain] at hx410_0 | skip)
              obtain ⟨hx36_0, hf36_0⟩ := Kd.R_celln 0 HO_7.out ((ji33) : Int) p36 q36
              replace p36 := eq_true p36
              replace q36 := eq_true q36
              have HP37 := Kd.R_putg HO_7.out ((ji33) : Int) (IntKind.u64.wrap (1 - (rd x7_1 (ji33))))
              go_wp2_with (first | ((with_reducible refine gate_store (t := 61) (p := 82) rfl ?_); refine store_event (t := 61) (p := 82) (v := ?vo_w38) (w1 := (wc.setCell ⟨go36, ((ji33) : Int).toNat, none⟩ (.int .u64 (IntKind.u64.wrap (1 - (rd x7_1 (ji33))))))) ?hg ?ho ?hn ?hr ?_; (case ho => rfl); (case hg => rfl); (case hn => rfl); (case hr => first | (go_simp; done) | (go_simp; rfl)); intro w38 hw; have hg : wc.grownBy w38 (some go36) := (by rw [hw]; exact HP37.2); have hp_ : Kd.R (Kd.int .u64) 61 w38 w.heap.size (fun _ => True) (.slice (some ⟨go36, 0, none⟩) x7_1.length co12) y411 := (by rw [hw, Ny411.out]; exact HP37.1); clear HP37; have n0_ := am_ (hp_); have n1_ := am_ (blk_grown (g := gb399) (o := .cells #[.int .i64 ((rd_T80 l1 x14_1).f0), .int .u64 ((rd_T80 l1 x14_1).f1)] 80 (0, 0)) (by (with_reducible repeat (first | refine blk_drewN ?_ _ | refine blk_drew ?_ | refine blk_alloc ?_ _)); exact BK399.out) hg (Kd.R_ne HO_7.out BK399.out (by decide))); have n2_ := am_ ((by rw [hw]; exact below_set (HB.out) GB36.out : Below w.heap.size w w38)); clear HO_7; clear BK399; clear HB; have HO_7 := n0_; have BK399 := n1_; have HB := n2_; clear n0_ n1_ n2_; clear hg hw hp_))
              go_roundg kj8
              case measure => have := HK1.out; have := HJ8.out; omega
              case rel => exact ⟨(y411), (wrap64 (x14_1 + 1)), (by first | rfl | (simp; done) | (simp [*]; done)), H', ⟨by have := HK1.out; have := HJ8.out; omega⟩, ⟨by (with_reducible repeat (first | apply Kd.R_alloc | apply Kd.R_drewN | apply Kd.R_drew)); exact HO_7.out⟩, ⟨by repeat (first | (with_reducible first | exact HB.out | apply below_alloc | apply pw_below_drewN | apply below_drew1 | refine below_set ?_ GE399.out) | exact HB.out)⟩⟩
             ·rw [if_neg c35] at H
              exact absurd H (by simp)
            ·rw [if_neg c34] at H
             exact absurd H (by simp)
           ·rw [if_neg c32] at H
            have c32b0 : (((rd_T80 l1 x14_1).f0) == 19) = false := beq_eq_false_iff_ne.mpr c32
            have c32b1 : (((rd_T80 l1 x14_1).f0) != 19) = true := bne_iff_ne.mpr c32
            obtain ⟨ji39, hji39⟩ : ∃ j_ : Int, (wrap64 ((wrap64 ((x7_1.length : Int) - 1)) - 1)) = j_ := ⟨_, rfl⟩
            replace H : (if 0 ≤ (ji39) then (if (ji39) < (x7_1.length : Int) then (if 0 ≤ (wrap64 ((x7_1.length : Int) - 1)) then (if (wrap64 ((x7_1.length : Int) - 1)) < (x7_1.length : Int) then (if (ji39) ≤ (x7_1.length : Int) then ((some (x7_1.take ((ji39) : Int).toNat : List Int)).bind fun y414 => ((impl_apply.f kj8 a0 ((rd_T80 l1 x14_1).f0) (rd x7_1 (ji39)) (rd x7_1 (wrap64 ((x7_1.length : Int) - 1)))).bind fun t417 => (if y414.length < 17592186044416 then (impl_valueOf.l0 kj8 a0 l2 (y414 ++ [t417]) l1 (l1.length : Int) (wrap64 (x14_1 + 1))) else (none)))) else (none)) else (none)) else (none)) else (none)) else (none)) = some r := by first | (rw [hji39] at H; exact H) | (simp only [hji39] at H ⊢; exact H)
            have hji39w : (IntKind.i64.wrap ((wrap64 ((x7_1.length : Int) - 1)) - 1)) = ji39 := (i64_w _).trans hji39
            by_cases c40 : 0 ≤ (ji39)
            ·rw [if_pos c40] at H
             have c40b0 : decide (0 ≤ (ji39)) = true := decide_eq_true c40
             clear c40
             by_cases c41 : (ji39) < (x7_1.length : Int)
             ·rw [if_pos c41] at H
              have c41b0 : decide ((ji39) < (x7_1.length : Int)) = true := decide_eq_true c41
              clear c41
              obtain ⟨ji42, hji42⟩ : ∃ j_ : Int, (wrap64 ((x7_1.length : Int) - 1)) = j_ := ⟨_, rfl⟩
              have hjx39_42 := hji39; (try rw [hji42] at hjx39_42)
              replace H : (if 0 ≤ (ji42) then (if (ji42) < (x7_1.length : Int) then (if (ji39) ≤ (x7_1.length : Int) then ((some (x7_1.take ((ji39) : Int).toNat : List Int)).bind fun y414 => ((impl_apply.f kj8 a0 ((rd_T80 l1 x14_1).f0) (rd x7_1 (ji39)) (rd x7_1 (ji42))).bind fun t417 => (if y414.length < 17592186044416 then (impl_valueOf.l0 kj8 a0 l2 (y414 ++ [t417]) l1 (l1.length : Int) (wrap64 (x14_1 + 1))) else (none)))) else (none)) else (none)) else (none)) = some r := by first | (rw [hji42] at H; exact H) | (simp only [hji42] at H ⊢; exact H)
              have hji42w : (IntKind.i64.wrap ((x7_1.length : Int) - 1)) = ji42 := (i64_w _).trans hji42
              by_cases c43 : 0 ≤ (ji42)
              ·rw [if_pos c43] at H
               have c43b0 : decide (0 ≤ (ji42)) = true := decide_eq_true c43
               clear c43
               by_cases c44 : (ji42) < (x7_1.length : Int)
               ·rw [if_pos c44] at H
                have c44b0 : decide ((ji42) < (x7_1.length : Int)) = true := decide_eq_true c44
                clear c44
                by_cases c45 : (ji39) ≤ (x7_1.length : Int)
                ·rw [if_pos c45] at H
                 have c45b0 := eq_true c45
                 have c45b1 : decide ((ji39) ≤ (x7_1.length : Int)) = true := decide_eq_true c45
                 clear c45
                 obtain ⟨y414, hy414⟩ : ∃ y_ : List Int, y_ = (x7_1.take ((ji39) : Int).toNat) := ⟨_, rfl⟩
                 replace H : ((impl_apply.f kj8 a0 ((rd_T80 l1 x14_1).f0) (rd x7_1 (ji39)) (rd x7_1 (ji42))).bind fun t417 => (if y414.length < 17592186044416 then (impl_valueOf.l0 kj8 a0 l2 (y414 ++ [t417]) l1 (l1.length : Int) (wrap64 (x14_1 + 1))) else (none))) = some r := by first | (rw [hy414]; with_reducible exact H) | (have H2_ := (Option.bind_some _ _).symm.trans H; rw [hy414]; with_reducible exact H2_) | (have H2_ := (Option.bind_some _ _).symm.trans H; with_reducible exact H2_) | with_reducible exact H | (rw [hy414]; exact H) | exact H
                 have Ny414 := am_ hy414
                 clear hy414
                 replace H := Option.bind_eq_some_iff.mp H
                 obtain ⟨t417, A460, H⟩ := H
                 replace H : (if y414.length < 17592186044416 then (impl_valueOf.l0 kj8 a0 l2 (y414 ++ [t417]) l1 (l1.length : Int) (wrap64 (x14_1 + 1))) else (none)) = some r := H
                 have A46 := am_ A460
                 clear A460
                 by_cases c47 : y414.length < 17592186044416
                 ·rw [if_pos c47] at H
                  have LMc47 := am_ c47
                  clear c47
                  obtain ⟨y418, hy418⟩ : ∃ y_ : List Int, y_ = (y414 ++ [t417]) := ⟨_, rfl⟩
                  replace H : (impl_valueOf.l0 kj8 a0 l2 y418 l1 (l1.length : Int) (wrap64 (x14_1 + 1))) = some r := by first | (rw [hy418]; with_reducible exact H) | (have H2_ := (Option.bind_some _ _).symm.trans H; rw [hy418]; with_reducible exact H2_) | (have H2_ := (Option.bind_some _ _).symm.trans H; with_reducible exact H2_) | with_reducible exact H | (rw [hy418]; exact H) | exact H
                  have Ny418 := am_ hy418
                  clear hy418
                  have H' := am_ H
                  clear H
                  try go_wp2
                  have n0_ := am_ (Kd.R_drew HO_7.out)
                  have n1_ := am_ (blk_drew BK399.out)
                  have n2_ := am_ (below_drew1 HB.out)
                  clear HO_7
                  clear BK399
                  clear HB
                  have HO_7 := n0_
                  have BK399 := n1_
                  have HB := n2_
                  clear n0_ n1_ n2_
                  have p412 : 0 ≤ ((ji39) : Int) := of_decide_eq_true (by first | (with_reducible assumption) | assumption)
                  have q412 : (ji39) < (x7_1.length : Int) := of_decide_eq_true (by first | (with_reducible assumption) | assumption)
                  obtain ⟨ad412, e412, hx412_0⟩ := Kd.at_int (Kd.R_reads' HO_7.out).2.2 (ji39) p412 q412
                  cases e412
                  replace p412 := eq_true p412
                  replace q412 := eq_true q412
                  have p413 : 0 ≤ ((ji42) : Int) := of_decide_eq_true (by first | (with_reducible assumption) | assumption)
                  have q413 : (ji42) < (x7_1.length : Int) := of_decide_eq_true (by first | (with_reducible assumption) | assumption)
                  obtain ⟨ad413, e413, hx413_0⟩ := Kd.at_int (Kd.R_reads' HO_7.out).2.2 (ji42) p413 q413
                  obtain rfl : ad412 = ad413 := (by injection e413)
                  replace p413 := eq_true p413
                  replace q413 := eq_true q413
                  have q49 : ((ji39) : Int) ≤ ((x7_1.length : Int) : Int) := of_decide_eq_true (by first | (with_reducible assumption) | assumption)
                  obtain ⟨i049, hi049, _, hsz49, _⟩ := info_parts info61
                  have hcut49 := cut_to (P := Try.prog) 26 61 .i64 Try.underlying26 hi049 (some ad412) x7_1.length co12 (ji39) (of_decide_eq_true (by first | (with_reducible assumption) | assumption)) q49 (Kd.R_reads' HO_7.out).2.1
                  have hr49 := Kd.R_take (m := ((ji39) : Int).toNat) HO_7.out (by omega)
                  have hy49 : y414.length = ((ji39) : Int).toNat := (by rw [Ny414.out, List.length_take]; omega)
                  rw [← Ny414.out] at hr49
                  rw [← hy49] at hr49 hcut49
                  clear hy49 hi049 hsz49 HO_7
                  have HO416 := am_ hr49
                  clear hr49
                  replace q49 := eq_true q49
                  refine start_ (n := 20) (S := fun w' => w'.cell? ⟨gb399, 0, none⟩ = some (.int .i64 ((rd_T80 l1 x14_1).f0)) ∧ w'.cell? ⟨gb399, 1, none⟩ = some (.int .u64 ((rd_T80 l1 x14_1).f1)) ∧ w'.cell? (ad412.add ((ji39)).toNat) = some (.int .u64 (rd x7_1 (ji39))) ∧ w'.cell? (ad412.add ((ji42)).toNat) = some (.int .u64 (rd x7_1 (ji42)))) (ds := [17, 18]) #[false, false, false, false, false, false, false, false, false, false, false, false, false, false, false, false, false, false, false, false] (by kernel_rfl) rfl rfl ⟨(blk_cell BK399.out 0).trans rfl, (blk_cell BK399.out 1).trans rfl, hx412_0, hx413_0⟩ (fun hHeld => ?_); refine with_tabW impl_valueOf.tab7 impl_valueOf.bits7 (fun HT_ HW_ => ?_)
                  generalize wc.drew = w48 at HO_7 BK399 HB HO416 hx412_0 hx413_0 hHeld ⊢
                  refine Sh.pA 0 23 (Sh.pre 20 1) (any_of HT_.out (by kernel_rfl)) ?_ (ha := by simp only [Act.put, List.setIfInBounds_toArray, List.set_cons_zero, List.set_cons_succ, i64_w, i32_w, hji39, hjx39_42, hji42]; rfl)
                  refine Sh.pA 1 24 (Sh.pre 20 2) (any_of HT_.out (by kernel_rfl)) ?_ (ha := by simp only [Act.put, List.setIfInBounds_toArray, List.set_cons_zero, List.set_cons_succ, i64_w, i32_w, hji39, hjx39_42, hji42]; rfl)
                  refine Sh.pA 2 25 (Sh.pre 20 3) (any_of HT_.out (by kernel_rfl)) ?_ (ha := by simp only [Act.put, List.setIfInBounds_toArray, List.set_cons_zero, List.set_cons_succ, i64_w, i32_w, hji39, hjx39_42, hji42]; rfl)
                  refine Sh.pA 3 26 (Sh.pre 20 4) (any_of HT_.out (by kernel_rfl)) ?_ (ha := by simp only [Act.put, List.setIfInBounds_toArray, List.set_cons_zero, List.set_cons_succ, i64_w, i32_w, hji39, hjx39_42, hji42]; rfl)
                  refine Sh.pA 4 27 (Sh.pre 20 5) (any_of HT_.out (by kernel_rfl)) ?_ (ha := by simp only [Act.put, List.setIfInBounds_toArray, List.set_cons_zero, List.set_cons_succ, i64_w, i32_w, hji39, hjx39_42, hji42]; rfl)
                  refine Sh.pA 5 28 (Sh.pre 20 6) (any_of HT_.out (by kernel_rfl)) ?_ (ha := by simp only [Act.put, List.setIfInBounds_toArray, List.set_cons_zero, List.set_cons_succ, i64_w, i32_w, hji39, hjx39_42, hji42]; rfl)
                  refine Sh.pA 7 30 #[true, true, true, true, true, true, false, true, false, false, false, false, false, false, false, false, false, false, false, false] (any_of HT_.out (by kernel_rfl)) ?_ (ha := by simp only [Act.put, List.setIfInBounds_toArray, List.set_cons_zero, List.set_cons_succ, i64_w, i32_w, hji39, hjx39_42, hji42]; rfl)
                  refine Sh.pA 8 31 #[true, true, true, true, true, true, false, true, true, false, false, false, false, false, false, false, false, false, false, false] (any_of HT_.out (by kernel_rfl)) ?_ (ha := by simp only [Act.put, List.setIfInBounds_toArray, List.set_cons_zero, List.set_cons_succ, i64_w, i32_w, hji39, hjx39_42, hji42]; rfl)
                  refine Sh.pA 9 32 #[true, true, true, true, true, true, false, true, true, true, false, false, false, false, false, false, false, false, false, false] (any_of HT_.out (by kernel_rfl)) ?_ (ha := by simp only [Act.put, List.setIfInBounds_toArray, List.set_cons_zero, List.set_cons_succ, i64_w, i32_w, hji39, hjx39_42, hji42]; rfl)
                  refine Sh.pA 10 33 #[true, true, true, true, true, true, false, true, true, true, true, false, false, false, false, false, false, false, false, false] (any_of HT_.out (by kernel_rfl)) ?_ (ha := by simp only [Act.put, List.setIfInBounds_toArray, List.set_cons_zero, List.set_cons_succ, i64_w, i32_w, hji39, hjx39_42, hji42]; rfl)
                  refine Sh.pA 12 35 #[true, true, true, true, true, true, false, true, true, true, true, false, true, false, false, false, false, false, false, false] (any_of HT_.out (by kernel_rfl)) ?_ (ha := by simp only [Act.put, List.setIfInBounds_toArray, List.set_cons_zero, List.set_cons_succ, i64_w, i32_w, hji39, hjx39_42, hji42]; rfl)
                  refine Sh.pA 13 36 #[true, true, true, true, true, true, false, true, true, true, true, false, true, true, false, false, false, false, false, false] (any_of HT_.out (by kernel_rfl)) ?_ (ha := by simp only [Act.put, List.setIfInBounds_toArray, List.set_cons_zero, List.set_cons_succ, i64_w, i32_w, hji39, hjx39_42, hji42]; rfl)
                  refine Sh.pA 14 37 #[true, true, true, true, true, true, false, true, true, true, true, false, true, true, true, false, false, false, false, false] (any_of HT_.out (by kernel_rfl)) ?_ (ha := by simp only [Act.put, List.setIfInBounds_toArray, List.set_cons_zero, List.set_cons_succ, i64_w, i32_w, hji39, hjx39_42, hji42]; rfl)
                  refine Sh.tA 6 29 #[true, true, true, true, true, true, true, true, true, true, true, false, true, true, true, false, false, false, false, false] (take_ofW HT_.out HW_.out (by kernel_rfl)) hHeld ?_ (hy := by rintro w' ⟨s0, s1, s2, s3⟩; go_simp; with_reducible rfl) (ha := by simp only [Act.put, List.setIfInBounds_toArray, List.set_cons_zero, List.set_cons_succ, i64_w, i32_w, hji39, hjx39_42, hji42]; rfl)
                  refine Sh.tA 11 34 (Sh.pre 20 15) (take_ofW HT_.out HW_.out (by kernel_rfl)) hHeld ?_ (hy := by rintro w' ⟨s0, s1, s2, s3⟩; go_simp; with_reducible rfl) (ha := by simp only [Act.put, List.setIfInBounds_toArray, List.set_cons_zero, List.set_cons_succ, i64_w, i32_w, hji39, hjx39_42, hji42]; rfl)
                  refine Sh.tA 15 38 (Sh.pre 20 16) (take_ofW HT_.out HW_.out (by kernel_rfl)) hHeld ?_ (hy := by rintro w' ⟨s0, s1, s2, s3⟩; go_simp; with_reducible rfl) (ha := by simp only [Act.put, List.setIfInBounds_toArray, List.set_cons_zero, List.set_cons_succ, i64_w, i32_w, hji39, hjx39_42, hji42]; rfl)
                  refine one_ (i := 16) (N := some 39) #[true, true, true, true, true, true, true, true, true, true, true, true, true, true, true, true, true, false, false, false] rfl rfl (one_of HT_.out (by kernel_rfl)) (by decide) (fun K hK => ?_)
                  refine goes_ Try.func91 (by kernel_rfl) rfl #[.int .i64 a0, .int .i64 ((rd_T80 l1 x14_1).f0), .int .u64 (rd x7_1 (ji39)), .int .u64 (rd x7_1 (ji42))] (by rfl) rfl rfl (by (try simp only [List.map_toArray, List.map_cons, List.map_nil]); first | done | (simp only [hji39, hji42]; rfl) | rfl | (simp only [List.length_drop, List.length_take]; rfl)) ?_
                  with_reducible refine (impl_apply.calls kj8 a0 ((rd_T80 l1 x14_1).f0) (rd x7_1 (ji39)) (rd x7_1 (ji42)) t417 _ A46.out).mono ?_
                  rintro e w' ⟨rfl, ⟨nd, rfl⟩⟩
                  refine ⟨_, rfl, ?_⟩
                  refine hK.out _ _ ⟨(blk_cell BK399.out 0).trans rfl, (blk_cell BK399.out 1).trans rfl, hHeld.2.2.1, hHeld.2.2.2⟩ (fun hHeld => ?_)
                  clear hK K
                  refine norm_ (a' := ?_) ?_ ?_
                  rotate_left
                  ·show Act.put _ (some 39) _ = _
                   simp only [Act.put, List.setIfInBounds_toArray, List.set_cons_zero, List.set_cons_succ, i64_w, i32_w, hji39, hjx39_42, hji42]
                   rfl
                  refine last_ (i := 17) (N := some 40) #[true, true, true, true, true, true, true, true, true, true, true, true, true, true, true, true, true, true, false, false] rfl rfl (one_of HT_.out (by kernel_rfl)) (by decide) (fun K hK => ?_)
                  refine value_ (w1 := ?_) (v := ?_) (by rfl) rfl ?_ ?_
                  rotate_left 2
                  ·go_simp
                   constructor
                   ·rfl
                   ·rfl
                  refine hK.out _ _ ?_
                  clear hK K
                  refine norm_ (a' := ?_) ?_ ?_
                  rotate_left
                  ·show Act.put _ (some 40) _ = _
                   simp only [Act.put, List.setIfInBounds_toArray, List.set_cons_zero, List.set_cons_succ, i64_w, i32_w, hji39, hjx39_42, hji42]
                   rfl
                  refine last_ (i := 18) (N := some 41) #[true, true, true, true, true, true, true, true, true, true, true, true, true, true, true, true, true, true, true, false] rfl rfl (one_of HT_.out (by kernel_rfl)) (by decide) (fun K hK => ?_)
                  refine Kd.R_append_step (Kd.int .u64) (w0 := w) w.heap.size (by rfl) (.tmp 26) (.tmp 40) 26 61 (.int .u64 0) 8 rfl Try.underlying26 info61 rfl (by decide) (by omega) (.slice (some ad412) y414.length co12) y414 t417 [.int .u64 t417] (fun _ => True) (fun _ => False) rfl rfl ?aP (fun _ hk => hk.elim) ?aF ?aO ?aB ?aS ?aL ?_
                  (case aP => exact rfl)
                  (case aB => exact Sh.bw)
                  (case aF => exact (fun _ _ => trivial))
                  (case aO => exact (by (with_reducible repeat (first | apply Kd.R_alloc | apply Kd.R_drewN | apply Kd.R_drew)); exact HO416.out))
                  (case aS => exact (below_size Sh.bw))
                  (case aL => have := LMc47.out; omega)
                  intro v419 w50 ho hb hg hat
                  rw [← Ny418.out] at ho
                  have n0_ := am_ (blk_grown (g := gb399) (o := .cells #[.int .i64 ((rd_T80 l1 x14_1).f0), .int .u64 ((rd_T80 l1 x14_1).f1)] 80 (0, 0)) (by (with_reducible repeat (first | refine blk_drewN ?_ _ | refine blk_drew ?_ | refine blk_alloc ?_ _)); exact BK399.out) hg (Kd.R_ne HO416.out BK399.out (by decide)))
                  have n1_ := am_ (hb)
                  have n2_ := am_ (ho)
                  clear BK399
                  clear HB
                  clear HO416
                  have BK399 := n0_
                  have HB := n1_
                  have HO420 := n2_
                  clear n0_ n1_ n2_
                  clear ho hb hg hat
                  refine hK.out _ _ ?_
                  clear hK K
                  refine norm_ (a' := ?_) ?_ ?_
                  rotate_left
                  ·show Act.put _ (some 41) _ = _
                   simp only [Act.put, List.setIfInBounds_toArray, List.set_cons_zero, List.set_cons_succ, i64_w, i32_w, hji39, hjx39_42, hji42]
                   rfl
                  refine Sh.pA 19 7 (Sh.pre 20 20) (any_of HT_.out (by kernel_rfl)) ?_ (ha := by simp only [Act.put, List.setIfInBounds_toArray, List.set_cons_zero, List.set_cons_succ, i64_w, i32_w, hji39, hjx39_42, hji42]; rfl)
                  refine done_ (done_of HT_.out (by kernel_rfl)) ?_
                  try go_wp2
                  go_roundg kj8
                  case measure => have := HK1.out; have := HJ8.out; omega
                  case rel => exact ⟨(y418), (wrap64 (x14_1 + 1)), (by first | rfl | (simp; done) | (simp [*]; done)), H', ⟨by have := HK1.out; have := HJ8.out; omega⟩, ⟨by (with_reducible repeat (first | apply Kd.R_alloc | apply Kd.R_drewN | apply Kd.R_drew)); exact HO420.out⟩, ⟨by repeat (first | (with_reducible first | exact HB.out | apply below_alloc | apply pw_below_drewN | apply below_drew1 | refine below_set ?_ GE399.out) | exact HB.out)⟩⟩
                 ·rw [if_neg c47] at H
                  exact absurd H (by simp)
                ·rw [if_neg c45] at H
                 exact absurd H (by simp)
               ·rw [if_neg c44] at H
                exact absurd H (by simp)
              ·rw [if_neg c43] at H
               exact absurd H (by simp)
             ·rw [if_neg c41] at H
              exact absurd H (by simp)
            ·rw [if_neg c40] at H
             exact absurd H (by simp)
     ·rw [if_neg c8] at H
      exact absurd H (by simp)
    ·rw [if_neg c7] at H
     exact absurd H (by simp)
   ·rw [if_neg c6] at H
    have c6b0 : decide (x14_1 < (l1.length : Int)) = false := decide_eq_false c6
    clear c6
    by_cases c51 : 0 < (x7_1.length : Int)
    ·rw [if_pos c51] at H
     have c51b0 : decide (0 < (x7_1.length : Int)) = true := decide_eq_true c51
     have c51b1 : decide (0 < x7_1.length) = true := decide_eq_true (by omega)
     clear c51
     obtain rfl := Option.some.inj H
     obtain ⟨Ao52, co52, eo52⟩ := Kd.R_slice HO_7.out
     subst eo52
     have p397 : 0 ≤ (0 : Int) := (by omega)
     have q397 : 0 < (x7_1.length : Int) := of_decide_eq_true (by first | (with_reducible assumption) | assumption)
     obtain ⟨ad397, e397, hx397_0⟩ := Kd.at_int (Kd.R_reads' HO_7.out).2.2 0 p397 q397
     cases e397
     have qi397 : (0 < x7_1.length) = True := eq_true (by omega)
     (try rw [show ((0 : Int)).toNat = 0 from rfl] at hx397_0)
     (try rw [Addr.add_zero'] at hx397_0)
     replace p397 := eq_true p397
     replace q397 := eq_true q397
     go_wp2
     go_ret
     exact ⟨Sh.eR, Sh.bw⟩
    ·rw [if_neg c51] at H
     exact absurd H (by simp)

end Go.Proofs.Ytjnolbjaagmooaa.P
namespace Go.Proofs.Ytjnolbjaagmooaa.P
open Go.RowKit Go.Proofs.YtjnolbjaagmooaaW.PrintWords Go.Proofs.YtjnolbjaagmooaaW.PrintLast Go.Proofs.YtjnolbjaagmooaaW.PrintMore Go.Proofs.Ytjnolbjaagmooaa.Hof
attribute [local go_sem] max2_int min2_int max_two min_two max_three min_three max_four min_four   -- for this text's walks alone
set_option linter.unusedVariables false
set_option linter.unusedSimpArgs false

/-! ### impl_Program_holds: function 38 -/
def impl_Program_holds.f (k : Nat) (a0_0 : Int) (a0_1 : Int) (l0_2 : List (S80)) (l0_3 : List (S71)) (l1 : List (S80)) (l2 : List Int) : Option (Bool) := (impl_valueOf.f k a0_0 l1 l2).bind fun t422 => (some (t422 == 1))
theorem impl_Program_holds.mono : ∀ a0 a1 a2 a3 a4 a5 k, LeO (impl_Program_holds.f k a0 a1 a2 a3 a4 a5) (impl_Program_holds.f (k + 1) a0 a1 a2 a3 a4 a5) := by
 intro a0 a1 a2 a3 a4 a5 k
 unfold impl_Program_holds.f
 repeat' first
   | (with_reducible exact impl_valueOf.mono _ _ _ _)
   | (with_reducible exact LeO.refl _)
   | (with_reducible exact LeO.none _)
   | (with_reducible refine LeO.ite ?_ ?_)
   | (with_reducible refine LeO.bind ?_ (fun _ => ?_))
   | exact impl_valueOf.mono _ _ _ _
   | exact LeO.none _
   | refine LeO.ite ?_ ?_
   | refine LeO.bind ?_ (fun _ => ?_)
set_option maxHeartbeats 8000000 in
set_option maxRecDepth 100000 in
theorem impl_Program_holds.calls (k : Nat) (a0_0 : Int) (a0_1 : Int) (A0_2 : Option Addr) (c0_2 : Nat) (l0_2 : List (S80)) (A0_3 : Option Addr) (c0_3 : Nat) (l0_3 : List (S71)) (A1 : Option Addr) (c1 : Nat) (l1 : List (S80)) (A2 : Option Addr) (c2 : Nat) (l2 : List Int) (r : Bool) (w : World) (hr0_2 : Kd.C k80 w A0_2 l0_2.length l0_2) (hc0_2 : l0_2.length ≤ c0_2) (hr0_3 : Kd.C k71 w A0_3 l0_3.length l0_3) (hc0_3 : l0_3.length ≤ c0_3) (hr1 : Kd.C k80 w A1 l1.length l1) (hc1 : l1.length ≤ c1) (hr2 : Kd.C (Kd.int .u64) w A2 l2.length l2) (hc2 : l2.length ≤ c2) (h : impl_Program_holds.f k a0_0 a0_1 l0_2 l0_3 l1 l2 = some r) :
  Calls Try.prog 38 #[.agg #[.int .i64 a0_0, .int .i64 a0_1, .slice A0_2 l0_2.length c0_2, .slice A0_3 l0_3.length c0_3], .slice A1 l1.length c1, .slice A2 l2.length c2] w fun e w' => e = .returned (.bool r) ∧ Below w.heap.size w w' := by
 have hu33 := Try.underlying33
 have HR0_2 := am_ hr0_2
 have HC0_2 := am_ hc0_2
 clear hr0_2 hc0_2
 have HR0_3 := am_ hr0_3
 have HC0_3 := am_ hc0_3
 clear hr0_3 hc0_3
 have HR1 := am_ hr1
 have HC1 := am_ hc1
 clear hr1 hc1
 have HR2 := am_ hr2
 have HC2 := am_ hc2
 clear hr2 hc2
 have HB := am_ (Below.refl w.heap.size w)
 have H : ((impl_valueOf.f k a0_0 l1 l2).bind fun t422 => (some (t422 == 1))) = some r := h
 clear h
 replace H := Option.bind_eq_some_iff.mp H
 obtain ⟨t422, A40, H⟩ := H
 replace H : (some (t422 == 1)) = some r := H
 have A4 := am_ A40
 clear A40
 obtain rfl := Option.some.inj H
 go_enter Try.func38, Try.ntmps38
 go_wp2_with (first | ((with_reducible refine gate_dst (N := 3) rfl ?_); refine Sh.bx (N := 3) (cs := #[.int .i64 a0_0, .int .i64 a0_1, .slice A0_2 l0_2.length c0_2, .slice A0_3 l0_3.length c0_3]) (t := 33) (h := ?_); intro gb421 hg w5 hbox hb; have n0_ := am_ (below_step Sh.bw hb); have n1_ := am_ (hbox); have n2_ := am_ (Sh.gw (w := w) hg); have n3_ := am_ (Sh.gw (w := w) hg); clear HB; have HB := n0_; have BK421 := n1_; have GW421 := n2_; have GE421 := n3_; clear n0_ n1_ n2_ n3_; clear hb hbox hg; have hcz6_0 := Sh.bc BK421.out 0; have hcz6_1 := Sh.bc BK421.out 1; have hcz6_2 := Sh.bc BK421.out 2; have hcz6_3 := Sh.bc BK421.out 3; have hfz6_0 := blk_frozen BK421.out 0; have hfz6_1 := blk_frozen BK421.out 1; have hfz6_2 := blk_frozen BK421.out 2; have hfz6_3 := blk_frozen BK421.out 3) | ((with_reducible refine gate_callee (f := 67) rfl ?_); refine Sh.gL (some 11) Try.func67 #[.int .i64 a0_0, .slice A1 l1.length c1, .slice A2 l2.length c2] (h := ?_); (with_reducible refine (impl_valueOf.calls k a0_0 _ _ l1 _ _ l2 t422 _ (Sh.cB HR1.out) HC1.out (Sh.cB HR2.out) HC2.out A4.out).mono ?_); rintro e w7 ⟨rfl, hb⟩; refine ⟨_, rfl, ?_⟩; have n0_ := am_ (Sh.bb BK421.out hb); have n1_ := am_ (below_step Sh.bw hb); clear BK421; clear HB; have BK421 := n0_; have HB := n1_; clear n0_ n1_; (try clear hb); (try clear hb2); (try clear hk); (try clear hi)))
 go_ret
 exact ⟨Sh.eR, Sh.bw⟩

end Go.Proofs.Ytjnolbjaagmooaa.P
namespace Go.Proofs.Ytjnolbjaagmooaa.P
open Go.RowKit Go.Proofs.YtjnolbjaagmooaaW.PrintWords Go.Proofs.YtjnolbjaagmooaaW.PrintLast Go.Proofs.YtjnolbjaagmooaaW.PrintMore Go.Proofs.Ytjnolbjaagmooaa.Hof
attribute [local go_sem] max2_int min2_int max_two min_two max_three min_three max_four min_four   -- for this text's walks alone
set_option linter.unusedVariables false
set_option linter.unusedSimpArgs false

/-! ### spec_IsStart: function 9 -/
def spec_IsStart.f (k : Nat) (a0_0 : Int) (a0_1 : Int) (l0_2 : List (S80)) (l0_3 : List (S71)) (l1 : List Int) : Option (Bool × Bool) := (spec_GoodProgram.f k a0_0 a0_1 l0_2 l0_3).bind fun t475 => (if t475 = true then ((spec_l7State.f k a0_0 a0_1 l0_2 l0_3 l1).bind fun t476 => (if t476 = true then ((spec_l7Holds.f k a0_0 a0_1 l0_2 l0_3 l0_2 l1).bind fun t477 => (some (t477, true))) else (some (false, false)))) else (some (false, false)))
theorem spec_IsStart.mono : ∀ a0 a1 a2 a3 a4 k, LeO (spec_IsStart.f k a0 a1 a2 a3 a4) (spec_IsStart.f (k + 1) a0 a1 a2 a3 a4) := by
 intro a0 a1 a2 a3 a4 k
 unfold spec_IsStart.f
 repeat' first
   | (with_reducible exact spec_GoodProgram.mono _ _ _ _ _)
   | (with_reducible exact spec_l7Holds.mono _ _ _ _ _ _ _)
   | (with_reducible exact spec_l7State.mono _ _ _ _ _ _)
   | (with_reducible exact LeO.refl _)
   | (with_reducible exact LeO.none _)
   | (with_reducible refine LeO.ite ?_ ?_)
   | (with_reducible refine LeO.bind ?_ (fun _ => ?_))
   | exact spec_GoodProgram.mono _ _ _ _ _
   | exact spec_l7Holds.mono _ _ _ _ _ _ _
   | exact spec_l7State.mono _ _ _ _ _ _
   | exact LeO.none _
   | refine LeO.ite ?_ ?_
   | refine LeO.bind ?_ (fun _ => ?_)
set_option maxHeartbeats 8000000 in
set_option maxRecDepth 100000 in
theorem spec_IsStart.calls (k : Nat) (a0_0 : Int) (a0_1 : Int) (A0_2 : Option Addr) (c0_2 : Nat) (l0_2 : List (S80)) (A0_3 : Option Addr) (c0_3 : Nat) (l0_3 : List (S71)) (A1 : Option Addr) (c1 : Nat) (l1 : List Int) (r1 : Bool) (r2 : Bool) (w : World) (hr0_2 : Kd.C k80 w A0_2 l0_2.length l0_2) (hc0_2 : l0_2.length ≤ c0_2) (hr0_3 : Kd.C k71 w A0_3 l0_3.length l0_3) (hc0_3 : l0_3.length ≤ c0_3) (hr1 : Kd.C (Kd.int .u64) w A1 l1.length l1) (hc1 : l1.length ≤ c1) (h : spec_IsStart.f k a0_0 a0_1 l0_2 l0_3 l1 = some (r1, r2)) :
  Calls Try.prog 9 #[.agg #[.int .i64 a0_0, .int .i64 a0_1, .slice A0_2 l0_2.length c0_2, .slice A0_3 l0_3.length c0_3], .slice A1 l1.length c1] w fun e w' => e = .returned (.tuple #[.bool r1, .bool r2]) ∧ Below w.heap.size w w' := by
 have hu33 := Try.underlying33
 have HR0_2 := am_ hr0_2
 have HC0_2 := am_ hc0_2
 clear hr0_2 hc0_2
 have HR0_3 := am_ hr0_3
 have HC0_3 := am_ hc0_3
 clear hr0_3 hc0_3
 have HR1 := am_ hr1
 have HC1 := am_ hc1
 clear hr1 hc1
 have HB := am_ (Below.refl w.heap.size w)
 have H : ((spec_GoodProgram.f k a0_0 a0_1 l0_2 l0_3).bind fun t475 => (if t475 = true then ((spec_l7State.f k a0_0 a0_1 l0_2 l0_3 l1).bind fun t476 => (if t476 = true then ((spec_l7Holds.f k a0_0 a0_1 l0_2 l0_3 l0_2 l1).bind fun t477 => (some (t477, true))) else (some (false, false)))) else (some (false, false)))) = some (r1, r2) := h
 clear h
 replace H := Option.bind_eq_some_iff.mp H
 obtain ⟨t475, A30, H⟩ := H
 replace H : (if t475 = true then ((spec_l7State.f k a0_0 a0_1 l0_2 l0_3 l1).bind fun t476 => (if t476 = true then ((spec_l7Holds.f k a0_0 a0_1 l0_2 l0_3 l0_2 l1).bind fun t477 => (some (t477, true))) else (some (false, false)))) else (some (false, false))) = some (r1, r2) := H
 have A3 := am_ A30
 clear A30
 by_cases c4 : t475 = true
 ·subst c4
  have H1 : ((spec_l7State.f k a0_0 a0_1 l0_2 l0_3 l1).bind fun t476 => (if t476 = true then ((spec_l7Holds.f k a0_0 a0_1 l0_2 l0_3 l0_2 l1).bind fun t477 => (some (t477, true))) else (some (false, false)))) = some (r1, r2) := by rw [if_pos rfl] at H; exact H
  clear H
  have H := H1
  clear H1
  replace H := Option.bind_eq_some_iff.mp H
  obtain ⟨t476, A50, H⟩ := H
  replace H : (if t476 = true then ((spec_l7Holds.f k a0_0 a0_1 l0_2 l0_3 l0_2 l1).bind fun t477 => (some (t477, true))) else (some (false, false))) = some (r1, r2) := H
  have A5 := am_ A50
  clear A50
  by_cases c6 : t476 = true
  ·subst c6
   have H1 : ((spec_l7Holds.f k a0_0 a0_1 l0_2 l0_3 l0_2 l1).bind fun t477 => (some (t477, true))) = some (r1, r2) := by rw [if_pos rfl] at H; exact H
   clear H
   have H := H1
   clear H1
   replace H := Option.bind_eq_some_iff.mp H
   obtain ⟨t477, A70, H⟩ := H
   replace H : (some (t477, true)) = some (r1, r2) := H
   have A7 := am_ A70
   clear A70
   simp only [Option.some.injEq, Prod.mk.injEq] at H
   obtain ⟨rfl, rfl⟩ := H
   go_enter Try.func9, Try.ntmps9
   go_wp2_with (first | ((with_reducible refine gate_dst (N := 2) rfl ?_); refine Sh.bx (N := 2) (cs := #[.int .i64 a0_0, .int .i64 a0_1, .slice A0_2 l0_2.length c0_2, .slice A0_3 l0_3.length c0_3]) (t := 33) (h := ?_); intro gb474 hg w8 hbox hb; have n0_ := am_ (below_step Sh.bw hb); have n1_ := am_ (hbox); have n2_ := am_ (Sh.gw (w := w) hg); have n3_ := am_ (Sh.gw (w := w) hg); clear HB; have HB := n0_; have BK474 := n1_; have GW474 := n2_; have GE474 := n3_; clear n0_ n1_ n2_ n3_; clear hb hbox hg; have hcz9_0 := Sh.bc BK474.out 0; have hcz9_1 := Sh.bc BK474.out 1; have hcz9_2 := Sh.bc BK474.out 2; have hcz9_3 := Sh.bc BK474.out 3; have hfz9_0 := blk_frozen BK474.out 0; have hfz9_1 := blk_frozen BK474.out 1; have hfz9_2 := blk_frozen BK474.out 2; have hfz9_3 := blk_frozen BK474.out 3) | ((with_reducible refine gate_callee (f := 33) rfl ?_); refine Sh.gL (some 7) Try.func33 #[.agg #[.int .i64 a0_0, .int .i64 a0_1, .slice A0_2 l0_2.length c0_2, .slice A0_3 l0_3.length c0_3]] (h := ?_); (with_reducible refine (spec_GoodProgram.calls k a0_0 a0_1 _ _ l0_2 _ _ l0_3 true _ (Sh.cB HR0_2.out) HC0_2.out (Sh.cB HR0_3.out) HC0_3.out A3.out).mono ?_); rintro e w10 ⟨rfl, hb⟩; refine ⟨_, rfl, ?_⟩; have n0_ := am_ (Sh.bb BK474.out hb); have n1_ := am_ (below_step Sh.bw hb); clear BK474; clear HB; have BK474 := n0_; have HB := n1_; clear n0_ n1_; (try clear hb); (try clear hb2); (try clear hk); (try clear hi); have hcz11_0 := Sh.bc BK474.out 0; have hcz11_1 := Sh.bc BK474.out 1; have hcz11_2 := Sh.bc BK474.out 2; have hcz11_3 := Sh.bc BK474.out 3; have hfz11_0 := blk_frozen BK474.out 0; have hfz11_1 := blk_frozen BK474.out 1; have hfz11_2 := blk_frozen BK474.out 2; have hfz11_3 := blk_frozen BK474.out 3) | (go_at_call 34; (with_reducible refine (spec_l7State.calls k a0_0 a0_1 _ _ l0_2 _ _ l0_3 _ _ l1 true _ (Sh.cB HR0_2.out) HC0_2.out (Sh.cB HR0_3.out) HC0_3.out (Sh.cB HR1.out) HC1.out A5.out).mono ?_); rintro e w12 ⟨rfl, hb⟩; have n0_ := am_ (Sh.bb BK474.out hb); have n1_ := am_ (below_step Sh.bw hb); clear BK474; clear HB; have BK474 := n0_; have HB := n1_; clear n0_ n1_; (try clear hb); (try clear hb2); (try clear hk); (try clear hi); have hcz13_0 := Sh.bc BK474.out 0; have hcz13_1 := Sh.bc BK474.out 1; have hcz13_2 := Sh.bc BK474.out 2; have hcz13_3 := Sh.bc BK474.out 3; have hfz13_0 := blk_frozen BK474.out 0; have hfz13_1 := blk_frozen BK474.out 1; have hfz13_2 := blk_frozen BK474.out 2; have hfz13_3 := blk_frozen BK474.out 3) | ((with_reducible refine gate_callee (f := 35) rfl ?_); refine Sh.gL (some 19) Try.func35 #[.agg #[.int .i64 a0_0, .int .i64 a0_1, .slice A0_2 l0_2.length c0_2, .slice A0_3 l0_3.length c0_3], .slice A0_2 l0_2.length c0_2, .slice A1 l1.length c1] (h := ?_); (with_reducible refine (spec_l7Holds.calls k a0_0 a0_1 _ _ l0_2 _ _ l0_3 _ _ l0_2 _ _ l1 t477 _ (Sh.cB HR0_2.out) HC0_2.out (Sh.cB HR0_3.out) HC0_3.out (Sh.cB HR0_2.out) HC0_2.out (Sh.cB HR1.out) HC1.out A7.out).mono ?_); rintro e w14 ⟨rfl, hb⟩; refine ⟨_, rfl, ?_⟩; have n0_ := am_ (Sh.bb BK474.out hb); have n1_ := am_ (below_step Sh.bw hb); clear BK474; clear HB; have BK474 := n0_; have HB := n1_; clear n0_ n1_; (try clear hb); (try clear hb2); (try clear hk); (try clear hi)))
   go_ret2
   exact ⟨Sh.eR, Sh.bw⟩
  ·replace c6 := Bool.eq_false_iff.mpr c6
   subst c6
   have H1 : (some (false, false)) = some (r1, r2) := by rw [if_neg (show ¬ (false = true) by decide)] at H; exact H
   clear H
   have H := H1
   clear H1
   simp only [Option.some.injEq, Prod.mk.injEq] at H
   obtain ⟨rfl, rfl⟩ := H
   go_enter Try.func9, Try.ntmps9
   go_wp2_with (first | ((with_reducible refine gate_dst (N := 2) rfl ?_); refine Sh.bx (N := 2) (cs := #[.int .i64 a0_0, .int .i64 a0_1, .slice A0_2 l0_2.length c0_2, .slice A0_3 l0_3.length c0_3]) (t := 33) (h := ?_); intro gb474 hg w15 hbox hb; have n0_ := am_ (below_step Sh.bw hb); have n1_ := am_ (hbox); have n2_ := am_ (Sh.gw (w := w) hg); have n3_ := am_ (Sh.gw (w := w) hg); clear HB; have HB := n0_; have BK474 := n1_; have GW474 := n2_; have GE474 := n3_; clear n0_ n1_ n2_ n3_; clear hb hbox hg; have hcz16_0 := Sh.bc BK474.out 0; have hcz16_1 := Sh.bc BK474.out 1; have hcz16_2 := Sh.bc BK474.out 2; have hcz16_3 := Sh.bc BK474.out 3; have hfz16_0 := blk_frozen BK474.out 0; have hfz16_1 := blk_frozen BK474.out 1; have hfz16_2 := blk_frozen BK474.out 2; have hfz16_3 := blk_frozen BK474.out 3) | ((with_reducible refine gate_callee (f := 33) rfl ?_); refine Sh.gL (some 7) Try.func33 #[.agg #[.int .i64 a0_0, .int .i64 a0_1, .slice A0_2 l0_2.length c0_2, .slice A0_3 l0_3.length c0_3]] (h := ?_); (with_reducible refine (spec_GoodProgram.calls k a0_0 a0_1 _ _ l0_2 _ _ l0_3 true _ (Sh.cB HR0_2.out) HC0_2.out (Sh.cB HR0_3.out) HC0_3.out A3.out).mono ?_); rintro e w17 ⟨rfl, hb⟩; refine ⟨_, rfl, ?_⟩; have n0_ := am_ (Sh.bb BK474.out hb); have n1_ := am_ (below_step Sh.bw hb); clear BK474; clear HB; have BK474 := n0_; have HB := n1_; clear n0_ n1_; (try clear hb); (try clear hb2); (try clear hk); (try clear hi); have hcz18_0 := Sh.bc BK474.out 0; have hcz18_1 := Sh.bc BK474.out 1; have hcz18_2 := Sh.bc BK474.out 2; have hcz18_3 := Sh.bc BK474.out 3; have hfz18_0 := blk_frozen BK474.out 0; have hfz18_1 := blk_frozen BK474.out 1; have hfz18_2 := blk_frozen BK474.out 2; have hfz18_3 := blk_frozen BK474.out 3) | (go_at_call 34; (with_reducible refine (spec_l7State.calls k a0_0 a0_1 _ _ l0_2 _ _ l0_3 _ _ l1 false _ (Sh.cB HR0_2.out) HC0_2.out (Sh.cB HR0_3.out) HC0_3.out (Sh.cB HR1.out) HC1.out A5.out).mono ?_); rintro e w19 ⟨rfl, hb⟩; have n0_ := am_ (Sh.bb BK474.out hb); have n1_ := am_ (below_step Sh.bw hb); clear BK474; clear HB; have BK474 := n0_; have HB := n1_; clear n0_ n1_; (try clear hb); (try clear hb2); (try clear hk); (try clear hi)))
   go_ret2
   exact ⟨Sh.eR, Sh.bw⟩
 ·replace c4 := Bool.eq_false_iff.mpr c4
  subst c4
  have H1 : (some (false, false)) = some (r1, r2) := by rw [if_neg (show ¬ (false = true) by decide)] at H; exact H
  clear H
  have H := H1
  clear H1
  simp only [Option.some.injEq, Prod.mk.injEq] at H
  obtain ⟨rfl, rfl⟩ := H
  go_enter Try.func9, Try.ntmps9
  go_wp2_with (first | ((with_reducible refine gate_dst (N := 2) rfl ?_); refine Sh.bx (N := 2) (cs := #[.int .i64 a0_0, .int .i64 a0_1, .slice A0_2 l0_2.length c0_2, .slice A0_3 l0_3.length c0_3]) (t := 33) (h := ?_); intro gb474 hg w20 hbox hb; have n0_ := am_ (below_step Sh.bw hb); have n1_ := am_ (hbox); have n2_ := am_ (Sh.gw (w := w) hg); have n3_ := am_ (Sh.gw (w := w) hg); clear HB; have HB := n0_; have BK474 := n1_; have GW474 := n2_; have GE474 := n3_; clear n0_ n1_ n2_ n3_; clear hb hbox hg; have hcz21_0 := Sh.bc BK474.out 0; have hcz21_1 := Sh.bc BK474.out 1; have hcz21_2 := Sh.bc BK474.out 2; have hcz21_3 := Sh.bc BK474.out 3; have hfz21_0 := blk_frozen BK474.out 0; have hfz21_1 := blk_frozen BK474.out 1; have hfz21_2 := blk_frozen BK474.out 2; have hfz21_3 := blk_frozen BK474.out 3) | ((with_reducible refine gate_callee (f := 33) rfl ?_); refine Sh.gL (some 7) Try.func33 #[.agg #[.int .i64 a0_0, .int .i64 a0_1, .slice A0_2 l0_2.length c0_2, .slice A0_3 l0_3.length c0_3]] (h := ?_); (with_reducible refine (spec_GoodProgram.calls k a0_0 a0_1 _ _ l0_2 _ _ l0_3 false _ (Sh.cB HR0_2.out) HC0_2.out (Sh.cB HR0_3.out) HC0_3.out A3.out).mono ?_); rintro e w22 ⟨rfl, hb⟩; refine ⟨_, rfl, ?_⟩; have n0_ := am_ (Sh.bb BK474.out hb); have n1_ := am_ (below_step Sh.bw hb); clear BK474; clear HB; have BK474 := n0_; have HB := n1_; clear n0_ n1_; (try clear hb); (try clear hb2); (try clear hk); (try clear hi)))
  go_ret2
  exact ⟨Sh.eR, Sh.bw⟩

end Go.Proofs.Ytjnolbjaagmooaa.P
namespace Go.Proofs.Ytjnolbjaagmooaa.P
open Go.RowKit Go.Proofs.YtjnolbjaagmooaaW.PrintWords Go.Proofs.YtjnolbjaagmooaaW.PrintLast Go.Proofs.YtjnolbjaagmooaaW.PrintMore Go.Proofs.Ytjnolbjaagmooaa.Hof
attribute [local go_sem] max2_int min2_int max_two min_two max_three min_three max_four min_four   -- for this text's walks alone
set_option linter.unusedVariables false
set_option linter.unusedSimpArgs false

/-! ### impl_IsStart: function 12 -/
def impl_IsStart.f (k : Nat) (a0_0 : Int) (a0_1 : Int) (l0_2 : List (S80)) (l0_3 : List (S71)) (l1 : List Int) : Option (Bool × Bool) := (impl_isStateOf.f k a0_0 a0_1 l0_2 l0_3 l1).bind fun t479 => (if t479 = true then ((impl_Program_holds.f k a0_0 a0_1 l0_2 l0_3 l0_2 l1).bind fun t480 => (some (t480, true))) else (some (false, false)))
theorem impl_IsStart.mono : ∀ a0 a1 a2 a3 a4 k, LeO (impl_IsStart.f k a0 a1 a2 a3 a4) (impl_IsStart.f (k + 1) a0 a1 a2 a3 a4) := by
 intro a0 a1 a2 a3 a4 k
 unfold impl_IsStart.f
 repeat' first
   | (with_reducible exact impl_Program_holds.mono _ _ _ _ _ _ _)
   | (with_reducible exact impl_isStateOf.mono _ _ _ _ _ _)
   | (with_reducible exact LeO.refl _)
   | (with_reducible exact LeO.none _)
   | (with_reducible refine LeO.ite ?_ ?_)
   | (with_reducible refine LeO.bind ?_ (fun _ => ?_))
   | exact impl_Program_holds.mono _ _ _ _ _ _ _
   | exact impl_isStateOf.mono _ _ _ _ _ _
   | exact LeO.none _
   | refine LeO.ite ?_ ?_
   | refine LeO.bind ?_ (fun _ => ?_)
set_option maxHeartbeats 8000000 in
set_option maxRecDepth 100000 in
theorem impl_IsStart.calls (k : Nat) (a0_0 : Int) (a0_1 : Int) (A0_2 : Option Addr) (c0_2 : Nat) (l0_2 : List (S80)) (A0_3 : Option Addr) (c0_3 : Nat) (l0_3 : List (S71)) (A1 : Option Addr) (c1 : Nat) (l1 : List Int) (r1 : Bool) (r2 : Bool) (w : World) (hr0_2 : Kd.C k80 w A0_2 l0_2.length l0_2) (hc0_2 : l0_2.length ≤ c0_2) (hr0_3 : Kd.C k71 w A0_3 l0_3.length l0_3) (hc0_3 : l0_3.length ≤ c0_3) (hr1 : Kd.C (Kd.int .u64) w A1 l1.length l1) (hc1 : l1.length ≤ c1) (h : impl_IsStart.f k a0_0 a0_1 l0_2 l0_3 l1 = some (r1, r2)) :
  Calls Try.prog 12 #[.agg #[.int .i64 a0_0, .int .i64 a0_1, .slice A0_2 l0_2.length c0_2, .slice A0_3 l0_3.length c0_3], .slice A1 l1.length c1] w fun e w' => e = .returned (.tuple #[.bool r1, .bool r2]) ∧ Below w.heap.size w w' := by
 have hu33 := Try.underlying33
 have HR0_2 := am_ hr0_2
 have HC0_2 := am_ hc0_2
 clear hr0_2 hc0_2
 have HR0_3 := am_ hr0_3
 have HC0_3 := am_ hc0_3
 clear hr0_3 hc0_3
 have HR1 := am_ hr1
 have HC1 := am_ hc1
 clear hr1 hc1
 have HB := am_ (Below.refl w.heap.size w)
 have H : ((impl_isStateOf.f k a0_0 a0_1 l0_2 l0_3 l1).bind fun t479 => (if t479 = true then ((impl_Program_holds.f k a0_0 a0_1 l0_2 l0_3 l0_2 l1).bind fun t480 => (some (t480, true))) else (some (false, false)))) = some (r1, r2) := h
 clear h
 replace H := Option.bind_eq_some_iff.mp H
 obtain ⟨t479, A30, H⟩ := H
 replace H : (if t479 = true then ((impl_Program_holds.f k a0_0 a0_1 l0_2 l0_3 l0_2 l1).bind fun t480 => (some (t480, true))) else (some (false, false))) = some (r1, r2) := H
 have A3 := am_ A30
 clear A30
 by_cases c4 : t479 = true
 ·subst c4
  have H1 : ((impl_Program_holds.f k a0_0 a0_1 l0_2 l0_3 l0_2 l1).bind fun t480 => (some (t480, true))) = some (r1, r2) := by rw [if_pos rfl] at H; exact H
  clear H
  have H := H1
  clear H1
  replace H := Option.bind_eq_some_iff.mp H
  obtain ⟨t480, A50, H⟩ := H
  replace H : (some (t480, true)) = some (r1, r2) := H
  have A5 := am_ A50
  clear A50
  simp only [Option.some.injEq, Prod.mk.injEq] at H
  obtain ⟨rfl, rfl⟩ := H
  go_enter Try.func12, Try.ntmps12
  go_wp2_with (first | ((with_reducible refine gate_dst (N := 2) rfl ?_); refine Sh.bx (N := 2) (cs := #[.int .i64 a0_0, .int .i64 a0_1, .slice A0_2 l0_2.length c0_2, .slice A0_3 l0_3.length c0_3]) (t := 33) (h := ?_); intro gb478 hg w6 hbox hb; have n0_ := am_ (below_step Sh.bw hb); have n1_ := am_ (hbox); have n2_ := am_ (Sh.gw (w := w) hg); have n3_ := am_ (Sh.gw (w := w) hg); clear HB; have HB := n0_; have BK478 := n1_; have GW478 := n2_; have GE478 := n3_; clear n0_ n1_ n2_ n3_; clear hb hbox hg; have hcz7_0 := Sh.bc BK478.out 0; have hcz7_1 := Sh.bc BK478.out 1; have hcz7_2 := Sh.bc BK478.out 2; have hcz7_3 := Sh.bc BK478.out 3; have hfz7_0 := blk_frozen BK478.out 0; have hfz7_1 := blk_frozen BK478.out 1; have hfz7_2 := blk_frozen BK478.out 2; have hfz7_3 := blk_frozen BK478.out 3) | ((with_reducible refine gate_callee (f := 37) rfl ?_); refine Sh.gL (some 8) Try.func37 #[.agg #[.int .i64 a0_0, .int .i64 a0_1, .slice A0_2 l0_2.length c0_2, .slice A0_3 l0_3.length c0_3], .slice A1 l1.length c1] (h := ?_); (with_reducible refine (impl_isStateOf.calls k a0_0 a0_1 _ _ l0_2 _ _ l0_3 _ _ l1 true _ (Sh.cB HR0_2.out) HC0_2.out (Sh.cB HR0_3.out) HC0_3.out (Sh.cB HR1.out) HC1.out A3.out).mono ?_); rintro e w8 ⟨rfl, hb⟩; refine ⟨_, rfl, ?_⟩; have n0_ := am_ (Sh.bb BK478.out hb); have n1_ := am_ (below_step Sh.bw hb); clear BK478; clear HB; have BK478 := n0_; have HB := n1_; clear n0_ n1_; (try clear hb); (try clear hb2); (try clear hk); (try clear hi); have hcz9_0 := Sh.bc BK478.out 0; have hcz9_1 := Sh.bc BK478.out 1; have hcz9_2 := Sh.bc BK478.out 2; have hcz9_3 := Sh.bc BK478.out 3; have hfz9_0 := blk_frozen BK478.out 0; have hfz9_1 := blk_frozen BK478.out 1; have hfz9_2 := blk_frozen BK478.out 2; have hfz9_3 := blk_frozen BK478.out 3) | ((with_reducible refine gate_callee (f := 38) rfl ?_); refine Sh.gL (some 14) Try.func38 #[.agg #[.int .i64 a0_0, .int .i64 a0_1, .slice A0_2 l0_2.length c0_2, .slice A0_3 l0_3.length c0_3], .slice A0_2 l0_2.length c0_2, .slice A1 l1.length c1] (h := ?_); (with_reducible refine (impl_Program_holds.calls k a0_0 a0_1 _ _ l0_2 _ _ l0_3 _ _ l0_2 _ _ l1 t480 _ (Sh.cB HR0_2.out) HC0_2.out (Sh.cB HR0_3.out) HC0_3.out (Sh.cB HR0_2.out) HC0_2.out (Sh.cB HR1.out) HC1.out A5.out).mono ?_); rintro e w10 ⟨rfl, hb⟩; refine ⟨_, rfl, ?_⟩; have n0_ := am_ (Sh.bb BK478.out hb); have n1_ := am_ (below_step Sh.bw hb); clear BK478; clear HB; have BK478 := n0_; have HB := n1_; clear n0_ n1_; (try clear hb); (try clear hb2); (try clear hk); (try clear hi)))
  go_ret2
  exact ⟨Sh.eR, Sh.bw⟩
 ·replace c4 := Bool.eq_false_iff.mpr c4
  subst c4
  have H1 : (some (false, false)) = some (r1, r2) := by rw [if_neg (show ¬ (false = true) by decide)] at H; exact H
  clear H
  have H := H1
  clear H1
  simp only [Option.some.injEq, Prod.mk.injEq] at H
  obtain ⟨rfl, rfl⟩ := H
  go_enter Try.func12, Try.ntmps12
  go_wp2_with (first | ((with_reducible refine gate_dst (N := 2) rfl ?_); refine Sh.bx (N := 2) (cs := #[.int .i64 a0_0, .int .i64 a0_1, .slice A0_2 l0_2.length c0_2, .slice A0_3 l0_3.length c0_3]) (t := 33) (h := ?_); intro gb478 hg w11 hbox hb; have n0_ := am_ (below_step Sh.bw hb); have n1_ := am_ (hbox); have n2_ := am_ (Sh.gw (w := w) hg); have n3_ := am_ (Sh.gw (w := w) hg); clear HB; have HB := n0_; have BK478 := n1_; have GW478 := n2_; have GE478 := n3_; clear n0_ n1_ n2_ n3_; clear hb hbox hg; have hcz12_0 := Sh.bc BK478.out 0; have hcz12_1 := Sh.bc BK478.out 1; have hcz12_2 := Sh.bc BK478.out 2; have hcz12_3 := Sh.bc BK478.out 3; have hfz12_0 := blk_frozen BK478.out 0; have hfz12_1 := blk_frozen BK478.out 1; have hfz12_2 := blk_frozen BK478.out 2; have hfz12_3 := blk_frozen BK478.out 3) | ((with_reducible refine gate_callee (f := 37) rfl ?_); refine Sh.gL (some 8) Try.func37 #[.agg #[.int .i64 a0_0, .int .i64 a0_1, .slice A0_2 l0_2.length c0_2, .slice A0_3 l0_3.length c0_3], .slice A1 l1.length c1] (h := ?_); (with_reducible refine (impl_isStateOf.calls k a0_0 a0_1 _ _ l0_2 _ _ l0_3 _ _ l1 false _ (Sh.cB HR0_2.out) HC0_2.out (Sh.cB HR0_3.out) HC0_3.out (Sh.cB HR1.out) HC1.out A3.out).mono ?_); rintro e w13 ⟨rfl, hb⟩; refine ⟨_, rfl, ?_⟩; have n0_ := am_ (Sh.bb BK478.out hb); have n1_ := am_ (below_step Sh.bw hb); clear BK478; clear HB; have BK478 := n0_; have HB := n1_; clear n0_ n1_; (try clear hb); (try clear hb2); (try clear hk); (try clear hi)))
  go_ret2
  exact ⟨Sh.eR, Sh.bw⟩

end Go.Proofs.Ytjnolbjaagmooaa.P
namespace Go.Proofs.Ytjnolbjaagmooaa.P
open Go.RowKit Go.Proofs.YtjnolbjaagmooaaW.PrintWords Go.Proofs.YtjnolbjaagmooaaW.PrintLast Go.Proofs.YtjnolbjaagmooaaW.PrintMore Go.Proofs.Ytjnolbjaagmooaa.Hof
attribute [local go_sem] max2_int min2_int max_two min_two max_three min_three max_four min_four   -- for this text's walks alone
set_option linter.unusedVariables false
set_option linter.unusedSimpArgs false

/-! ### laws_FnExactIsStart: function 3, on its one way -/
open Go.Proofs.Ytjnolbjaagmooaa.Lw
def laws_FnExactIsStart.Holds (k : Nat) (a0_0 : Int) (a0_1 : Int) (l0_2 : List (S82)) (l0_3 : List (S89)) (l1 : List Int) : Prop :=
 (1048576 < (l1.length : Int)) ∨ (¬ (1048576 < (l1.length : Int))) ∧ (∃ s6 : Int, laws_szProgram.f k a0_0 a0_1 l0_2 l0_3 1048576 = some s6 ∧ ((s6 < 0) ∨ (¬ (s6 < 0)) ∧ (∃ (y9 : List (S80)) (y10 : List (S71)) (y33 : Bool) (y34 : Bool), laws_toProgram.f k a0_0 a0_1 l0_2 l0_3 = some (a0_0, a0_1, y9, y10) ∧ laws_toUint64S.f k l1 = some l1 ∧ spec_IsStart.f k a0_0 a0_1 y9 y10 l1 = some (y33, y34) ∧ impl_IsStart.f k a0_0 a0_1 y9 y10 l1 = some (y33, y34) ∧ laws_eqProgram.f k a0_0 a0_1 y9 y10 a0_0 a0_1 y9 y10 = some true ∧ laws_eqUint64S.f k l1 l1 = some true)))
set_option maxHeartbeats 40000000 in
set_option maxRecDepth 100000 in
theorem laws_FnExactIsStart.calls (k : Nat) (a0_0 : Int) (a0_1 : Int) (A0_2 : Option Addr) (c0_2 : Nat) (l0_2 : List (S82)) (A0_3 : Option Addr) (c0_3 : Nat) (l0_3 : List (S89)) (A1 : Option Addr) (c1 : Nat) (l1 : List Int) (w : World) (hr0_2 : Kd.C k82 w A0_2 l0_2.length l0_2) (hc0_2 : l0_2.length ≤ c0_2) (hr0_3 : Kd.C k89 w A0_3 l0_3.length l0_3) (hc0_3 : l0_3.length ≤ c0_3) (hr1 : Kd.C (Kd.int .u64) w A1 l1.length l1) (hc1 : l1.length ≤ c1) (h : laws_FnExactIsStart.Holds k a0_0 a0_1 l0_2 l0_3 l1) :
  Calls Try.prog 3 #[.agg #[.int .i64 a0_0, .int .i64 a0_1, .slice A0_2 l0_2.length c0_2, .slice A0_3 l0_3.length c0_3], .slice A1 l1.length c1] w fun e w' => e = .returned (.bool true) ∧ Below w.heap.size w w' := by
 have hu25 := Try.underlying25
 have hu33 := Try.underlying33
 have HR0_2 := am_ hr0_2
 have HC0_2 := am_ hc0_2
 clear hr0_2 hc0_2
 have HR0_3 := am_ hr0_3
 have HC0_3 := am_ hc0_3
 clear hr0_3 hc0_3
 have HR1 := am_ hr1
 have HC1 := am_ hc1
 clear hr1 hc1
 have HB := am_ (Below.refl w.heap.size w)
 have NW : 0 ≤ w.heap.size := Nat.zero_le _
 rcases h with c | ⟨c, h⟩
 ·have cb : decide (1048576 < (l1.length : Int)) = true := decide_eq_true c
  clear c
  go_enter Try.func3, Try.ntmps3
  go_wp2_with (first | ((with_reducible refine gate_dst (N := 2) rfl ?_); refine Sh.bx (N := 2) (cs := #[.int .i64 a0_0, .int .i64 a0_1, .slice A0_2 l0_2.length c0_2, .slice A0_3 l0_3.length c0_3]) (t := 25) (h := ?_); intro g1 hg w3 hbox hb; have BK2 := box_new (w := w) (W := w) HB.out hg hbox; have oa4 := new_g (W := w) hg NW; replace HB := am_ (below_step HB.out hb); replace NW := Nat.le_trans NW hb.size; replace NW := BK2.lt; clear hb hbox hg; have hczq5_0 : w3.cell? ⟨g1, 0, none⟩ = some (.int .i64 a0_0) := (blk_cell BK2.b 0).trans rfl; have hfzq5_0 := blk_frozen BK2.b 0; have hczq5_1 : w3.cell? ⟨g1, 1, none⟩ = some (.int .i64 a0_1) := (blk_cell BK2.b 1).trans rfl; have hfzq5_1 := blk_frozen BK2.b 1; have hczq5_2 : w3.cell? ⟨g1, 2, none⟩ = some (.slice A0_2 l0_2.length c0_2) := (blk_cell BK2.b 2).trans rfl; have hfzq5_2 := blk_frozen BK2.b 2; have hczq5_3 : w3.cell? ⟨g1, 3, none⟩ = some (.slice A0_3 l0_3.length c0_3) := (blk_cell BK2.b 3).trans rfl; have hfzq5_3 := blk_frozen BK2.b 3))
  go_ret
  exact ⟨rfl, HB.out⟩
 have cb0 : decide (1048576 < (l1.length : Int)) = false := decide_eq_false c
 clear c
 obtain ⟨s6, ESs6, h⟩ := h
 replace ESs6 := am_ ESs6
 rcases h with c | ⟨c, h⟩
 ·have cb : decide (s6 < 0) = true := decide_eq_true c
  clear c
  go_enter Try.func3, Try.ntmps3
  go_wp2_with (first | ((with_reducible refine gate_dst (N := 2) rfl ?_); refine Sh.bx (N := 2) (cs := #[.int .i64 a0_0, .int .i64 a0_1, .slice A0_2 l0_2.length c0_2, .slice A0_3 l0_3.length c0_3]) (t := 25) (h := ?_); intro g1 hg w3 hbox hb; have BK2 := box_new (w := w) (W := w) HB.out hg hbox; have oa4 := new_g (W := w) hg NW; replace HB := am_ (below_step HB.out hb); replace NW := Nat.le_trans NW hb.size; replace NW := BK2.lt; clear hb hbox hg; have hczq5_0 : w3.cell? ⟨g1, 0, none⟩ = some (.int .i64 a0_0) := (blk_cell BK2.b 0).trans rfl; have hfzq5_0 := blk_frozen BK2.b 0; have hczq5_1 : w3.cell? ⟨g1, 1, none⟩ = some (.int .i64 a0_1) := (blk_cell BK2.b 1).trans rfl; have hfzq5_1 := blk_frozen BK2.b 1; have hczq5_2 : w3.cell? ⟨g1, 2, none⟩ = some (.slice A0_2 l0_2.length c0_2) := (blk_cell BK2.b 2).trans rfl; have hfzq5_2 := blk_frozen BK2.b 2; have hczq5_3 : w3.cell? ⟨g1, 3, none⟩ = some (.slice A0_3 l0_3.length c0_3) := (blk_cell BK2.b 3).trans rfl; have hfzq5_3 := blk_frozen BK2.b 3) | ((with_reducible refine gate_callee (f := 8) rfl ?_); refine Sh.gL (some 17) Try.func8 #[.agg #[.int .i64 a0_0, .int .i64 a0_1, .slice A0_2 l0_2.length c0_2, .slice A0_3 l0_3.length c0_3], .int .i64 1048576] (h := ?_); (with_reducible refine (laws_szProgram.calls k a0_0 a0_1 _ _ l0_2 _ _ l0_3 1048576 s6 _ (Kd.C_below HR0_2.out HB.out) HC0_2.out (Kd.C_below HR0_3.out HB.out) HC0_3.out ESs6.out).mono ?_); rintro e w7 ⟨rfl, hb⟩; refine ⟨_, rfl, ?_⟩; replace BK2 := BK2.same hb; replace HB := am_ (below_step HB.out hb); replace NW := Nat.le_trans NW hb.size; clear hb; have hczq8_0 : w7.cell? ⟨g1, 0, none⟩ = some (.int .i64 a0_0) := (blk_cell BK2.b 0).trans rfl; have hfzq8_0 := blk_frozen BK2.b 0; have hczq8_1 : w7.cell? ⟨g1, 1, none⟩ = some (.int .i64 a0_1) := (blk_cell BK2.b 1).trans rfl; have hfzq8_1 := blk_frozen BK2.b 1; have hczq8_2 : w7.cell? ⟨g1, 2, none⟩ = some (.slice A0_2 l0_2.length c0_2) := (blk_cell BK2.b 2).trans rfl; have hfzq8_2 := blk_frozen BK2.b 2; have hczq8_3 : w7.cell? ⟨g1, 3, none⟩ = some (.slice A0_3 l0_3.length c0_3) := (blk_cell BK2.b 3).trans rfl; have hfzq8_3 := blk_frozen BK2.b 3))
  go_ret
  exact ⟨rfl, HB.out⟩
 have cb1 : decide (s6 < 0) = false := decide_eq_false c
 clear c
 obtain ⟨y9, y10, y33, y34, E1, E2, E3, E4, E5, E6⟩ := h
 replace E1 := am_ E1
 replace E2 := am_ E2
 replace E3 := am_ E3
 replace E4 := am_ E4
 replace E5 := am_ E5
 replace E6 := am_ E6
 have cr0 : (y33 != y33) = false := bne_self_eq_false _
 have cr1 : (y34 != y34) = false := bne_self_eq_false _
 go_enter Try.func3, Try.ntmps3
 go_upto_region 13 with (first | ((with_reducible refine gate_dst (N := 2) rfl ?_); refine Sh.bx (N := 2) (cs := #[.int .i64 a0_0, .int .i64 a0_1, .slice A0_2 l0_2.length c0_2, .slice A0_3 l0_3.length c0_3]) (t := 25) (h := ?_); intro g1 hg w3 hbox hb; have BK2 := box_new (w := w) (W := w) HB.out hg hbox; have oa4 := new_g (W := w) hg NW; replace HB := am_ (below_step HB.out hb); replace NW := Nat.le_trans NW hb.size; replace NW := BK2.lt; clear hb hbox hg; have hczq5_0 : w3.cell? ⟨g1, 0, none⟩ = some (.int .i64 a0_0) := (blk_cell BK2.b 0).trans rfl; have hfzq5_0 := blk_frozen BK2.b 0; have hczq5_1 : w3.cell? ⟨g1, 1, none⟩ = some (.int .i64 a0_1) := (blk_cell BK2.b 1).trans rfl; have hfzq5_1 := blk_frozen BK2.b 1; have hczq5_2 : w3.cell? ⟨g1, 2, none⟩ = some (.slice A0_2 l0_2.length c0_2) := (blk_cell BK2.b 2).trans rfl; have hfzq5_2 := blk_frozen BK2.b 2; have hczq5_3 : w3.cell? ⟨g1, 3, none⟩ = some (.slice A0_3 l0_3.length c0_3) := (blk_cell BK2.b 3).trans rfl; have hfzq5_3 := blk_frozen BK2.b 3) | ((with_reducible refine gate_callee (f := 8) rfl ?_); refine Sh.gL (some 17) Try.func8 #[.agg #[.int .i64 a0_0, .int .i64 a0_1, .slice A0_2 l0_2.length c0_2, .slice A0_3 l0_3.length c0_3], .int .i64 1048576] (h := ?_); (with_reducible refine (laws_szProgram.calls k a0_0 a0_1 _ _ l0_2 _ _ l0_3 1048576 s6 _ (Kd.C_below HR0_2.out HB.out) HC0_2.out (Kd.C_below HR0_3.out HB.out) HC0_3.out ESs6.out).mono ?_); rintro e w7 ⟨rfl, hb⟩; refine ⟨_, rfl, ?_⟩; replace BK2 := BK2.same hb; replace HB := am_ (below_step HB.out hb); replace NW := Nat.le_trans NW hb.size; clear hb; have hczq8_0 : w7.cell? ⟨g1, 0, none⟩ = some (.int .i64 a0_0) := (blk_cell BK2.b 0).trans rfl; have hfzq8_0 := blk_frozen BK2.b 0; have hczq8_1 : w7.cell? ⟨g1, 1, none⟩ = some (.int .i64 a0_1) := (blk_cell BK2.b 1).trans rfl; have hfzq8_1 := blk_frozen BK2.b 1; have hczq8_2 : w7.cell? ⟨g1, 2, none⟩ = some (.slice A0_2 l0_2.length c0_2) := (blk_cell BK2.b 2).trans rfl; have hfzq8_2 := blk_frozen BK2.b 2; have hczq8_3 : w7.cell? ⟨g1, 3, none⟩ = some (.slice A0_3 l0_3.length c0_3) := (blk_cell BK2.b 3).trans rfl; have hfzq8_3 := blk_frozen BK2.b 3) | ((with_reducible refine gate_callee (f := 10) rfl ?_); refine Sh.gL (some 22) Try.func10 #[.agg #[.int .i64 a0_0, .int .i64 a0_1, .slice A0_2 l0_2.length c0_2, .slice A0_3 l0_3.length c0_3]] (h := ?_); (with_reducible refine (laws_toProgram.calls k a0_0 a0_1 _ _ l0_2 _ _ l0_3 a0_0 a0_1 y9 y10 _ (Kd.C_below HR0_2.out HB.out) HC0_2.out (Kd.C_below HR0_3.out HB.out) HC0_3.out E1.out).mono ?_); rintro e w11 ⟨v2_, v3_, rfl, ho0, ho1, hb⟩; refine ⟨_, rfl, ?_⟩; obtain ⟨lo14, hi15, ⟨HO12, HO13⟩, oa16, ob17, NW2⟩ := new1 (F := fun lo_ hi_ => Held k80 80 w11 w.heap.size lo_ hi_ v2_ y9 ∧ Held k71 71 w11 w.heap.size lo_ hi_ v3_ y10) ⟨held_new ho0 hb HB.out, held_new ho1 hb HB.out⟩ hb NW; replace BK2 := BK2.same hb; replace HB := am_ (below_step HB.out hb); replace NW := Nat.le_trans NW hb.size; replace NW := NW2; skip; obtain ⟨A18, c19, e20⟩ := HO12.slice; subst e20; obtain ⟨A21, c22, e23⟩ := HO13.slice; subst e23; clear hb ho0 ho1) | ((with_reducible refine gate_callee (f := 11) rfl ?_); refine Sh.gL (some 24) Try.func11 #[.slice A1 l1.length c1] (h := ?_); (with_reducible refine (laws_toUint64S.calls k _ _ l1 l1 _ (Kd.C_below HR1.out HB.out) HC1.out E2.out).mono ?_); rintro e w24 ⟨v0_, rfl, ho0, hb⟩; refine ⟨_, rfl, ?_⟩; obtain ⟨lo26, hi27, HO25, oa28, ob29, NW2⟩ := new1 (F := fun lo_ hi_ => Held (Kd.int .u64) 61 w24 w.heap.size lo_ hi_ v0_ l1) (held_new ho0 hb HB.out) hb NW; replace BK2 := BK2.same hb; replace HO12 := HO12.same hb; replace HO13 := HO13.same hb; replace HB := am_ (below_step HB.out hb); replace NW := Nat.le_trans NW hb.size; replace NW := NW2; skip; obtain ⟨A30, c31, e32⟩ := HO25.slice; subst e32; clear hb ho0) | ((with_reducible refine gate_callee (f := 9) rfl ?_); refine Sh.gL (some 25) Try.func9 #[.agg #[.int .i64 a0_0, .int .i64 a0_1, .slice A18 y9.length c19, .slice A21 y10.length c22], .slice A30 l1.length c31] (h := ?_); (with_reducible refine (spec_IsStart.calls k a0_0 a0_1 _ _ y9 _ _ y10 _ _ l1 y33 y34 _ HO12.C HO12.c HO13.C HO13.c HO25.C HO25.c E3.out).mono ?_); rintro e w35 ⟨rfl, hb⟩; refine ⟨_, rfl, ?_⟩; replace BK2 := BK2.same hb; replace HO12 := HO12.same hb; replace HO13 := HO13.same hb; replace HO25 := HO25.same hb; replace HB := am_ (below_step HB.out hb); replace NW := Nat.le_trans NW hb.size; clear hb; have hczq36_0 : w35.cell? ⟨g1, 0, none⟩ = some (.int .i64 a0_0) := (blk_cell BK2.b 0).trans rfl; have hfzq36_0 := blk_frozen BK2.b 0; have hczq36_1 : w35.cell? ⟨g1, 1, none⟩ = some (.int .i64 a0_1) := (blk_cell BK2.b 1).trans rfl; have hfzq36_1 := blk_frozen BK2.b 1; have hczq36_2 : w35.cell? ⟨g1, 2, none⟩ = some (.slice A0_2 l0_2.length c0_2) := (blk_cell BK2.b 2).trans rfl; have hfzq36_2 := blk_frozen BK2.b 2; have hczq36_3 : w35.cell? ⟨g1, 3, none⟩ = some (.slice A0_3 l0_3.length c0_3) := (blk_cell BK2.b 3).trans rfl; have hfzq36_3 := blk_frozen BK2.b 3) | ((with_reducible refine gate_callee (f := 10) rfl ?_); refine Sh.gL (some 29) Try.func10 #[.agg #[.int .i64 a0_0, .int .i64 a0_1, .slice A0_2 l0_2.length c0_2, .slice A0_3 l0_3.length c0_3]] (h := ?_); (with_reducible refine (laws_toProgram.calls k a0_0 a0_1 _ _ l0_2 _ _ l0_3 a0_0 a0_1 y9 y10 _ (Kd.C_below HR0_2.out HB.out) HC0_2.out (Kd.C_below HR0_3.out HB.out) HC0_3.out E1.out).mono ?_); rintro e w37 ⟨v2_, v3_, rfl, ho0, ho1, hb⟩; refine ⟨_, rfl, ?_⟩; obtain ⟨lo40, hi41, ⟨HO38, HO39⟩, oa42, ob43, NW2⟩ := new1 (F := fun lo_ hi_ => Held k80 80 w37 w.heap.size lo_ hi_ v2_ y9 ∧ Held k71 71 w37 w.heap.size lo_ hi_ v3_ y10) ⟨held_new ho0 hb HB.out, held_new ho1 hb HB.out⟩ hb NW; replace BK2 := BK2.same hb; replace HO12 := HO12.same hb; replace HO13 := HO13.same hb; replace HO25 := HO25.same hb; replace HB := am_ (below_step HB.out hb); replace NW := Nat.le_trans NW hb.size; replace NW := NW2; skip; obtain ⟨A44, c45, e46⟩ := HO38.slice; subst e46; obtain ⟨A47, c48, e49⟩ := HO39.slice; subst e49; clear hb ho0 ho1) | ((with_reducible refine gate_dst (N := 8) rfl ?_); refine Sh.bx (N := 8) (cs := #[.int .i64 0, .int .i64 0, .slice none 0 0, .slice none 0 0]) (t := 33) (h := ?_); intro g50 hg w52 hbox hb; have BK51 := box_new (w := w) (W := w37) HB.out hg hbox; have oa53 := new_g (W := w37) hg NW; replace BK2 := BK2.same hb; replace HO12 := HO12.same hb; replace HO13 := HO13.same hb; replace HO25 := HO25.same hb; replace HO38 := HO38.same hb; replace HO39 := HO39.same hb; replace HB := am_ (below_step HB.out hb); replace NW := Nat.le_trans NW hb.size; replace NW := BK51.lt; clear hb hbox hg) | ((with_reducible refine gate_ (.store 33 (.tmp 8) (.tmp 29)) rfl ?_); refine store_event 8 (.tmp 29) rfl rfl rfl BK51 rfl [.int .i64 a0_0, .int .i64 a0_1, .slice A44 y9.length c45, .slice A47 y10.length c48] rfl rfl ?hs rfl ?h1 ?_; (case hs => kernel_rfl); (case h1 => (simp only [List.mem_cons, List.not_mem_nil, or_false]; intro q_ h_; rcases h_ with h_ | h_ | h_ | h_ <;> (subst h_; rfl))); intro w54 hbx hb hk; replace BK2 := BK2.move hk (by omega); replace HO12 := HO12.move hk (by omega); replace HO13 := HO13.move hk (by omega); replace HO25 := HO25.move hk (by omega); replace HO38 := HO38.move hk (by omega); replace HO39 := HO39.move hk (by omega); replace BK51 := hbx; replace NW := Nat.le_trans NW hk.1; replace HB := am_ (HB.out.trans hb); clear hk hb) | ((with_reducible refine gate_callee (f := 11) rfl ?_); refine Sh.gL (some 31) Try.func11 #[.slice A1 l1.length c1] (h := ?_); (with_reducible refine (laws_toUint64S.calls k _ _ l1 l1 _ (Kd.C_below HR1.out HB.out) HC1.out E2.out).mono ?_); rintro e w55 ⟨v0_, rfl, ho0, hb⟩; refine ⟨_, rfl, ?_⟩; obtain ⟨lo57, hi58, HO56, oa59, ob60, NW2⟩ := new1 (F := fun lo_ hi_ => Held (Kd.int .u64) 61 w55 w.heap.size lo_ hi_ v0_ l1) (held_new ho0 hb HB.out) hb NW; replace BK2 := BK2.same hb; replace HO12 := HO12.same hb; replace HO13 := HO13.same hb; replace HO25 := HO25.same hb; replace HO38 := HO38.same hb; replace HO39 := HO39.same hb; replace BK51 := BK51.same hb; replace HB := am_ (below_step HB.out hb); replace NW := Nat.le_trans NW hb.size; replace NW := NW2; skip; obtain ⟨A61, c62, e63⟩ := HO56.slice; subst e63; clear hb ho0; have hczq64_0 : w55.cell? ⟨g50, 0, none⟩ = some (.int .i64 a0_0) := (blk_cell BK51.b 0).trans rfl; have hfzq64_0 := blk_frozen BK51.b 0; have hczq64_1 : w55.cell? ⟨g50, 1, none⟩ = some (.int .i64 a0_1) := (blk_cell BK51.b 1).trans rfl; have hfzq64_1 := blk_frozen BK51.b 1; have hczq64_2 : w55.cell? ⟨g50, 2, none⟩ = some (.slice A44 y9.length c45) := (blk_cell BK51.b 2).trans rfl; have hfzq64_2 := blk_frozen BK51.b 2; have hczq64_3 : w55.cell? ⟨g50, 3, none⟩ = some (.slice A47 y10.length c48) := (blk_cell BK51.b 3).trans rfl; have hfzq64_3 := blk_frozen BK51.b 3) | ((with_reducible refine gate_callee (f := 12) rfl ?_); refine Sh.gL (some 35) Try.func12 #[.agg #[.int .i64 a0_0, .int .i64 a0_1, .slice A44 y9.length c45, .slice A47 y10.length c48], .slice A61 l1.length c62] (h := ?_); (with_reducible refine (impl_IsStart.calls k a0_0 a0_1 _ _ y9 _ _ y10 _ _ l1 y33 y34 _ HO38.C HO38.c HO39.C HO39.c HO56.C HO56.c E4.out).mono ?_); rintro e w65 ⟨rfl, hb⟩; refine ⟨_, rfl, ?_⟩; replace BK2 := BK2.same hb; replace HO12 := HO12.same hb; replace HO13 := HO13.same hb; replace HO25 := HO25.same hb; replace HO38 := HO38.same hb; replace HO39 := HO39.same hb; replace BK51 := BK51.same hb; replace HO56 := HO56.same hb; replace HB := am_ (below_step HB.out hb); replace NW := Nat.le_trans NW hb.size; clear hb))
 (try simp only [Act.put, List.setIfInBounds_toArray, List.set_cons_zero, List.set_cons_succ])
 try go_wp2
 have hb : Below w65.heap.size w65 w65.drew := below_drew (Below.refl _ _)
 replace BK2 := BK2.same hb
 replace HO12 := HO12.same hb
 replace HO13 := HO13.same hb
 replace HO25 := HO25.same hb
 replace HO38 := HO38.same hb
 replace HO39 := HO39.same hb
 replace BK51 := BK51.same hb
 replace HO56 := HO56.same hb
 replace HB := am_ (below_step HB.out hb)
 replace NW := Nat.le_trans NW hb.size
 clear hb
 have hL_ : 0 ≤ 0 := Nat.le_refl 0
 refine start_ (n := 5) (S := fun w' => w'.cell? ⟨g50, 0, none⟩ = some (.int .i64 a0_0) ∧ w'.cell? ⟨g50, 1, none⟩ = some (.int .i64 a0_1) ∧ w'.cell? ⟨g50, 2, none⟩ = some (.slice A44 y9.length c45) ∧ w'.cell? ⟨g50, 3, none⟩ = some (.slice A47 y10.length c48) ∧ w'.cell? ⟨g1, 0, none⟩ = some (.int .i64 a0_0) ∧ w'.cell? ⟨g1, 1, none⟩ = some (.int .i64 a0_1) ∧ w'.cell? ⟨g1, 2, none⟩ = some (.slice A0_2 l0_2.length c0_2) ∧ w'.cell? ⟨g1, 3, none⟩ = some (.slice A0_3 l0_3.length c0_3)) (ds := []) #[false, false, false, false, false] (by kernel_rfl) rfl rfl ⟨(blk_cell BK51.b 0).trans rfl, (blk_cell BK51.b 1).trans rfl, (blk_cell BK51.b 2).trans rfl, (blk_cell BK51.b 3).trans rfl, (blk_cell BK2.b 0).trans rfl, (blk_cell BK2.b 1).trans rfl, (blk_cell BK2.b 2).trans rfl, (blk_cell BK2.b 3).trans rfl⟩ (fun hHeld => ?_)
 generalize w65.drew = w66 at BK2 HO12 HO13 HO25 HO38 HO39 BK51 HO56 HB NW hHeld ⊢
 clear hL_
 refine Sh.tA 0 46 #[true, false, false, false, false] (by kernel_rfl) hHeld ?_ (hy := by rintro w' ⟨s0, s1, s2, s3, s4, s5, s6, s7⟩; go_simp; with_reducible rfl)
 refine Sh.tA 1 47 #[true, true, false, false, false] (by kernel_rfl) hHeld ?_ (hy := by rintro w' ⟨s0, s1, s2, s3, s4, s5, s6, s7⟩; go_simp; with_reducible rfl)
 refine one_ (i := 2) (N := some 48) #[true, true, true, false, false] rfl rfl (by kernel_rfl) (by decide) (fun K hK => ?_)
 refine goes_ Try.func10 (by kernel_rfl) rfl #[.agg #[.int .i64 a0_0, .int .i64 a0_1, .slice A0_2 l0_2.length c0_2, .slice A0_3 l0_3.length c0_3]] (by rfl) rfl rfl (by (try simp only [List.map_toArray, List.map_cons, List.map_nil]); first | done | rfl | (simp only [List.length_drop, List.length_take]; rfl)) ?_
 with_reducible refine (laws_toProgram.calls k a0_0 a0_1 _ _ l0_2 _ _ l0_3 a0_0 a0_1 y9 y10 _ (Kd.C_below HR0_2.out HB.out) HC0_2.out (Kd.C_below HR0_3.out HB.out) HC0_3.out E1.out).mono ?_
 rintro e w67 ⟨v2_, v3_, rfl, ho0, ho1, hb⟩
 refine ⟨_, rfl, ?_⟩
 obtain ⟨lo70, hi71, ⟨HO68, HO69⟩, oa72, ob73, NW2⟩ := new1 (F := fun lo_ hi_ => Held k80 80 w67 w.heap.size lo_ hi_ v2_ y9 ∧ Held k71 71 w67 w.heap.size lo_ hi_ v3_ y10) ⟨held_new ho0 hb HB.out, held_new ho1 hb HB.out⟩ hb NW
 replace BK2 := BK2.same hb
 replace HO12 := HO12.same hb
 replace HO13 := HO13.same hb
 replace HO25 := HO25.same hb
 replace HO38 := HO38.same hb
 replace HO39 := HO39.same hb
 replace BK51 := BK51.same hb
 replace HO56 := HO56.same hb
 replace HB := am_ (below_step HB.out hb)
 replace NW := Nat.le_trans NW hb.size
 replace NW := NW2
 skip
 obtain ⟨A74, c75, e76⟩ := HO68.slice
 subst e76
 obtain ⟨A77, c78, e79⟩ := HO69.slice
 subst e79
 clear hb ho0 ho1
 refine hK.out _ _ ⟨(blk_cell BK51.b 0).trans rfl, (blk_cell BK51.b 1).trans rfl, (blk_cell BK51.b 2).trans rfl, (blk_cell BK51.b 3).trans rfl, (blk_cell BK2.b 0).trans rfl, (blk_cell BK2.b 1).trans rfl, (blk_cell BK2.b 2).trans rfl, (blk_cell BK2.b 3).trans rfl⟩ (fun hHeld => ?_)
 clear hK K
 refine norm_ (a' := ?_) ?_ ?_
 rotate_left
 ·show Act.put _ (some 48) _ = _
  simp only [Act.put, List.setIfInBounds_toArray, List.set_cons_zero, List.set_cons_succ, i64_w, i32_w]
  rfl
 refine one_ (i := 3) (N := some 49) #[true, true, true, true, false] rfl rfl (by kernel_rfl) (by decide) (fun K hK => ?_)
 refine goes_ Try.func13 (by kernel_rfl) rfl #[.agg #[.int .i64 a0_0, .int .i64 a0_1, .slice A44 y9.length c45, .slice A47 y10.length c48], .agg #[.int .i64 a0_0, .int .i64 a0_1, .slice A74 y9.length c75, .slice A77 y10.length c78]] (by rfl) rfl rfl (by (try simp only [List.map_toArray, List.map_cons, List.map_nil]); first | done | rfl | (simp only [List.length_drop, List.length_take]; rfl)) ?_
 with_reducible refine (laws_eqProgram.calls k a0_0 a0_1 _ _ y9 _ _ y10 a0_0 a0_1 _ _ y9 _ _ y10 true _ HO38.C HO38.c HO39.C HO39.c HO68.C HO68.c HO69.C HO69.c E5.out).mono ?_
 rintro e w80 ⟨rfl, hb⟩
 refine ⟨_, rfl, ?_⟩
 replace BK2 := BK2.same hb
 replace HO12 := HO12.same hb
 replace HO13 := HO13.same hb
 replace HO25 := HO25.same hb
 replace HO38 := HO38.same hb
 replace HO39 := HO39.same hb
 replace BK51 := BK51.same hb
 replace HO56 := HO56.same hb
 replace HO68 := HO68.same hb
 replace HO69 := HO69.same hb
 replace HB := am_ (below_step HB.out hb)
 replace NW := Nat.le_trans NW hb.size
 clear hb
 refine hK.out _ _ ⟨(blk_cell BK51.b 0).trans rfl, (blk_cell BK51.b 1).trans rfl, (blk_cell BK51.b 2).trans rfl, (blk_cell BK51.b 3).trans rfl, (blk_cell BK2.b 0).trans rfl, (blk_cell BK2.b 1).trans rfl, (blk_cell BK2.b 2).trans rfl, (blk_cell BK2.b 3).trans rfl⟩ (fun hHeld => ?_)
 clear hK K
 refine norm_ (a' := ?_) ?_ ?_
 rotate_left
 ·show Act.put _ (some 49) _ = _
  simp only [Act.put, List.setIfInBounds_toArray, List.set_cons_zero, List.set_cons_succ, i64_w, i32_w]
  rfl
 refine Sh.pA 4 50 #[true, true, true, true, true] (by kernel_rfl) ?_
 refine done_ (by kernel_rfl) ?_
 go_wp2_with (first | ((with_reducible refine gate_callee (f := 11) rfl ?_); refine Sh.gL (some 53) Try.func11 #[.slice A1 l1.length c1] (h := ?_); (with_reducible refine (laws_toUint64S.calls k _ _ l1 l1 _ (Kd.C_below HR1.out HB.out) HC1.out E2.out).mono ?_); rintro e w81 ⟨v0_, rfl, ho0, hb⟩; refine ⟨_, rfl, ?_⟩; obtain ⟨lo83, hi84, HO82, oa85, ob86, NW2⟩ := new1 (F := fun lo_ hi_ => Held (Kd.int .u64) 61 w81 w.heap.size lo_ hi_ v0_ l1) (held_new ho0 hb HB.out) hb NW; replace BK2 := BK2.same hb; replace HO12 := HO12.same hb; replace HO13 := HO13.same hb; replace HO25 := HO25.same hb; replace HO38 := HO38.same hb; replace HO39 := HO39.same hb; replace BK51 := BK51.same hb; replace HO56 := HO56.same hb; replace HO68 := HO68.same hb; replace HO69 := HO69.same hb; replace HB := am_ (below_step HB.out hb); replace NW := Nat.le_trans NW hb.size; replace NW := NW2; skip; obtain ⟨A87, c88, e89⟩ := HO82.slice; subst e89; clear hb ho0) | ((with_reducible refine gate_callee (f := 14) rfl ?_); refine Sh.gL (some 54) Try.func14 #[.slice A61 l1.length c62, .slice A87 l1.length c88] (h := ?_); (with_reducible refine (laws_eqUint64S.calls k _ _ l1 _ _ l1 true _ HO56.C HO56.c HO82.C HO82.c E6.out).mono ?_); rintro e w90 ⟨rfl, hb⟩; refine ⟨_, rfl, ?_⟩; replace hb := hb.below; replace BK2 := BK2.same hb; replace HO12 := HO12.same hb; replace HO13 := HO13.same hb; replace HO25 := HO25.same hb; replace HO38 := HO38.same hb; replace HO39 := HO39.same hb; replace BK51 := BK51.same hb; replace HO56 := HO56.same hb; replace HO68 := HO68.same hb; replace HO69 := HO69.same hb; replace HO82 := HO82.same hb; replace HB := am_ (below_step HB.out hb); replace NW := Nat.le_trans NW hb.size; clear hb))
 go_ret
 exact ⟨rfl, HB.out⟩

end Go.Proofs.Ytjnolbjaagmooaa.P
