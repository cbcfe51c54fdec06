/- Go functions of this seat as Lean functions, and the proofs that the calls come to what these say; printed by a program of this session. No condition. -/
import Derived.Test.YtjnolbjaagmooaaP0
import Derived.Test.YtjnolbjaagmooaaMFnExactIsStart3
namespace Go.Proofs.Ytjnolbjaagmooaa.P
open Go.RowKit Go.Proofs.YtjnolbjaagmooaaW.PrintWords Go.Proofs.YtjnolbjaagmooaaW.PrintLast Go.Proofs.YtjnolbjaagmooaaW.PrintMore Go.Proofs.Ytjnolbjaagmooaa.Hof
attribute [local go_sem] max2_int min2_int max_two min_two max_three min_three max_four min_four   -- for this text's walks alone
set_option linter.unusedVariables false
set_option linter.unusedSimpArgs false

/-! ### impl_Program_isCommand: function 87 -/
def impl_Program_isCommand.l0 : Nat → List (S102) → Int → Int → Int → Int → List (S80) → List (S71) → List (S80) → List (S102) → Option (Bool)
 | 0, _, _, _, _, _, _, _, _, _ => none
 | k + 1, x13, x14, x15, x339000, x339001, x339002, x339003, x340000, x340001 => if x15 < x14 then (if 0 ≤ x15 then (if x15 < (x13.length : Int) then (if ((rd_T102 x13 x15).f0) < 0 then (some false) else (if ((rd_T102 x13 x15).f0) ≥ x339001 then (some false) else (if x15 > 0 then (if 0 ≤ (wrap64 (x15 - 1)) then (if (wrap64 (x15 - 1)) < (x340001.length : Int) then (if ((rd_T102 x340001 (wrap64 (x15 - 1))).f0) ≥ ((rd_T102 x13 x15).f0) then (some false) else ((impl_isTermOf.f k x339000 x339001 ((rd_T102 x13 x15).f1) 1).bind fun t344 => (if t344 = true then (impl_Program_isCommand.l0 k x13 x14 (wrap64 (x15 + 1)) x339000 x339001 x339002 x339003 x340000 x340001) else (some false)))) else (none)) else (none)) else ((impl_isTermOf.f k x339000 x339001 ((rd_T102 x13 x15).f1) 1).bind fun t345 => (if t345 = true then (impl_Program_isCommand.l0 k x13 x14 (wrap64 (x15 + 1)) x339000 x339001 x339002 x339003 x340000 x340001) else (some false)))))) else (none)) else (none)) else (some true)
def impl_Program_isCommand.f (k : Nat) (a0_0 : Int) (a0_1 : Int) (l0_2 : List (S80)) (l0_3 : List (S71)) (l1_0 : List (S80)) (l1_1 : List (S102)) : Option (Bool) := (impl_Program_isCondition.f k a0_0 a0_1 l0_2 l0_3 l1_0).bind fun t340 => (if t340 = true then (impl_Program_isCommand.l0 k l1_1 (l1_1.length : Int) 0 a0_0 a0_1 l0_2 l0_3 l1_0 l1_1) else (some false))
theorem impl_Program_isCommand.mono_l : ∀ k, (∀ y0 y1 y2 y3 y4 y5 y6 y7 y8, LeO (impl_Program_isCommand.l0 k y0 y1 y2 y3 y4 y5 y6 y7 y8) (impl_Program_isCommand.l0 (k + 1) y0 y1 y2 y3 y4 y5 y6 y7 y8))
 | 0 => fun _ _ _ _ _ _ _ _ _ r h => by simp [impl_Program_isCommand.l0] at h
 | k + 1 => by
  have ih0 := impl_Program_isCommand.mono_l k
  ·intro y0 y1 y2 y3 y4 y5 y6 y7 y8
   unfold impl_Program_isCommand.l0
   repeat' first
   | (with_reducible exact ih0 _ _ _ _ _ _ _ _ _)
   | (with_reducible exact impl_Program_isCondition.mono _ _ _ _ _ _)
   | (with_reducible exact impl_isTermOf.mono _ _ _ _ _)
   | (with_reducible exact LeO.refl _)
   | (with_reducible exact LeO.none _)
   | (with_reducible refine LeO.ite ?_ ?_)
   | (with_reducible refine LeO.bind ?_ (fun _ => ?_))
   | exact ih0 _ _ _ _ _ _ _ _ _
   | exact impl_Program_isCondition.mono _ _ _ _ _ _
   | exact impl_isTermOf.mono _ _ _ _ _
   | exact LeO.none _
   | refine LeO.ite ?_ ?_
   | refine LeO.bind ?_ (fun _ => ?_)
theorem impl_Program_isCommand.mono : ∀ a0 a1 a2 a3 a4 a5 k, LeO (impl_Program_isCommand.f k a0 a1 a2 a3 a4 a5) (impl_Program_isCommand.f (k + 1) a0 a1 a2 a3 a4 a5) := by
 intro a0 a1 a2 a3 a4 a5 k
 have ih0 := impl_Program_isCommand.mono_l k
 unfold impl_Program_isCommand.f
 repeat' first
   | (with_reducible exact ih0 _ _ _ _ _ _ _ _ _)
   | (with_reducible exact impl_Program_isCondition.mono _ _ _ _ _ _)
   | (with_reducible exact impl_isTermOf.mono _ _ _ _ _)
   | (with_reducible exact LeO.refl _)
   | (with_reducible exact LeO.none _)
   | (with_reducible refine LeO.ite ?_ ?_)
   | (with_reducible refine LeO.bind ?_ (fun _ => ?_))
   | exact ih0 _ _ _ _ _ _ _ _ _
   | exact impl_Program_isCondition.mono _ _ _ _ _ _
   | exact impl_isTermOf.mono _ _ _ _ _
   | exact LeO.none _
   | refine LeO.ite ?_ ?_
   | refine LeO.bind ?_ (fun _ => ?_)
def impl_Program_isCommand.T6 : Bool × List (List Nat × List Nat) := (true, [([], []), ([0], [0]), ([1], [1]), ([2], [2]), ([3], [3]), ([4, 3], [3, 4]), ([3], [3]), ([6, 3], [3, 6]), ([5, 7, 3], [3, 5, 7]), ([3, 8], [3, 8]), ([9, 3], [9]), ([10], [10]), ([11, 10], [10, 11]), ([12, 10, 10], [10, 12]), ([13], [13]), ([14, 13], [13, 14]), ([13], [13]), ([16, 13], [13, 16]), ([15, 17, 13], [13, 15, 17]), ([18, 13], [13, 18]), ([19, 13], [13, 19]), ([13], [13]), ([21, 13], [13, 21]), ([20, 22, 13], [13, 20, 22]), ([13, 23, 10], [10, 13, 23]), ([10, 24], [10, 24]), ([25, 13], [25]), ([26], [26]), ([27, 26], [26, 27]), ([26], [26]), ([29, 26], [26, 29]), ([26], [26]), ([31, 26], [26, 31]), ([28, 30, 32, 26, 26], [26, 28, 30, 32]), ([33, 26], [26, 33]), ([26, 34], [26, 34])])
def impl_Program_isCommand.B6 : List Nat := [0, 1, 3, 7, 15, 31, 15, 79, 255, 511, 1023, 2047, 4095, 8191, 16383, 32767, 16383, 81919, 262143, 524287, 1048575, 16383, 2113535, 8388607, 16777215, 33554431, 67108863, 134217727, 268435455, 134217727, 671088639, 134217727, 2281701375, 8589934591, 17179869183, 34359738367]
theorem impl_Program_isCommand.tab6 : rtab .any (opsOf Try.f87 6) = impl_Program_isCommand.T6 := by kernel_rfl
theorem impl_Program_isCommand.bits6 : waitsOk impl_Program_isCommand.T6.2 impl_Program_isCommand.B6 = true := by kernel_rfl
set_option maxHeartbeats 8000000 in
set_option maxRecDepth 100000 in
theorem impl_Program_isCommand.calls (k : Nat) (a0_0 : Int) (a0_1 : Int) (A0_2 : Option Addr) (c0_2 : Nat) (l0_2 : List (S80)) (A0_3 : Option Addr) (c0_3 : Nat) (l0_3 : List (S71)) (A1_0 : Option Addr) (c1_0 : Nat) (l1_0 : List (S80)) (A1_1 : Option Addr) (c1_1 : Nat) (l1_1 : List (S102)) (r : Bool) (w : World) (hr0_2 : Kd.C k80 w A0_2 l0_2.length l0_2) (hc0_2 : l0_2.length ≤ c0_2) (hr0_3 : Kd.C k71 w A0_3 l0_3.length l0_3) (hc0_3 : l0_3.length ≤ c0_3) (hr1_0 : Kd.C k80 w A1_0 l1_0.length l1_0) (hc1_0 : l1_0.length ≤ c1_0) (hr1_1 : Kd.C k102 w A1_1 l1_1.length l1_1) (hc1_1 : l1_1.length ≤ c1_1) (h : impl_Program_isCommand.f k a0_0 a0_1 l0_2 l0_3 l1_0 l1_1 = some r) :
  Calls Try.prog 87 #[.agg #[.int .i64 a0_0, .int .i64 a0_1, .slice A0_2 l0_2.length c0_2, .slice A0_3 l0_3.length c0_3], .agg #[.slice A1_0 l1_0.length c1_0, .slice A1_1 l1_1.length c1_1]] w fun e w' => e = .returned (.bool r) ∧ Below w.heap.size w w' := by
 have hu33 := Try.underlying33
 have hu71 := Try.underlying71
 have hu102 := Try.underlying102
 have HR0_2 := am_ hr0_2
 have HC0_2 := am_ hc0_2
 clear hr0_2 hc0_2
 have HR0_3 := am_ hr0_3
 have HC0_3 := am_ hc0_3
 clear hr0_3 hc0_3
 have HR1_0 := am_ hr1_0
 have HC1_0 := am_ hc1_0
 clear hr1_0 hc1_0
 have HR1_1 := am_ hr1_1
 have HC1_1 := am_ hc1_1
 clear hr1_1 hc1_1
 have HB := am_ (Below.refl w.heap.size w)
 have H : ((impl_Program_isCondition.f k a0_0 a0_1 l0_2 l0_3 l1_0).bind fun t340 => (if t340 = true then (impl_Program_isCommand.l0 k l1_1 (l1_1.length : Int) 0 a0_0 a0_1 l0_2 l0_3 l1_0 l1_1) else (some false))) = some r := h
 clear h
 replace H := Option.bind_eq_some_iff.mp H
 obtain ⟨t340, A30, H⟩ := H
 replace H : (if t340 = true then (impl_Program_isCommand.l0 k l1_1 (l1_1.length : Int) 0 a0_0 a0_1 l0_2 l0_3 l1_0 l1_1) else (some false)) = some r := H
 have A3 := am_ A30
 clear A30
 by_cases c4 : t340 = true
 ·subst c4
  have H1 : (impl_Program_isCommand.l0 k l1_1 (l1_1.length : Int) 0 a0_0 a0_1 l0_2 l0_3 l1_0 l1_1) = some r := by rw [if_pos rfl] at H; exact H
  clear H
  have H := H1
  clear H1
  have H' := am_ H
  clear H
  go_enter Try.func87, Try.ntmps87
  go_wp2_with (first | ((with_reducible refine gate_dst (N := 2) rfl ?_); refine Sh.bx (N := 2) (cs := #[.int .i64 a0_0, .int .i64 a0_1, .slice A0_2 l0_2.length c0_2, .slice A0_3 l0_3.length c0_3]) (t := 33) (h := ?_); intro gb338 hg w5 hbox hb; have n0_ := am_ (below_step Sh.bw hb); have n1_ := am_ (hbox); have n2_ := am_ (Sh.gw (w := w) hg); have n3_ := am_ (Sh.gw (w := w) hg); clear HB; have HB := n0_; have BK338 := n1_; have GW338 := n2_; have GE338 := n3_; clear n0_ n1_ n2_ n3_; clear hb hbox hg) | ((with_reducible refine gate_dst (N := 3) rfl ?_); refine Sh.bx (N := 3) (cs := #[.slice A1_0 l1_0.length c1_0, .slice A1_1 l1_1.length c1_1]) (t := 71) (h := ?_); intro gb339 hg w6 hbox hb; have n0_ := am_ (Sh.bb BK338.out hb); have n1_ := am_ (below_step Sh.bw hb); have n2_ := am_ (hbox); have n3_ := am_ (Sh.gw (w := w) hg); have n4_ := am_ (Sh.gw (w := w) hg); have n5_ := am_ (Sh.nl hg BK338.out); have n6_ := am_ (Sh.ng hg BK338.out); clear BK338; clear HB; have BK338 := n0_; have HB := n1_; have BK339 := n2_; have GW339 := n3_; have GE339 := n4_; have NB338_339 := n5_; have NB339_338 := n6_; clear n0_ n1_ n2_ n3_ n4_ n5_ n6_; clear hb hbox hg; have hnb7 := NB338_339.out; have hnc7 := NB339_338.out; have hcz8_0 := Sh.bc BK338.out 0; have hcz8_1 := Sh.bc BK338.out 1; have hcz8_2 := Sh.bc BK338.out 2; have hcz8_3 := Sh.bc BK338.out 3; have hfz8_0 := blk_frozen BK338.out 0; have hfz8_1 := blk_frozen BK338.out 1; have hfz8_2 := blk_frozen BK338.out 2; have hfz8_3 := blk_frozen BK338.out 3; have hcz9_0 := Sh.bc BK339.out 0; have hcz9_1 := Sh.bc BK339.out 1; have hfz9_0 := blk_frozen BK339.out 0; have hfz9_1 := blk_frozen BK339.out 1) | ((with_reducible refine gate_callee (f := 56) rfl ?_); refine Sh.gL (some 10) Try.func56 #[.agg #[.int .i64 a0_0, .int .i64 a0_1, .slice A0_2 l0_2.length c0_2, .slice A0_3 l0_3.length c0_3], .slice A1_0 l1_0.length c1_0] (h := ?_); (with_reducible refine (impl_Program_isCondition.calls k a0_0 a0_1 _ _ l0_2 _ _ l0_3 _ _ l1_0 true _ (Sh.cB HR0_2.out) HC0_2.out (Sh.cB HR0_3.out) HC0_3.out (Sh.cB HR1_0.out) HC1_0.out A3.out).mono ?_); rintro e w10 ⟨rfl, hb⟩; refine ⟨_, rfl, ?_⟩; have n0_ := am_ (Sh.bb BK338.out hb); have n1_ := am_ (Sh.bb BK339.out hb); have n2_ := am_ (below_step Sh.bw hb); clear BK338; clear BK339; clear HB; have BK338 := n0_; have BK339 := n1_; have HB := n2_; clear n0_ n1_ n2_; (try clear hb); (try clear hb2); (try clear hk); (try clear hi); have hcz11_0 := Sh.bc BK339.out 0; have hcz11_1 := Sh.bc BK339.out 1; have hfz11_0 := blk_frozen BK339.out 0; have hfz11_1 := blk_frozen BK339.out 1))
  go_loopg [15] k (fun kq v15 w' => ∃ (x15_1 : Int), v15 = .int .i64 x15_1 ∧ Aside0 (impl_Program_isCommand.l0 kq l1_1 (l1_1.length : Int) x15_1 a0_0 a0_1 l0_2 l0_3 l1_0 l1_1 = some r) ∧ Aside0 (kq ≤ k) ∧ Aside0 (w'.heap[gb338]? = some (.cells #[.int .i64 a0_0, .int .i64 a0_1, (.slice A0_2 l0_2.length c0_2), (.slice A0_3 l0_3.length c0_3)] 33 (0, 0))) ∧ Aside0 (w'.heap[gb339]? = some (.cells #[(.slice A1_0 l1_0.length c1_0), (.slice A1_1 l1_1.length c1_1)] 71 (0, 0))) ∧ Aside0 (Below w.heap.size w w'))
  case atStart => exact ⟨(0), (by first | rfl | (simp; done) | (simp [*]; done)), H', ⟨Nat.le_refl _⟩, ⟨by (with_reducible repeat (first | refine blk_drewN ?_ _ | refine blk_drew ?_ | refine blk_alloc ?_ _)); exact BK338.out⟩, ⟨by (with_reducible repeat (first | refine blk_drewN ?_ _ | refine blk_drew ?_ | refine blk_alloc ?_ _)); exact BK339.out⟩, ⟨by repeat (first | (with_reducible first | exact HB.out | apply below_alloc | apply pw_below_drewN | apply below_drew1 | refine below_set ?_ GE338.out | refine below_set ?_ GE339.out) | exact HB.out)⟩⟩
  case round =>
   clear H'
   try clear c1
   try clear p2
   try clear c4
   try clear c5
   try clear c7
   try clear c8
   try clear hcz11_0
   try clear hcz11_1
   try clear hcz8_0
   try clear hcz8_1
   try clear hcz8_2
   try clear hcz8_3
   try clear hcz9_0
   try clear hcz9_1
   try clear hfz11_0
   try clear hfz11_1
   try clear hfz8_0
   try clear hfz8_1
   try clear hfz8_2
   try clear hfz8_3
   try clear hfz9_0
   try clear hfz9_1
   obtain ⟨x15_1, rfl, HA, HK1, BK338, BK339, HB⟩ := hrel
   cases gk with
   | zero => exact absurd HA.out (by simp [impl_Program_isCommand.l0])
   | succ k1 =>
    have H := HA.out
    clear HA
    simp only [impl_Program_isCommand.l0] at H
    by_cases c12 : x15_1 < (l1_1.length : Int)
    ·rw [if_pos c12] at H
     have c12b0 : decide (x15_1 < (l1_1.length : Int)) = true := decide_eq_true c12
     clear c12
     by_cases c13 : 0 ≤ x15_1
     ·rw [if_pos c13] at H
      have c13b0 : decide (0 ≤ x15_1) = true := decide_eq_true c13
      clear c13
      by_cases c14 : x15_1 < (l1_1.length : Int)
      ·rw [if_pos c14] at H
       have c14b0 : decide (x15_1 < (l1_1.length : Int)) = true := decide_eq_true c14
       clear c14
       by_cases c15 : ((rd_T102 l1_1 x15_1).f0) < 0
       ·rw [if_pos c15] at H
        have c15b0 : decide (((rd_T102 l1_1 x15_1).f0) < 0) = true := decide_eq_true c15
        clear c15
        obtain rfl := Option.some.inj H
        have p341 : 0 ≤ (x15_1 : Int) := of_decide_eq_true (by first | (with_reducible assumption) | assumption)
        have q341 : x15_1 < (l1_1.length : Int) := of_decide_eq_true (by first | (with_reducible assumption) | assumption)
        obtain ⟨ad341, A341_1, c341_1, e341, hx341_0, hx341_1, hl341_1, hi341_1⟩ := at_T102 HR1_1.out x15_1 p341 q341
        cases e341
        (try replace hx341_0 := (HB.out.cell (World.block_lt_of_cell? w _ hx341_0)).trans hx341_0)
        (try replace hx341_1 := (HB.out.cell (World.block_lt_of_cell? w _ hx341_1)).trans hx341_1)
        have HR341_1 := am_ hi341_1
        have HC341_1 := am_ hl341_1
        clear hi341_1 hl341_1
        replace p341 := eq_true p341
        replace q341 := eq_true q341
        try go_wp2_with (first | ((with_reducible refine gate_dst (N := 6) rfl ?_); refine Sh.bx (N := 6) (cs := #[.int .i64 0, .slice none 0 0]) (t := 102) (h := ?_); intro gb342 hg w16 hbox hb; have n0_ := am_ (Sh.bb BK338.out hb); have n1_ := am_ (Sh.bb BK339.out hb); have n2_ := am_ (below_step Sh.bw hb); have n3_ := am_ (hbox); have n4_ := am_ (Sh.gw (w := w) hg); have n5_ := am_ (Sh.gw (w := w) hg); have n6_ := am_ (Sh.nl hg BK338.out); have n7_ := am_ (Sh.ng hg BK338.out); have n8_ := am_ (Sh.nl hg BK339.out); have n9_ := am_ (Sh.ng hg BK339.out); clear BK338; clear BK339; clear HB; have BK338 := n0_; have BK339 := n1_; have HB := n2_; have BK342 := n3_; have GW342 := n4_; have GE342 := n5_; have NB338_342 := n6_; have NB342_338 := n7_; have NB339_342 := n8_; have NB342_339 := n9_; clear n0_ n1_ n2_ n3_ n4_ n5_ n6_ n7_ n8_ n9_; clear hb hbox hg; have hnb17 := NB342_338.out; have hnc17 := NB338_342.out; have hnb18 := NB342_339.out; have hnc18 := NB339_342.out; have hcz19_0 := Sh.bc BK342.out 0; have hcz19_1 := Sh.bc BK342.out 1; have hfz19_0 := blk_frozen BK342.out 0; have hfz19_1 := blk_frozen BK342.out 1))
        have n0_ : Aside0 (((w16.setCell ⟨gb342, 0, none⟩ (.int .i64 ((rd_T102 l1_1 x15_1).f0))).setCell ⟨gb342, 1, none⟩ (.slice A341_1 ((rd_T102 l1_1 x15_1).f1).length c341_1)).heap[gb338]? = some (.cells #[.int .i64 a0_0, .int .i64 a0_1, .slice A0_2 l0_2.length c0_2, .slice A0_3 l0_3.length c0_3] 33 (0, 0))) := ⟨by (with_reducible repeat (first | refine blk_drewN ?_ _ | refine blk_drew ?_ | refine blk_alloc ?_ _)); refine blk_far ?_ NB338_342.out _; (with_reducible repeat (first | refine blk_drewN ?_ _ | refine blk_drew ?_ | refine blk_alloc ?_ _)); refine blk_far ?_ NB338_342.out _; (with_reducible repeat (first | refine blk_drewN ?_ _ | refine blk_drew ?_ | refine blk_alloc ?_ _)); exact BK338.out⟩
        have n1_ : Aside0 (((w16.setCell ⟨gb342, 0, none⟩ (.int .i64 ((rd_T102 l1_1 x15_1).f0))).setCell ⟨gb342, 1, none⟩ (.slice A341_1 ((rd_T102 l1_1 x15_1).f1).length c341_1)).heap[gb339]? = some (.cells #[.slice A1_0 l1_0.length c1_0, .slice (some ad341) l1_1.length c1_1] 71 (0, 0))) := ⟨by (with_reducible repeat (first | refine blk_drewN ?_ _ | refine blk_drew ?_ | refine blk_alloc ?_ _)); refine blk_far ?_ NB339_342.out _; (with_reducible repeat (first | refine blk_drewN ?_ _ | refine blk_drew ?_ | refine blk_alloc ?_ _)); refine blk_far ?_ NB339_342.out _; (with_reducible repeat (first | refine blk_drewN ?_ _ | refine blk_drew ?_ | refine blk_alloc ?_ _)); exact BK339.out⟩
        have n2_ : Aside0 (((w16.setCell ⟨gb342, 0, none⟩ (.int .i64 ((rd_T102 l1_1 x15_1).f0))).setCell ⟨gb342, 1, none⟩ (.slice A341_1 ((rd_T102 l1_1 x15_1).f1).length c341_1)).heap[gb342]? = some (.cells #[.int .i64 ((rd_T102 l1_1 x15_1).f0), .slice A341_1 ((rd_T102 l1_1 x15_1).f1).length c341_1] 102 (0, 0))) := ⟨by (with_reducible repeat (first | refine blk_drewN ?_ _ | refine blk_drew ?_ | refine blk_alloc ?_ _)); refine blk_put (cs := #[.int .i64 ((rd_T102 l1_1 x15_1).f0), .slice none 0 0]) ?_ 1 _ rfl; (with_reducible repeat (first | refine blk_drewN ?_ _ | refine blk_drew ?_ | refine blk_alloc ?_ _)); refine blk_put (cs := #[.int .i64 0, .slice none 0 0]) ?_ 0 _ rfl; (with_reducible repeat (first | refine blk_drewN ?_ _ | refine blk_drew ?_ | refine blk_alloc ?_ _)); exact BK342.out⟩
        have n3_ : Aside0 (Below w.heap.size w ((w16.setCell ⟨gb342, 0, none⟩ (.int .i64 ((rd_T102 l1_1 x15_1).f0))).setCell ⟨gb342, 1, none⟩ (.slice A341_1 ((rd_T102 l1_1 x15_1).f1).length c341_1))) := ⟨by repeat (first | (with_reducible first | exact HB.out | apply below_alloc | apply pw_below_drewN | apply below_drew1 | refine below_set ?_ GE338.out | refine below_set ?_ GE339.out | refine below_set ?_ GE342.out) | exact HB.out)⟩
        (try clear BK338)
        (try clear BK339)
        (try clear BK342)
        (try clear HB)
        generalize ((w16.setCell ⟨gb342, 0, none⟩ (.int .i64 ((rd_T102 l1_1 x15_1).f0))).setCell ⟨gb342, 1, none⟩ (.slice A341_1 ((rd_T102 l1_1 x15_1).f1).length c341_1)) = w20 at n0_ n1_ n2_ n3_ ⊢
        have BK338 := n0_
        have BK339 := n1_
        have BK342 := n2_
        have HB := n3_
        clear n0_ n1_ n2_ n3_
        have n0_ := am_ (blk_drew BK338.out)
        have n1_ := am_ (blk_drew BK339.out)
        have n2_ := am_ (blk_drew BK342.out)
        have n3_ := am_ (below_drew1 HB.out)
        clear BK338
        clear BK339
        clear BK342
        clear HB
        have BK338 := n0_
        have BK339 := n1_
        have BK342 := n2_
        have HB := n3_
        clear n0_ n1_ n2_ n3_
        refine start_ (n := 36) (S := fun w' => w'.cell? ⟨gb342, 0, none⟩ = some (.int .i64 ((rd_T102 l1_1 x15_1).f0)) ∧ w'.cell? ⟨gb342, 1, none⟩ = some (.slice A341_1 ((rd_T102 l1_1 x15_1).f1).length c341_1)) (ds := []) #[false, false, false, false, false, false, false, false, false, false, false, false, false, false, false, false, false, false, false, false, false, false, false, false, false, false, false, false, false, false, false, false, false, false, false, false] (by kernel_rfl) rfl rfl ⟨(blk_cell BK342.out 0).trans rfl, (blk_cell BK342.out 1).trans rfl⟩ (fun hHeld => ?_); refine with_tabW impl_Program_isCommand.tab6 impl_Program_isCommand.bits6 (fun HT_ HW_ => ?_)
        generalize w20.drew = w21 at BK338 BK339 BK342 HB hHeld ⊢
        refine Sh.pA 0 20 (Sh.pre 36 1) (any_of HT_.out (by kernel_rfl)) ?_
        refine Sh.tA 1 21 (Sh.pre 36 2) (take_ofW HT_.out HW_.out (by kernel_rfl)) hHeld ?_ (hy := by rintro w' ⟨s0, s1⟩; go_simp; with_reducible rfl)
        refine Sh.pA 2 22 (Sh.pre 36 3) (any_of HT_.out (by kernel_rfl)) ?_
        refine Sh.pA 3 23 (Sh.pre 36 4) (any_of HT_.out (by kernel_rfl)) ?_
        refine Sh.pU 4 24 (Sh.pre 36 5) (any_of HT_.out (by kernel_rfl)) ?_
        refine Sh.pU 5 25 (Sh.pre 36 6) (any_of HT_.out (by kernel_rfl)) ?_
        refine Sh.pU 6 26 (Sh.pre 36 7) (any_of HT_.out (by kernel_rfl)) ?_
        refine Sh.pU 7 27 (Sh.pre 36 8) (any_of HT_.out (by kernel_rfl)) ?_
        refine Sh.pU 8 28 (Sh.pre 36 9) (any_of HT_.out (by kernel_rfl)) ?_
        refine Sh.pA 9 29 (Sh.pre 36 10) (any_of HT_.out (by kernel_rfl)) ?_
        refine Sh.pA 10 30 (Sh.pre 36 11) (any_of HT_.out (by kernel_rfl)) ?_
        refine Sh.pU 11 31 (Sh.pre 36 12) (any_of HT_.out (by kernel_rfl)) ?_
        refine Sh.pU 12 32 (Sh.pre 36 13) (any_of HT_.out (by kernel_rfl)) ?_
        refine Sh.pU 13 33 (Sh.pre 36 14) (any_of HT_.out (by kernel_rfl)) ?_
        refine Sh.pU 14 34 (Sh.pre 36 15) (any_of HT_.out (by kernel_rfl)) ?_
        refine Sh.pU 15 35 (Sh.pre 36 16) (any_of HT_.out (by kernel_rfl)) ?_
        refine Sh.pU 16 36 (Sh.pre 36 17) (any_of HT_.out (by kernel_rfl)) ?_
        refine Sh.pU 17 37 (Sh.pre 36 18) (any_of HT_.out (by kernel_rfl)) ?_
        refine Sh.pU 18 38 (Sh.pre 36 19) (any_of HT_.out (by kernel_rfl)) ?_
        refine Sh.pU 19 39 (Sh.pre 36 20) (any_of HT_.out (by kernel_rfl)) ?_
        refine Sh.pU 20 40 (Sh.pre 36 21) (any_of HT_.out (by kernel_rfl)) ?_
        refine Sh.pU 21 41 (Sh.pre 36 22) (any_of HT_.out (by kernel_rfl)) ?_
        refine Sh.pU 22 42 (Sh.pre 36 23) (any_of HT_.out (by kernel_rfl)) ?_
        refine Sh.pU 23 43 (Sh.pre 36 24) (any_of HT_.out (by kernel_rfl)) ?_
        refine Sh.pU 24 44 (Sh.pre 36 25) (any_of HT_.out (by kernel_rfl)) ?_
        refine Sh.pA 25 45 (Sh.pre 36 26) (any_of HT_.out (by kernel_rfl)) ?_
        refine Sh.pA 26 46 (Sh.pre 36 27) (any_of HT_.out (by kernel_rfl)) ?_
        refine Sh.pU 27 47 (Sh.pre 36 28) (any_of HT_.out (by kernel_rfl)) ?_
        refine Sh.pU 28 48 (Sh.pre 36 29) (any_of HT_.out (by kernel_rfl)) ?_
        refine Sh.pU 29 49 (Sh.pre 36 30) (any_of HT_.out (by kernel_rfl)) ?_
        refine Sh.pU 30 50 (Sh.pre 36 31) (any_of HT_.out (by kernel_rfl)) ?_
        refine Sh.pU 31 51 (Sh.pre 36 32) (any_of HT_.out (by kernel_rfl)) ?_
        refine Sh.pU 32 52 (Sh.pre 36 33) (any_of HT_.out (by kernel_rfl)) ?_
        refine Sh.pU 33 53 (Sh.pre 36 34) (any_of HT_.out (by kernel_rfl)) ?_
        refine Sh.pU 34 54 (Sh.pre 36 35) (any_of HT_.out (by kernel_rfl)) ?_
        refine Sh.pA 35 55 (Sh.pre 36 36) (any_of HT_.out (by kernel_rfl)) ?_
        refine done_ (done_of HT_.out (by kernel_rfl)) ?_
        try go_wp2
        go_ret
        exact ⟨Sh.eR, Sh.bw⟩
       ·rw [if_neg c15] at H
        have c15b0 : decide (((rd_T102 l1_1 x15_1).f0) < 0) = false := decide_eq_false c15
        clear c15
        by_cases c22 : ((rd_T102 l1_1 x15_1).f0) ≥ a0_1
        ·rw [if_pos c22] at H
         have c22b0 : decide (a0_1 ≤ ((rd_T102 l1_1 x15_1).f0)) = true := decide_eq_true c22
         clear c22
         obtain rfl := Option.some.inj H
         have p341 : 0 ≤ (x15_1 : Int) := of_decide_eq_true (by first | (with_reducible assumption) | assumption)
         have q341 : x15_1 < (l1_1.length : Int) := of_decide_eq_true (by first | (with_reducible assumption) | assumption)
         obtain ⟨ad341, A341_1, c341_1, e341, hx341_0, hx341_1, hl341_1, hi341_1⟩ := at_T102 HR1_1.out x15_1 p341 q341
         cases e341
         (try replace hx341_0 := (HB.out.cell (World.block_lt_of_cell? w _ hx341_0)).trans hx341_0)
         (try replace hx341_1 := (HB.out.cell (World.block_lt_of_cell? w _ hx341_1)).trans hx341_1)
         have HR341_1 := am_ hi341_1
         have HC341_1 := am_ hl341_1
         clear hi341_1 hl341_1
         replace p341 := eq_true p341
         replace q341 := eq_true q341
         try go_wp2_with (first | ((with_reducible refine gate_dst (N := 6) rfl ?_); refine Sh.bx (N := 6) (cs := #[.int .i64 0, .slice none 0 0]) (t := 102) (h := ?_); intro gb342 hg w23 hbox hb; have n0_ := am_ (Sh.bb BK338.out hb); have n1_ := am_ (Sh.bb BK339.out hb); have n2_ := am_ (below_step Sh.bw hb); have n3_ := am_ (hbox); have n4_ := am_ (Sh.gw (w := w) hg); have n5_ := am_ (Sh.gw (w := w) hg); have n6_ := am_ (Sh.nl hg BK338.out); have n7_ := am_ (Sh.ng hg BK338.out); have n8_ := am_ (Sh.nl hg BK339.out); have n9_ := am_ (Sh.ng hg BK339.out); clear BK338; clear BK339; clear HB; have BK338 := n0_; have BK339 := n1_; have HB := n2_; have BK342 := n3_; have GW342 := n4_; have GE342 := n5_; have NB338_342 := n6_; have NB342_338 := n7_; have NB339_342 := n8_; have NB342_339 := n9_; clear n0_ n1_ n2_ n3_ n4_ n5_ n6_ n7_ n8_ n9_; clear hb hbox hg; have hnb24 := NB342_338.out; have hnc24 := NB338_342.out; have hnb25 := NB342_339.out; have hnc25 := NB339_342.out; have hcz26_0 := Sh.bc BK342.out 0; have hcz26_1 := Sh.bc BK342.out 1; have hfz26_0 := blk_frozen BK342.out 0; have hfz26_1 := blk_frozen BK342.out 1))
         have n0_ : Aside0 (((w23.setCell ⟨gb342, 0, none⟩ (.int .i64 ((rd_T102 l1_1 x15_1).f0))).setCell ⟨gb342, 1, none⟩ (.slice A341_1 ((rd_T102 l1_1 x15_1).f1).length c341_1)).heap[gb338]? = some (.cells #[.int .i64 a0_0, .int .i64 a0_1, .slice A0_2 l0_2.length c0_2, .slice A0_3 l0_3.length c0_3] 33 (0, 0))) := ⟨by (with_reducible repeat (first | refine blk_drewN ?_ _ | refine blk_drew ?_ | refine blk_alloc ?_ _)); refine blk_far ?_ NB338_342.out _; (with_reducible repeat (first | refine blk_drewN ?_ _ | refine blk_drew ?_ | refine blk_alloc ?_ _)); refine blk_far ?_ NB338_342.out _; (with_reducible repeat (first | refine blk_drewN ?_ _ | refine blk_drew ?_ | refine blk_alloc ?_ _)); exact BK338.out⟩
         have n1_ : Aside0 (((w23.setCell ⟨gb342, 0, none⟩ (.int .i64 ((rd_T102 l1_1 x15_1).f0))).setCell ⟨gb342, 1, none⟩ (.slice A341_1 ((rd_T102 l1_1 x15_1).f1).length c341_1)).heap[gb339]? = some (.cells #[.slice A1_0 l1_0.length c1_0, .slice (some ad341) l1_1.length c1_1] 71 (0, 0))) := ⟨by (with_reducible repeat (first | refine blk_drewN ?_ _ | refine blk_drew ?_ | refine blk_alloc ?_ _)); refine blk_far ?_ NB339_342.out _; (with_reducible repeat (first | refine blk_drewN ?_ _ | refine blk_drew ?_ | refine blk_alloc ?_ _)); refine blk_far ?_ NB339_342.out _; (with_reducible repeat (first | refine blk_drewN ?_ _ | refine blk_drew ?_ | refine blk_alloc ?_ _)); exact BK339.out⟩
         have n2_ : Aside0 (((w23.setCell ⟨gb342, 0, none⟩ (.int .i64 ((rd_T102 l1_1 x15_1).f0))).setCell ⟨gb342, 1, none⟩ (.slice A341_1 ((rd_T102 l1_1 x15_1).f1).length c341_1)).heap[gb342]? = some (.cells #[.int .i64 ((rd_T102 l1_1 x15_1).f0), .slice A341_1 ((rd_T102 l1_1 x15_1).f1).length c341_1] 102 (0, 0))) := ⟨by (with_reducible repeat (first | refine blk_drewN ?_ _ | refine blk_drew ?_ | refine blk_alloc ?_ _)); refine blk_put (cs := #[.int .i64 ((rd_T102 l1_1 x15_1).f0), .slice none 0 0]) ?_ 1 _ rfl; (with_reducible repeat (first | refine blk_drewN ?_ _ | refine blk_drew ?_ | refine blk_alloc ?_ _)); refine blk_put (cs := #[.int .i64 0, .slice none 0 0]) ?_ 0 _ rfl; (with_reducible repeat (first | refine blk_drewN ?_ _ | refine blk_drew ?_ | refine blk_alloc ?_ _)); exact BK342.out⟩
         have n3_ : Aside0 (Below w.heap.size w ((w23.setCell ⟨gb342, 0, none⟩ (.int .i64 ((rd_T102 l1_1 x15_1).f0))).setCell ⟨gb342, 1, none⟩ (.slice A341_1 ((rd_T102 l1_1 x15_1).f1).length c341_1))) := ⟨by repeat (first | (with_reducible first | exact HB.out | apply below_alloc | apply pw_below_drewN | apply below_drew1 | refine below_set ?_ GE338.out | refine below_set ?_ GE339.out | refine below_set ?_ GE342.out) | exact HB.out)⟩
         (try clear BK338)
         (try clear BK339)
         (try clear BK342)
         (try clear HB)
         generalize ((w23.setCell ⟨gb342, 0, none⟩ (.int .i64 ((rd_T102 l1_1 x15_1).f0))).setCell ⟨gb342, 1, none⟩ (.slice A341_1 ((rd_T102 l1_1 x15_1).f1).length c341_1)) = w27 at n0_ n1_ n2_ n3_ ⊢
         have BK338 := n0_
         have BK339 := n1_
         have BK342 := n2_
         have HB := n3_
         clear n0_ n1_ n2_ n3_
         have n0_ := am_ (blk_drew BK338.out)
         have n1_ := am_ (blk_drew BK339.out)
         have n2_ := am_ (blk_drew BK342.out)
         have n3_ := am_ (below_drew1 HB.out)
         clear BK338
         clear BK339
         clear BK342
         clear HB
         have BK338 := n0_
         have BK339 := n1_
         have BK342 := n2_
         have HB := n3_
         clear n0_ n1_ n2_ n3_
         refine start_ (n := 36) (S := fun w' => w'.cell? ⟨gb342, 0, none⟩ = some (.int .i64 ((rd_T102 l1_1 x15_1).f0)) ∧ w'.cell? ⟨gb342, 1, none⟩ = some (.slice A341_1 ((rd_T102 l1_1 x15_1).f1).length c341_1) ∧ w'.cell? ⟨gb338, 0, none⟩ = some (.int .i64 a0_0) ∧ w'.cell? ⟨gb338, 1, none⟩ = some (.int .i64 a0_1) ∧ w'.cell? ⟨gb338, 2, none⟩ = some (.slice A0_2 l0_2.length c0_2) ∧ w'.cell? ⟨gb338, 3, none⟩ = some (.slice A0_3 l0_3.length c0_3)) (ds := []) #[false, false, false, false, false, false, false, false, false, false, false, false, false, false, false, false, false, false, false, false, false, false, false, false, false, false, false, false, false, false, false, false, false, false, false, false] (by kernel_rfl) rfl rfl ⟨(blk_cell BK342.out 0).trans rfl, (blk_cell BK342.out 1).trans rfl, (blk_cell BK338.out 0).trans rfl, (blk_cell BK338.out 1).trans rfl, (blk_cell BK338.out 2).trans rfl, (blk_cell BK338.out 3).trans rfl⟩ (fun hHeld => ?_); refine with_tabW impl_Program_isCommand.tab6 impl_Program_isCommand.bits6 (fun HT_ HW_ => ?_)
         generalize w27.drew = w28 at BK338 BK339 BK342 HB hHeld ⊢
         refine Sh.pA 0 20 (Sh.pre 36 1) (any_of HT_.out (by kernel_rfl)) ?_
         refine Sh.tA 1 21 (Sh.pre 36 2) (take_ofW HT_.out HW_.out (by kernel_rfl)) hHeld ?_ (hy := by rintro w' ⟨s0, s1, s2, s3, s4, s5⟩; go_simp; with_reducible rfl)
         refine Sh.pA 2 22 (Sh.pre 36 3) (any_of HT_.out (by kernel_rfl)) ?_
         refine Sh.pA 3 23 (Sh.pre 36 4) (any_of HT_.out (by kernel_rfl)) ?_
         refine Sh.pA 4 24 (Sh.pre 36 5) (any_of HT_.out (by kernel_rfl)) ?_
         refine Sh.pA 6 26 #[true, true, true, true, true, false, true, false, false, false, false, false, false, false, false, false, false, false, false, false, false, false, false, false, false, false, false, false, false, false, false, false, false, false, false, false] (any_of HT_.out (by kernel_rfl)) ?_
         refine Sh.tA 5 25 (Sh.pre 36 7) (take_ofW HT_.out HW_.out (by kernel_rfl)) hHeld ?_ (hy := by rintro w' ⟨s0, s1, s2, s3, s4, s5⟩; go_simp; with_reducible rfl)
         refine Sh.tA 7 27 (Sh.pre 36 8) (take_ofW HT_.out HW_.out (by kernel_rfl)) hHeld ?_ (hy := by rintro w' ⟨s0, s1, s2, s3, s4, s5⟩; go_simp; with_reducible rfl)
         refine Sh.pA 8 28 (Sh.pre 36 9) (any_of HT_.out (by kernel_rfl)) ?_
         refine Sh.pA 9 29 (Sh.pre 36 10) (any_of HT_.out (by kernel_rfl)) ?_
         refine Sh.pA 10 30 (Sh.pre 36 11) (any_of HT_.out (by kernel_rfl)) ?_
         refine Sh.pU 11 31 (Sh.pre 36 12) (any_of HT_.out (by kernel_rfl)) ?_
         refine Sh.pU 12 32 (Sh.pre 36 13) (any_of HT_.out (by kernel_rfl)) ?_
         refine Sh.pU 13 33 (Sh.pre 36 14) (any_of HT_.out (by kernel_rfl)) ?_
         refine Sh.pU 14 34 (Sh.pre 36 15) (any_of HT_.out (by kernel_rfl)) ?_
         refine Sh.pU 15 35 (Sh.pre 36 16) (any_of HT_.out (by kernel_rfl)) ?_
         refine Sh.pU 16 36 (Sh.pre 36 17) (any_of HT_.out (by kernel_rfl)) ?_
         refine Sh.pU 17 37 (Sh.pre 36 18) (any_of HT_.out (by kernel_rfl)) ?_
         refine Sh.pU 18 38 (Sh.pre 36 19) (any_of HT_.out (by kernel_rfl)) ?_
         refine Sh.pU 19 39 (Sh.pre 36 20) (any_of HT_.out (by kernel_rfl)) ?_
         refine Sh.pU 20 40 (Sh.pre 36 21) (any_of HT_.out (by kernel_rfl)) ?_
         refine Sh.pU 21 41 (Sh.pre 36 22) (any_of HT_.out (by kernel_rfl)) ?_
         refine Sh.pU 22 42 (Sh.pre 36 23) (any_of HT_.out (by kernel_rfl)) ?_
         refine Sh.pU 23 43 (Sh.pre 36 24) (any_of HT_.out (by kernel_rfl)) ?_
         refine Sh.pU 24 44 (Sh.pre 36 25) (any_of HT_.out (by kernel_rfl)) ?_
         refine Sh.pA 25 45 (Sh.pre 36 26) (any_of HT_.out (by kernel_rfl)) ?_
         refine Sh.pA 26 46 (Sh.pre 36 27) (any_of HT_.out (by kernel_rfl)) ?_
         refine Sh.pU 27 47 (Sh.pre 36 28) (any_of HT_.out (by kernel_rfl)) ?_
         refine Sh.pU 28 48 (Sh.pre 36 29) (any_of HT_.out (by kernel_rfl)) ?_
         refine Sh.pU 29 49 (Sh.pre 36 30) (any_of HT_.out (by kernel_rfl)) ?_
         refine Sh.pU 30 50 (Sh.pre 36 31) (any_of HT_.out (by kernel_rfl)) ?_
         refine Sh.pU 31 51 (Sh.pre 36 32) (any_of HT_.out (by kernel_rfl)) ?_
         refine Sh.pU 32 52 (Sh.pre 36 33) (any_of HT_.out (by kernel_rfl)) ?_
         refine Sh.pU 33 53 (Sh.pre 36 34) (any_of HT_.out (by kernel_rfl)) ?_
         refine Sh.pU 34 54 (Sh.pre 36 35) (any_of HT_.out (by kernel_rfl)) ?_
         refine Sh.pA 35 55 (Sh.pre 36 36) (any_of HT_.out (by kernel_rfl)) ?_
         refine done_ (done_of HT_.out (by kernel_rfl)) ?_
         try go_wp2
         go_ret
         exact ⟨Sh.eR, Sh.bw⟩
        ·rw [if_neg c22] at H
         have c22b0 : decide (a0_1 ≤ ((rd_T102 l1_1 x15_1).f0)) = false := decide_eq_false c22
         clear c22
         by_cases c29 : x15_1 > 0
         ·rw [if_pos c29] at H
          have c29b0 : decide (0 < x15_1) = true := decide_eq_true c29
          clear c29
          obtain ⟨ji30, hji30⟩ : ∃ j_ : Int, (wrap64 (x15_1 - 1)) = j_ := ⟨_, rfl⟩
          replace H : (if 0 ≤ (ji30) then (if (ji30) < (l1_1.length : Int) then (if ((rd_T102 l1_1 (ji30)).f0) ≥ ((rd_T102 l1_1 x15_1).f0) then (some false) else ((impl_isTermOf.f k1 a0_0 a0_1 ((rd_T102 l1_1 x15_1).f1) 1).bind fun t344 => (if t344 = true then (impl_Program_isCommand.l0 k1 l1_1 (l1_1.length : Int) (wrap64 (x15_1 + 1)) a0_0 a0_1 l0_2 l0_3 l1_0 l1_1) else (some false)))) else (none)) else (none)) = some r := by first | (rw [hji30] at H; exact H) | (simp only [hji30] at H ⊢; exact H)
          have hji30w : (IntKind.i64.wrap (x15_1 - 1)) = ji30 := (i64_w _).trans hji30
          by_cases c31 : 0 ≤ (ji30)
          ·rw [if_pos c31] at H
           have c31b0 : decide (0 ≤ (ji30)) = true := decide_eq_true c31
           clear c31
           by_cases c32 : (ji30) < (l1_1.length : Int)
           ·rw [if_pos c32] at H
            have c32b0 : decide ((ji30) < (l1_1.length : Int)) = true := decide_eq_true c32
            clear c32
            by_cases c33 : ((rd_T102 l1_1 (ji30)).f0) ≥ ((rd_T102 l1_1 x15_1).f0)
            ·rw [if_pos c33] at H
             have c33b0 : decide (((rd_T102 l1_1 x15_1).f0) ≤ ((rd_T102 l1_1 (ji30)).f0)) = true := decide_eq_true c33
             clear c33
             obtain rfl := Option.some.inj H
             have p341 : 0 ≤ (x15_1 : Int) := of_decide_eq_true (by first | (with_reducible assumption) | assumption)
             have q341 : x15_1 < (l1_1.length : Int) := of_decide_eq_true (by first | (with_reducible assumption) | assumption)
             obtain ⟨ad341, A341_1, c341_1, e341, hx341_0, hx341_1, hl341_1, hi341_1⟩ := at_T102 HR1_1.out x15_1 p341 q341
             cases e341
             (try replace hx341_0 := (HB.out.cell (World.block_lt_of_cell? w _ hx341_0)).trans hx341_0)
             (try replace hx341_1 := (HB.out.cell (World.block_lt_of_cell? w _ hx341_1)).trans hx341_1)
             have HR341_1 := am_ hi341_1
             have HC341_1 := am_ hl341_1
             clear hi341_1 hl341_1
             replace p341 := eq_true p341
             replace q341 := eq_true q341
             try go_wp2_with (first | ((with_reducible refine gate_dst (N := 6) rfl ?_); refine Sh.bx (N := 6) (cs := #[.int .i64 0, .slice none 0 0]) (t := 102) (h := ?_); intro gb342 hg w34 hbox hb; have n0_ := am_ (Sh.bb BK338.out hb); have n1_ := am_ (Sh.bb BK339.out hb); have n2_ := am_ (below_step Sh.bw hb); have n3_ := am_ (hbox); have n4_ := am_ (Sh.gw (w := w) hg); have n5_ := am_ (Sh.gw (w := w) hg); have n6_ := am_ (Sh.nl hg BK338.out); have n7_ := am_ (Sh.ng hg BK338.out); have n8_ := am_ (Sh.nl hg BK339.out); have n9_ := am_ (Sh.ng hg BK339.out); clear BK338; clear BK339; clear HB; have BK338 := n0_; have BK339 := n1_; have HB := n2_; have BK342 := n3_; have GW342 := n4_; have GE342 := n5_; have NB338_342 := n6_; have NB342_338 := n7_; have NB339_342 := n8_; have NB342_339 := n9_; clear n0_ n1_ n2_ n3_ n4_ n5_ n6_ n7_ n8_ n9_; clear hb hbox hg; have hnb35 := NB342_338.out; have hnc35 := NB338_342.out; have hnb36 := NB342_339.out; have hnc36 := NB339_342.out; have hcz37_0 := Sh.bc BK342.out 0; have hcz37_1 := Sh.bc BK342.out 1; have hfz37_0 := blk_frozen BK342.out 0; have hfz37_1 := blk_frozen BK342.out 1))
             have n0_ : Aside0 (((w34.setCell ⟨gb342, 0, none⟩ (.int .i64 ((rd_T102 l1_1 x15_1).f0))).setCell ⟨gb342, 1, none⟩ (.slice A341_1 ((rd_T102 l1_1 x15_1).f1).length c341_1)).heap[gb338]? = some (.cells #[.int .i64 a0_0, .int .i64 a0_1, .slice A0_2 l0_2.length c0_2, .slice A0_3 l0_3.length c0_3] 33 (0, 0))) := ⟨by (with_reducible repeat (first | refine blk_drewN ?_ _ | refine blk_drew ?_ | refine blk_alloc ?_ _)); refine blk_far ?_ NB338_342.out _; (with_reducible repeat (first | refine blk_drewN ?_ _ | refine blk_drew ?_ | refine blk_alloc ?_ _)); refine blk_far ?_ NB338_342.out _; (with_reducible repeat (first | refine blk_drewN ?_ _ | refine blk_drew ?_ | refine blk_alloc ?_ _)); exact BK338.out⟩
             have n1_ : Aside0 (((w34.setCell ⟨gb342, 0, none⟩ (.int .i64 ((rd_T102 l1_1 x15_1).f0))).setCell ⟨gb342, 1, none⟩ (.slice A341_1 ((rd_T102 l1_1 x15_1).f1).length c341_1)).heap[gb339]? = some (.cells #[.slice A1_0 l1_0.length c1_0, .slice (some ad341) l1_1.length c1_1] 71 (0, 0))) := ⟨by (with_reducible repeat (first | refine blk_drewN ?_ _ | refine blk_drew ?_ | refine blk_alloc ?_ _)); refine blk_far ?_ NB339_342.out _; (with_reducible repeat (first | refine blk_drewN ?_ _ | refine blk_drew ?_ | refine blk_alloc ?_ _)); refine blk_far ?_ NB339_342.out _; (with_reducible repeat (first | refine blk_drewN ?_ _ | refine blk_drew ?_ | refine blk_alloc ?_ _)); exact BK339.out⟩
             have n2_ : Aside0 (((w34.setCell ⟨gb342, 0, none⟩ (.int .i64 ((rd_T102 l1_1 x15_1).f0))).setCell ⟨gb342, 1, none⟩ (.slice A341_1 ((rd_T102 l1_1 x15_1).f1).length c341_1)).heap[gb342]? = some (.cells #[.int .i64 ((rd_T102 l1_1 x15_1).f0), .slice A341_1 ((rd_T102 l1_1 x15_1).f1).length c341_1] 102 (0, 0))) := ⟨by (with_reducible repeat (first | refine blk_drewN ?_ _ | refine blk_drew ?_ | refine blk_alloc ?_ _)); refine blk_put (cs := #[.int .i64 ((rd_T102 l1_1 x15_1).f0), .slice none 0 0]) ?_ 1 _ rfl; (with_reducible repeat (first | refine blk_drewN ?_ _ | refine blk_drew ?_ | refine blk_alloc ?_ _)); refine blk_put (cs := #[.int .i64 0, .slice none 0 0]) ?_ 0 _ rfl; (with_reducible repeat (first | refine blk_drewN ?_ _ | refine blk_drew ?_ | refine blk_alloc ?_ _)); exact BK342.out⟩
             have n3_ : Aside0 (Below w.heap.size w ((w34.setCell ⟨gb342, 0, none⟩ (.int .i64 ((rd_T102 l1_1 x15_1).f0))).setCell ⟨gb342, 1, none⟩ (.slice A341_1 ((rd_T102 l1_1 x15_1).f1).length c341_1))) := ⟨by repeat (first | (with_reducible first | exact HB.out | apply below_alloc | apply pw_below_drewN | apply below_drew1 | refine below_set ?_ GE338.out | refine below_set ?_ GE339.out | refine below_set ?_ GE342.out) | exact HB.out)⟩
             (try clear BK338)
             (try clear BK339)
             (try clear BK342)
             (try clear HB)
             generalize ((w34.setCell ⟨gb342, 0, none⟩ (.int .i64 ((rd_T102 l1_1 x15_1).f0))).setCell ⟨gb342, 1, none⟩ (.slice A341_1 ((rd_T102 l1_1 x15_1).f1).length c341_1)) = w38 at n0_ n1_ n2_ n3_ ⊢
             have BK338 := n0_
             have BK339 := n1_
             have BK342 := n2_
             have HB := n3_
             clear n0_ n1_ n2_ n3_
             have n0_ := am_ (blk_drew BK338.out)
             have n1_ := am_ (blk_drew BK339.out)
             have n2_ := am_ (blk_drew BK342.out)
             have n3_ := am_ (below_drew1 HB.out)
             clear BK338
             clear BK339
             clear BK342
             clear HB
             have BK338 := n0_
             have BK339 := n1_
             have BK342 := n2_
             have HB := n3_
             clear n0_ n1_ n2_ n3_
             have p343 : 0 ≤ ((ji30) : Int) := of_decide_eq_true (by first | (with_reducible assumption) | assumption)
             have q343 : (ji30) < (l1_1.length : Int) := of_decide_eq_true (by first | (with_reducible assumption) | assumption)
             obtain ⟨ad343, A343_1, c343_1, e343, hx343_0, hx343_1, hl343_1, hi343_1⟩ := at_T102 HR1_1.out (ji30) p343 q343
             have hw343_1 := hx343_1
             have hw343_0 := hx343_0
             obtain rfl : ad341 = ad343 := (by injection e343)
             (try replace hx343_0 := (HB.out.cell (World.block_lt_of_cell? w _ hx343_0)).trans hx343_0)
             (try replace hx343_1 := (HB.out.cell (World.block_lt_of_cell? w _ hx343_1)).trans hx343_1)
             have HR343_1 := am_ hi343_1
             have HC343_1 := am_ hl343_1
             clear hi343_1 hl343_1
             replace p343 := eq_true p343
             replace q343 := eq_true q343
             refine start_ (n := 36) (S := fun w' => w'.cell? ⟨gb342, 0, none⟩ = some (.int .i64 ((rd_T102 l1_1 x15_1).f0)) ∧ w'.cell? ⟨gb342, 1, none⟩ = some (.slice A341_1 ((rd_T102 l1_1 x15_1).f1).length c341_1) ∧ w'.cell? ⟨gb338, 0, none⟩ = some (.int .i64 a0_0) ∧ w'.cell? ⟨gb338, 1, none⟩ = some (.int .i64 a0_1) ∧ w'.cell? ⟨gb338, 2, none⟩ = some (.slice A0_2 l0_2.length c0_2) ∧ w'.cell? ⟨gb338, 3, none⟩ = some (.slice A0_3 l0_3.length c0_3) ∧ w'.cell? ⟨gb339, 0, none⟩ = some (.slice A1_0 l1_0.length c1_0) ∧ w'.cell? ⟨gb339, 1, none⟩ = some (.slice (some ad341) l1_1.length c1_1) ∧ w'.cell? (ad341.add (((ji30)).toNat * 2)) = some (.int .i64 ((rd_T102 l1_1 (ji30)).f0)) ∧ w'.cell? ⟨(ad341.add (((ji30)).toNat * 2)).block, (ad341.add (((ji30)).toNat * 2)).off + 1, none⟩ = some (.slice A343_1 ((rd_T102 l1_1 (ji30)).f1).length c343_1)) (ds := []) #[false, false, false, false, false, false, false, false, false, false, false, false, false, false, false, false, false, false, false, false, false, false, false, false, false, false, false, false, false, false, false, false, false, false, false, false] (by kernel_rfl) rfl rfl ⟨(blk_cell BK342.out 0).trans rfl, (blk_cell BK342.out 1).trans rfl, (blk_cell BK338.out 0).trans rfl, (blk_cell BK338.out 1).trans rfl, (blk_cell BK338.out 2).trans rfl, (blk_cell BK338.out 3).trans rfl, (blk_cell BK339.out 0).trans rfl, (blk_cell BK339.out 1).trans rfl, ((HB.out.cell (World.block_lt_of_cell? w _ hw343_0)).trans hw343_0), ((HB.out.cell (World.block_lt_of_cell? w _ hw343_1)).trans hw343_1)⟩ (fun hHeld => ?_); refine with_tabW impl_Program_isCommand.tab6 impl_Program_isCommand.bits6 (fun HT_ HW_ => ?_)
             generalize w38.drew = w39 at BK338 BK339 BK342 HB HR343_1 hx343_0 hx343_1 hHeld ⊢
             refine Sh.pA 0 20 (Sh.pre 36 1) (any_of HT_.out (by kernel_rfl)) ?_ (ha := by simp only [Act.put, List.setIfInBounds_toArray, List.set_cons_zero, List.set_cons_succ, i64_w, i32_w, hji30]; rfl)
             refine Sh.tA 1 21 (Sh.pre 36 2) (take_ofW HT_.out HW_.out (by kernel_rfl)) hHeld ?_ (hy := by rintro w' ⟨s0, s1, s2, s3, s4, s5, s6, s7, s8, s9⟩; go_simp; with_reducible rfl) (ha := by simp only [Act.put, List.setIfInBounds_toArray, List.set_cons_zero, List.set_cons_succ, i64_w, i32_w, hji30]; rfl)
             refine Sh.pA 2 22 (Sh.pre 36 3) (any_of HT_.out (by kernel_rfl)) ?_ (ha := by simp only [Act.put, List.setIfInBounds_toArray, List.set_cons_zero, List.set_cons_succ, i64_w, i32_w, hji30]; rfl)
             refine Sh.pA 3 23 (Sh.pre 36 4) (any_of HT_.out (by kernel_rfl)) ?_ (ha := by simp only [Act.put, List.setIfInBounds_toArray, List.set_cons_zero, List.set_cons_succ, i64_w, i32_w, hji30]; rfl)
             refine Sh.pA 4 24 (Sh.pre 36 5) (any_of HT_.out (by kernel_rfl)) ?_ (ha := by simp only [Act.put, List.setIfInBounds_toArray, List.set_cons_zero, List.set_cons_succ, i64_w, i32_w, hji30]; rfl)
             refine Sh.pA 6 26 #[true, true, true, true, true, false, true, false, false, false, false, false, false, false, false, false, false, false, false, false, false, false, false, false, false, false, false, false, false, false, false, false, false, false, false, false] (any_of HT_.out (by kernel_rfl)) ?_ (ha := by simp only [Act.put, List.setIfInBounds_toArray, List.set_cons_zero, List.set_cons_succ, i64_w, i32_w, hji30]; rfl)
             refine Sh.tA 5 25 (Sh.pre 36 7) (take_ofW HT_.out HW_.out (by kernel_rfl)) hHeld ?_ (hy := by rintro w' ⟨s0, s1, s2, s3, s4, s5, s6, s7, s8, s9⟩; go_simp; with_reducible rfl) (ha := by simp only [Act.put, List.setIfInBounds_toArray, List.set_cons_zero, List.set_cons_succ, i64_w, i32_w, hji30]; rfl)
             refine Sh.tA 7 27 (Sh.pre 36 8) (take_ofW HT_.out HW_.out (by kernel_rfl)) hHeld ?_ (hy := by rintro w' ⟨s0, s1, s2, s3, s4, s5, s6, s7, s8, s9⟩; go_simp; with_reducible rfl) (ha := by simp only [Act.put, List.setIfInBounds_toArray, List.set_cons_zero, List.set_cons_succ, i64_w, i32_w, hji30]; rfl)
             refine Sh.pA 8 28 (Sh.pre 36 9) (any_of HT_.out (by kernel_rfl)) ?_ (ha := by simp only [Act.put, List.setIfInBounds_toArray, List.set_cons_zero, List.set_cons_succ, i64_w, i32_w, hji30]; rfl)
             refine Sh.pA 9 29 (Sh.pre 36 10) (any_of HT_.out (by kernel_rfl)) ?_ (ha := by simp only [Act.put, List.setIfInBounds_toArray, List.set_cons_zero, List.set_cons_succ, i64_w, i32_w, hji30]; rfl)
             refine Sh.pA 10 30 (Sh.pre 36 11) (any_of HT_.out (by kernel_rfl)) ?_ (ha := by simp only [Act.put, List.setIfInBounds_toArray, List.set_cons_zero, List.set_cons_succ, i64_w, i32_w, hji30]; rfl)
             refine Sh.pA 11 31 (Sh.pre 36 12) (any_of HT_.out (by kernel_rfl)) ?_ (ha := by simp only [Act.put, List.setIfInBounds_toArray, List.set_cons_zero, List.set_cons_succ, i64_w, i32_w, hji30]; rfl)
             refine Sh.pA 12 32 (Sh.pre 36 13) (any_of HT_.out (by kernel_rfl)) ?_ (ha := by simp only [Act.put, List.setIfInBounds_toArray, List.set_cons_zero, List.set_cons_succ, i64_w, i32_w, hji30]; rfl)
             refine Sh.pA 13 33 (Sh.pre 36 14) (any_of HT_.out (by kernel_rfl)) ?_ (ha := by simp only [Act.put, List.setIfInBounds_toArray, List.set_cons_zero, List.set_cons_succ, i64_w, i32_w, hji30]; rfl)
             refine Sh.pA 14 34 (Sh.pre 36 15) (any_of HT_.out (by kernel_rfl)) ?_ (ha := by simp only [Act.put, List.setIfInBounds_toArray, List.set_cons_zero, List.set_cons_succ, i64_w, i32_w, hji30]; rfl)
             refine Sh.pA 16 36 #[true, true, true, true, true, true, true, true, true, true, true, true, true, true, true, false, true, false, false, false, false, false, false, false, false, false, false, false, false, false, false, false, false, false, false, false] (any_of HT_.out (by kernel_rfl)) ?_ (ha := by simp only [Act.put, List.setIfInBounds_toArray, List.set_cons_zero, List.set_cons_succ, i64_w, i32_w, hji30]; rfl)
             refine Sh.pA 17 37 #[true, true, true, true, true, true, true, true, true, true, true, true, true, true, true, false, true, true, false, false, false, false, false, false, false, false, false, false, false, false, false, false, false, false, false, false] (any_of HT_.out (by kernel_rfl)) ?_ (ha := by simp only [Act.put, List.setIfInBounds_toArray, List.set_cons_zero, List.set_cons_succ, i64_w, i32_w, hji30]; rfl)
             refine Sh.pA 21 41 #[true, true, true, true, true, true, true, true, true, true, true, true, true, true, true, false, true, true, false, false, false, true, false, false, false, false, false, false, false, false, false, false, false, false, false, false] (any_of HT_.out (by kernel_rfl)) ?_ (ha := by simp only [Act.put, List.setIfInBounds_toArray, List.set_cons_zero, List.set_cons_succ, i64_w, i32_w, hji30]; rfl)
             refine Sh.tA 15 35 #[true, true, true, true, true, true, true, true, true, true, true, true, true, true, true, true, true, true, false, false, false, true, false, false, false, false, false, false, false, false, false, false, false, false, false, false] (take_ofW HT_.out HW_.out (by kernel_rfl)) hHeld ?_ (hy := by rintro w' ⟨s0, s1, s2, s3, s4, s5, s6, s7, s8, s9⟩; go_simp; with_reducible rfl) (ha := by simp only [Act.put, List.setIfInBounds_toArray, List.set_cons_zero, List.set_cons_succ, i64_w, i32_w, hji30]; rfl)
             refine Sh.pA 18 38 #[true, true, true, true, true, true, true, true, true, true, true, true, true, true, true, true, true, true, true, false, false, true, false, false, false, false, false, false, false, false, false, false, false, false, false, false] (any_of HT_.out (by kernel_rfl)) ?_ (ha := by simp only [Act.put, List.setIfInBounds_toArray, List.set_cons_zero, List.set_cons_succ, i64_w, i32_w, hji30]; rfl)
             refine Sh.pA 19 39 #[true, true, true, true, true, true, true, true, true, true, true, true, true, true, true, true, true, true, true, true, false, true, false, false, false, false, false, false, false, false, false, false, false, false, false, false] (any_of HT_.out (by kernel_rfl)) ?_ (ha := by simp only [Act.put, List.setIfInBounds_toArray, List.set_cons_zero, List.set_cons_succ, i64_w, i32_w, hji30]; rfl)
             refine Sh.tA 20 40 (Sh.pre 36 22) (take_ofW HT_.out HW_.out (by kernel_rfl)) hHeld ?_ (hy := by rintro w' ⟨s0, s1, s2, s3, s4, s5, s6, s7, s8, s9⟩; go_simp; with_reducible rfl) (ha := by simp only [Act.put, List.setIfInBounds_toArray, List.set_cons_zero, List.set_cons_succ, i64_w, i32_w, hji30]; rfl)
             refine Sh.tA 22 42 (Sh.pre 36 23) (take_ofW HT_.out HW_.out (by kernel_rfl)) hHeld ?_ (hy := by rintro w' ⟨s0, s1, s2, s3, s4, s5, s6, s7, s8, s9⟩; go_simp; with_reducible rfl) (ha := by simp only [Act.put, List.setIfInBounds_toArray, List.set_cons_zero, List.set_cons_succ, i64_w, i32_w, hji30]; rfl)
             refine Sh.pA 23 43 (Sh.pre 36 24) (any_of HT_.out (by kernel_rfl)) ?_ (ha := by simp only [Act.put, List.setIfInBounds_toArray, List.set_cons_zero, List.set_cons_succ, i64_w, i32_w, hji30]; rfl)
             refine Sh.pA 24 44 (Sh.pre 36 25) (any_of HT_.out (by kernel_rfl)) ?_ (ha := by simp only [Act.put, List.setIfInBounds_toArray, List.set_cons_zero, List.set_cons_succ, i64_w, i32_w, hji30]; rfl)
             refine Sh.pA 25 45 (Sh.pre 36 26) (any_of HT_.out (by kernel_rfl)) ?_ (ha := by simp only [Act.put, List.setIfInBounds_toArray, List.set_cons_zero, List.set_cons_succ, i64_w, i32_w, hji30]; rfl)
             refine Sh.pA 26 46 (Sh.pre 36 27) (any_of HT_.out (by kernel_rfl)) ?_ (ha := by simp only [Act.put, List.setIfInBounds_toArray, List.set_cons_zero, List.set_cons_succ, i64_w, i32_w, hji30]; rfl)
             refine Sh.pU 27 47 (Sh.pre 36 28) (any_of HT_.out (by kernel_rfl)) ?_ (ha := by simp only [Act.put, List.setIfInBounds_toArray, List.set_cons_zero, List.set_cons_succ, i64_w, i32_w, hji30]; rfl)
             refine Sh.pU 28 48 (Sh.pre 36 29) (any_of HT_.out (by kernel_rfl)) ?_ (ha := by simp only [Act.put, List.setIfInBounds_toArray, List.set_cons_zero, List.set_cons_succ, i64_w, i32_w, hji30]; rfl)
             refine Sh.pU 29 49 (Sh.pre 36 30) (any_of HT_.out (by kernel_rfl)) ?_ (ha := by simp only [Act.put, List.setIfInBounds_toArray, List.set_cons_zero, List.set_cons_succ, i64_w, i32_w, hji30]; rfl)
             refine Sh.pU 30 50 (Sh.pre 36 31) (any_of HT_.out (by kernel_rfl)) ?_ (ha := by simp only [Act.put, List.setIfInBounds_toArray, List.set_cons_zero, List.set_cons_succ, i64_w, i32_w, hji30]; rfl)
             refine Sh.pU 31 51 (Sh.pre 36 32) (any_of HT_.out (by kernel_rfl)) ?_ (ha := by simp only [Act.put, List.setIfInBounds_toArray, List.set_cons_zero, List.set_cons_succ, i64_w, i32_w, hji30]; rfl)
             refine Sh.pU 32 52 (Sh.pre 36 33) (any_of HT_.out (by kernel_rfl)) ?_ (ha := by simp only [Act.put, List.setIfInBounds_toArray, List.set_cons_zero, List.set_cons_succ, i64_w, i32_w, hji30]; rfl)
             refine Sh.pU 33 53 (Sh.pre 36 34) (any_of HT_.out (by kernel_rfl)) ?_ (ha := by simp only [Act.put, List.setIfInBounds_toArray, List.set_cons_zero, List.set_cons_succ, i64_w, i32_w, hji30]; rfl)
             refine Sh.pU 34 54 (Sh.pre 36 35) (any_of HT_.out (by kernel_rfl)) ?_ (ha := by simp only [Act.put, List.setIfInBounds_toArray, List.set_cons_zero, List.set_cons_succ, i64_w, i32_w, hji30]; rfl)
             refine Sh.pA 35 55 (Sh.pre 36 36) (any_of HT_.out (by kernel_rfl)) ?_ (ha := by simp only [Act.put, List.setIfInBounds_toArray, List.set_cons_zero, List.set_cons_succ, i64_w, i32_w, hji30]; rfl)
             refine done_ (done_of HT_.out (by kernel_rfl)) ?_
             try go_wp2
             go_ret
             exact ⟨by first | rfl | (simp [errW_none, errW_some] <;> rfl) | (simp only [← hji30]; first | rfl | (simp [errW_none, errW_some] <;> rfl)) | (simp [*, errW_none, errW_some] <;> rfl), Sh.bw⟩
            ·rw [if_neg c33] at H
             have c33b0 : decide (((rd_T102 l1_1 x15_1).f0) ≤ ((rd_T102 l1_1 (ji30)).f0)) = false := decide_eq_false c33
             clear c33
             replace H := Option.bind_eq_some_iff.mp H
             obtain ⟨t344, A400, H⟩ := H
             replace H : (if t344 = true then (impl_Program_isCommand.l0 k1 l1_1 (l1_1.length : Int) (wrap64 (x15_1 + 1)) a0_0 a0_1 l0_2 l0_3 l1_0 l1_1) else (some false)) = some r := H
             have A40 := am_ A400
             clear A400
             by_cases c41 : t344 = true
             ·subst c41
              have H1 : (impl_Program_isCommand.l0 k1 l1_1 (l1_1.length : Int) (wrap64 (x15_1 + 1)) a0_0 a0_1 l0_2 l0_3 l1_0 l1_1) = some r := by rw [if_pos rfl] at H; exact H
              clear H
              have H := H1
              clear H1
              have H' := am_ H
              clear H
              have p341 : 0 ≤ (x15_1 : Int) := of_decide_eq_true (by first | (with_reducible assumption) | assumption)
              have q341 : x15_1 < (l1_1.length : Int) := of_decide_eq_true (by first | (with_reducible assumption) | assumption)
              obtain ⟨ad341, A341_1, c341_1, e341, hx341_0, hx341_1, hl341_1, hi341_1⟩ := at_T102 HR1_1.out x15_1 p341 q341
              cases e341
              (try replace hx341_0 := (HB.out.cell (World.block_lt_of_cell? w _ hx341_0)).trans hx341_0)
              (try replace hx341_1 := (HB.out.cell (World.block_lt_of_cell? w _ hx341_1)).trans hx341_1)
              have HR341_1 := am_ hi341_1
              have HC341_1 := am_ hl341_1
              clear hi341_1 hl341_1
              replace p341 := eq_true p341
              replace q341 := eq_true q341
              try go_wp2_with (first | ((with_reducible refine gate_dst (N := 6) rfl ?_); refine Sh.bx (N := 6) (cs := #[.int .i64 0, .slice none 0 0]) (t := 102) (h := ?_); intro gb342 hg w42 hbox hb; have n0_ := am_ (Sh.bb BK338.out hb); have n1_ := am_ (Sh.bb BK339.out hb); have n2_ := am_ (below_step Sh.bw hb); have n3_ := am_ (hbox); have n4_ := am_ (Sh.gw (w := w) hg); have n5_ := am_ (Sh.gw (w := w) hg); have n6_ := am_ (Sh.nl hg BK338.out); have n7_ := am_ (Sh.ng hg BK338.out); have n8_ := am_ (Sh.nl hg BK339.out); have n9_ := am_ (Sh.ng hg BK339.out); clear BK338; clear BK339; clear HB; have BK338 := n0_; have BK339 := n1_; have HB := n2_; have BK342 := n3_; have GW342 := n4_; have GE342 := n5_; have NB338_342 := n6_; have NB342_338 := n7_; have NB339_342 := n8_; have NB342_339 := n9_; clear n0_ n1_ n2_ n3_ n4_ n5_ n6_ n7_ n8_ n9_; clear hb hbox hg; have hnb43 := NB342_338.out; have hnc43 := NB338_342.out; have hnb44 := NB342_339.out; have hnc44 := NB339_342.out; have hcz45_0 := Sh.bc BK342.out 0; have hcz45_1 := Sh.bc BK342.out 1; have hfz45_0 := blk_frozen BK342.out 0; have hfz45_1 := blk_frozen BK342.out 1))
              have n0_ : Aside0 (((w42.setCell ⟨gb342, 0, none⟩ (.int .i64 ((rd_T102 l1_1 x15_1).f0))).setCell ⟨gb342, 1, none⟩ (.slice A341_1 ((rd_T102 l1_1 x15_1).f1).length c341_1)).heap[gb338]? = some (.cells #[.int .i64 a0_0, .int .i64 a0_1, .slice A0_2 l0_2.length c0_2, .slice A0_3 l0_3.length c0_3] 33 (0, 0))) := ⟨by (with_reducible repeat (first | refine blk_drewN ?_ _ | refine blk_drew ?_ | refine blk_alloc ?_ _)); refine blk_far ?_ NB338_342.out _; (with_reducible repeat (first | refine blk_drewN ?_ _ | refine blk_drew ?_ | refine blk_alloc ?_ _)); refine blk_far ?_ NB338_342.out _; (with_reducible repeat (first | refine blk_drewN ?_ _ | refine blk_drew ?_ | refine blk_alloc ?_ _)); exact BK338.out⟩
              have n1_ : Aside0 (((w42.setCell ⟨gb342, 0, none⟩ (.int .i64 ((rd_T102 l1_1 x15_1).f0))).setCell ⟨gb342, 1, none⟩ (.slice A341_1 ((rd_T102 l1_1 x15_1).f1).length c341_1)).heap[gb339]? = some (.cells #[.slice A1_0 l1_0.length c1_0, .slice (some ad341) l1_1.length c1_1] 71 (0, 0))) := ⟨by (with_reducible repeat (first | refine blk_drewN ?_ _ | refine blk_drew ?_ | refine blk_alloc ?_ _)); refine blk_far ?_ NB339_342.out _; (with_reducible repeat (first | refine blk_drewN ?_ _ | refine blk_drew ?_ | refine blk_alloc ?_ _)); refine blk_far ?_ NB339_342.out _; (with_reducible repeat (first | refine blk_drewN ?_ _ | refine blk_drew ?_ | refine blk_alloc ?_ _)); exact BK339.out⟩
              have n2_ : Aside0 (((w42.setCell ⟨gb342, 0, none⟩ (.int .i64 ((rd_T102 l1_1 x15_1).f0))).setCell ⟨gb342, 1, none⟩ (.slice A341_1 ((rd_T102 l1_1 x15_1).f1).length c341_1)).heap[gb342]? = some (.cells #[.int .i64 ((rd_T102 l1_1 x15_1).f0), .slice A341_1 ((rd_T102 l1_1 x15_1).f1).length c341_1] 102 (0, 0))) := ⟨by (with_reducible repeat (first | refine blk_drewN ?_ _ | refine blk_drew ?_ | refine blk_alloc ?_ _)); refine blk_put (cs := #[.int .i64 ((rd_T102 l1_1 x15_1).f0), .slice none 0 0]) ?_ 1 _ rfl; (with_reducible repeat (first | refine blk_drewN ?_ _ | refine blk_drew ?_ | refine blk_alloc ?_ _)); refine blk_put (cs := #[.int .i64 0, .slice none 0 0]) ?_ 0 _ rfl; (with_reducible repeat (first | refine blk_drewN ?_ _ | refine blk_drew ?_ | refine blk_alloc ?_ _)); exact BK342.out⟩
              have n3_ : Aside0 (Below w.heap.size w ((w42.setCell ⟨gb342, 0, none⟩ (.int .i64 ((rd_T102 l1_1 x15_1).f0))).setCell ⟨gb342, 1, none⟩ (.slice A341_1 ((rd_T102 l1_1 x15_1).f1).length c341_1))) := ⟨by repeat (first | (with_reducible first | exact HB.out | apply below_alloc | apply pw_below_drewN | apply below_drew1 | refine below_set ?_ GE338.out | refine below_set ?_ GE339.out | refine below_set ?_ GE342.out) | exact HB.out)⟩
              (try clear BK338)
              (try clear BK339)
              (try clear BK342)
              (try clear HB)
              generalize ((w42.setCell ⟨gb342, 0, none⟩ (.int .i64 ((rd_T102 l1_1 x15_1).f0))).setCell ⟨gb342, 1, none⟩ (.slice A341_1 ((rd_T102 l1_1 x15_1).f1).length c341_1)) = w46 at n0_ n1_ n2_ n3_ ⊢
              have BK338 := n0_
              have BK339 := n1_
              have BK342 := n2_
              have HB := n3_
              clear n0_ n1_ n2_ n3_
              have n0_ := am_ (blk_drew BK338.out)
              have n1_ := am_ (blk_drew BK339.out)
              have n2_ := am_ (blk_drew BK342.out)
              have n3_ := am_ (below_drew1 HB.out)
              clear BK338
              clear BK339
              clear BK342
              clear HB
              have BK338 := n0_
              have BK339 := n1_
              have BK342 := n2_
              have HB := n3_
              clear n0_ n1_ n2_ n3_
              have p343 : 0 ≤ ((ji30) : Int) := of_decide_eq_true (by first | (with_reducible assumption) | assumption)
              have q343 : (ji30) < (l1_1.length : Int) := of_decide_eq_true (by first | (with_reducible assumption) | assumption)
              obtain ⟨ad343, A343_1, c343_1, e343, hx343_0, hx343_1, hl343_1, hi343_1⟩ := at_T102 HR1_1.out (ji30) p343 q343
              have hw343_1 := hx343_1
              have hw343_0 := hx343_0
              obtain rfl : ad341 = ad343 := (by injection e343)
              (try replace hx343_0 := (HB.out.cell (World.block_lt_of_cell? w _ hx343_0)).trans hx343_0)
              (try replace hx343_1 := (HB.out.cell (World.block_lt_of_cell? w _ hx343_1)).trans hx343_1)
              have HR343_1 := am_ hi343_1
              have HC343_1 := am_ hl343_1
              clear hi343_1 hl343_1
              replace p343 := eq_true p343
              replace q343 := eq_true q343
              refine start_ (n := 36) (S := fun w' => w'.cell? ⟨gb342, 0, none⟩ = some (.int .i64 ((rd_T102 l1_1 x15_1).f0)) ∧ w'.cell? ⟨gb342, 1, none⟩ = some (.slice A341_1 ((rd_T102 l1_1 x15_1).f1).length c341_1) ∧ w'.cell? ⟨gb338, 0, none⟩ = some (.int .i64 a0_0) ∧ w'.cell? ⟨gb338, 1, none⟩ = some (.int .i64 a0_1) ∧ w'.cell? ⟨gb338, 2, none⟩ = some (.slice A0_2 l0_2.length c0_2) ∧ w'.cell? ⟨gb338, 3, none⟩ = some (.slice A0_3 l0_3.length c0_3) ∧ w'.cell? ⟨gb339, 0, none⟩ = some (.slice A1_0 l1_0.length c1_0) ∧ w'.cell? ⟨gb339, 1, none⟩ = some (.slice (some ad341) l1_1.length c1_1) ∧ w'.cell? (ad341.add (((ji30)).toNat * 2)) = some (.int .i64 ((rd_T102 l1_1 (ji30)).f0)) ∧ w'.cell? ⟨(ad341.add (((ji30)).toNat * 2)).block, (ad341.add (((ji30)).toNat * 2)).off + 1, none⟩ = some (.slice A343_1 ((rd_T102 l1_1 (ji30)).f1).length c343_1)) (ds := []) #[false, false, false, false, false, false, false, false, false, false, false, false, false, false, false, false, false, false, false, false, false, false, false, false, false, false, false, false, false, false, false, false, false, false, false, false] (by kernel_rfl) rfl rfl ⟨(blk_cell BK342.out 0).trans rfl, (blk_cell BK342.out 1).trans rfl, (blk_cell BK338.out 0).trans rfl, (blk_cell BK338.out 1).trans rfl, (blk_cell BK338.out 2).trans rfl, (blk_cell BK338.out 3).trans rfl, (blk_cell BK339.out 0).trans rfl, (blk_cell BK339.out 1).trans rfl, ((HB.out.cell (World.block_lt_of_cell? w _ hw343_0)).trans hw343_0), ((HB.out.cell (World.block_lt_of_cell? w _ hw343_1)).trans hw343_1)⟩ (fun hHeld => ?_); refine with_tabW impl_Program_isCommand.tab6 impl_Program_isCommand.bits6 (fun HT_ HW_ => ?_)
              generalize w46.drew = w47 at BK338 BK339 BK342 HB HR343_1 hx343_0 hx343_1 hHeld ⊢
              refine Sh.pA 0 20 (Sh.pre 36 1) (any_of HT_.out (by kernel_rfl)) ?_ (ha := by simp only [Act.put, List.setIfInBounds_toArray, List.set_cons_zero, List.set_cons_succ, i64_w, i32_w, hji30]; rfl)
              refine Sh.tA 1 21 (Sh.pre 36 2) (take_ofW HT_.out HW_.out (by kernel_rfl)) hHeld ?_ (hy := by rintro w' ⟨s0, s1, s2, s3, s4, s5, s6, s7, s8, s9⟩; go_simp; with_reducible rfl) (ha := by simp only [Act.put, List.setIfInBounds_toArray, List.set_cons_zero, List.set_cons_succ, i64_w, i32_w, hji30]; rfl)
              refine Sh.pA 2 22 (Sh.pre 36 3) (any_of HT_.out (by kernel_rfl)) ?_ (ha := by simp only [Act.put, List.setIfInBounds_toArray, List.set_cons_zero, List.set_cons_succ, i64_w, i32_w, hji30]; rfl)
              refine Sh.pA 3 23 (Sh.pre 36 4) (any_of HT_.out (by kernel_rfl)) ?_ (ha := by simp only [Act.put, List.setIfInBounds_toArray, List.set_cons_zero, List.set_cons_succ, i64_w, i32_w, hji30]; rfl)
              refine Sh.pA 4 24 (Sh.pre 36 5) (any_of HT_.out (by kernel_rfl)) ?_ (ha := by simp only [Act.put, List.setIfInBounds_toArray, List.set_cons_zero, List.set_cons_succ, i64_w, i32_w, hji30]; rfl)
              refine Sh.pA 6 26 #[true, true, true, true, true, false, true, false, false, false, false, false, false, false, false, false, false, false, false, false, false, false, false, false, false, false, false, false, false, false, false, false, false, false, false, false] (any_of HT_.out (by kernel_rfl)) ?_ (ha := by simp only [Act.put, List.setIfInBounds_toArray, List.set_cons_zero, List.set_cons_succ, i64_w, i32_w, hji30]; rfl)
              refine Sh.tA 5 25 (Sh.pre 36 7) (take_ofW HT_.out HW_.out (by kernel_rfl)) hHeld ?_ (hy := by rintro w' ⟨s0, s1, s2, s3, s4, s5, s6, s7, s8, s9⟩; go_simp; with_reducible rfl) (ha := by simp only [Act.put, List.setIfInBounds_toArray, List.set_cons_zero, List.set_cons_succ, i64_w, i32_w, hji30]; rfl)
              refine Sh.tA 7 27 (Sh.pre 36 8) (take_ofW HT_.out HW_.out (by kernel_rfl)) hHeld ?_ (hy := by rintro w' ⟨s0, s1, s2, s3, s4, s5, s6, s7, s8, s9⟩; go_simp; with_reducible rfl) (ha := by simp only [Act.put, List.setIfInBounds_toArray, List.set_cons_zero, List.set_cons_succ, i64_w, i32_w, hji30]; rfl)
              refine Sh.pA 8 28 (Sh.pre 36 9) (any_of HT_.out (by kernel_rfl)) ?_ (ha := by simp only [Act.put, List.setIfInBounds_toArray, List.set_cons_zero, List.set_cons_succ, i64_w, i32_w, hji30]; rfl)
              refine Sh.pA 9 29 (Sh.pre 36 10) (any_of HT_.out (by kernel_rfl)) ?_ (ha := by simp only [Act.put, List.setIfInBounds_toArray, List.set_cons_zero, List.set_cons_succ, i64_w, i32_w, hji30]; rfl)
              refine Sh.pA 10 30 (Sh.pre 36 11) (any_of HT_.out (by kernel_rfl)) ?_ (ha := by simp only [Act.put, List.setIfInBounds_toArray, List.set_cons_zero, List.set_cons_succ, i64_w, i32_w, hji30]; rfl)
              refine Sh.pA 11 31 (Sh.pre 36 12) (any_of HT_.out (by kernel_rfl)) ?_ (ha := by simp only [Act.put, List.setIfInBounds_toArray, List.set_cons_zero, List.set_cons_succ, i64_w, i32_w, hji30]; rfl)
              refine Sh.pA 12 32 (Sh.pre 36 13) (any_of HT_.out (by kernel_rfl)) ?_ (ha := by simp only [Act.put, List.setIfInBounds_toArray, List.set_cons_zero, List.set_cons_succ, i64_w, i32_w, hji30]; rfl)
              refine Sh.pA 13 33 (Sh.pre 36 14) (any_of HT_.out (by kernel_rfl)) ?_ (ha := by simp only [Act.put, List.setIfInBounds_toArray, List.set_cons_zero, List.set_cons_succ, i64_w, i32_w, hji30]; rfl)
              refine Sh.pA 14 34 (Sh.pre 36 15) (any_of HT_.out (by kernel_rfl)) ?_ (ha := by simp only [Act.put, List.setIfInBounds_toArray, List.set_cons_zero, List.set_cons_succ, i64_w, i32_w, hji30]; rfl)
              refine Sh.pA 16 36 #[true, true, true, true, true, true, true, true, true, true, true, true, true, true, true, false, true, false, false, false, false, false, false, false, false, false, false, false, false, false, false, false, false, false, false, false] (any_of HT_.out (by kernel_rfl)) ?_ (ha := by simp only [Act.put, List.setIfInBounds_toArray, List.set_cons_zero, List.set_cons_succ, i64_w, i32_w, hji30]; rfl)
              refine Sh.pA 17 37 #[true, true, true, true, true, true, true, true, true, true, true, true, true, true, true, false, true, true, false, false, false, false, false, false, false, false, false, false, false, false, false, false, false, false, false, false] (any_of HT_.out (by kernel_rfl)) ?_ (ha := by simp only [Act.put, List.setIfInBounds_toArray, List.set_cons_zero, List.set_cons_succ, i64_w, i32_w, hji30]; rfl)
              refine Sh.pA 21 41 #[true, true, true, true, true, true, true, true, true, true, true, true, true, true, true, false, true, true, false, false, false, true, false, false, false, false, false, false, false, false, false, false, false, false, false, false] (any_of HT_.out (by kernel_rfl)) ?_ (ha := by simp only [Act.put, List.setIfInBounds_toArray, List.set_cons_zero, List.set_cons_succ, i64_w, i32_w, hji30]; rfl)
              refine Sh.tA 15 35 #[true, true, true, true, true, true, true, true, true, true, true, true, true, true, true, true, true, true, false, false, false, true, false, false, false, false, false, false, false, false, false, false, false, false, false, false] (take_ofW HT_.out HW_.out (by kernel_rfl)) hHeld ?_ (hy := by rintro w' ⟨s0, s1, s2, s3, s4, s5, s6, s7, s8, s9⟩; go_simp; with_reducible rfl) (ha := by simp only [Act.put, List.setIfInBounds_toArray, List.set_cons_zero, List.set_cons_succ, i64_w, i32_w, hji30]; rfl)
              refine Sh.pA 18 38 #[true, true, true, true, true, true, true, true, true, true, true, true, true, true, true, true, true, true, true, false, false, true, false, false, false, false, false, false, false, false, false, false, false, false, false, false] (any_of HT_.out (by kernel_rfl)) ?_ (ha := by simp only [Act.put, List.setIfInBounds_toArray, List.set_cons_zero, List.set_cons_succ, i64_w, i32_w, hji30]; rfl)
              refine Sh.pA 19 39 #[true, true, true, true, true, true, true, true, true, true, true, true, true, true, true, true, true, true, true, true, false, true, false, false, false, false, false, false, false, false, false, false, false, false, false, false] (any_of HT_.out (by kernel_rfl)) ?_ (ha := by simp only [Act.put, List.setIfInBounds_toArray, List.set_cons_zero, List.set_cons_succ, i64_w, i32_w, hji30]; rfl)
              refine Sh.tA 20 40 (Sh.pre 36 22) (take_ofW HT_.out HW_.out (by kernel_rfl)) hHeld ?_ (hy := by rintro w' ⟨s0, s1, s2, s3, s4, s5, s6, s7, s8, s9⟩; go_simp; with_reducible rfl) (ha := by simp only [Act.put, List.setIfInBounds_toArray, List.set_cons_zero, List.set_cons_succ, i64_w, i32_w, hji30]; rfl)
              refine Sh.tA 22 42 (Sh.pre 36 23) (take_ofW HT_.out HW_.out (by kernel_rfl)) hHeld ?_ (hy := by rintro w' ⟨s0, s1, s2, s3, s4, s5, s6, s7, s8, s9⟩; go_simp; with_reducible rfl) (ha := by simp only [Act.put, List.setIfInBounds_toArray, List.set_cons_zero, List.set_cons_succ, i64_w, i32_w, hji30]; rfl)
              refine Sh.pA 23 43 (Sh.pre 36 24) (any_of HT_.out (by kernel_rfl)) ?_ (ha := by simp only [Act.put, List.setIfInBounds_toArray, List.set_cons_zero, List.set_cons_succ, i64_w, i32_w, hji30]; rfl)
              refine Sh.pA 24 44 (Sh.pre 36 25) (any_of HT_.out (by kernel_rfl)) ?_ (ha := by simp only [Act.put, List.setIfInBounds_toArray, List.set_cons_zero, List.set_cons_succ, i64_w, i32_w, hji30]; rfl)
              refine Sh.pA 25 45 (Sh.pre 36 26) (any_of HT_.out (by kernel_rfl)) ?_ (ha := by simp only [Act.put, List.setIfInBounds_toArray, List.set_cons_zero, List.set_cons_succ, i64_w, i32_w, hji30]; rfl)
              refine Sh.pA 26 46 (Sh.pre 36 27) (any_of HT_.out (by kernel_rfl)) ?_ (ha := by simp only [Act.put, List.setIfInBounds_toArray, List.set_cons_zero, List.set_cons_succ, i64_w, i32_w, hji30]; rfl)
              refine Sh.pA 27 47 (Sh.pre 36 28) (any_of HT_.out (by kernel_rfl)) ?_ (ha := by simp only [Act.put, List.setIfInBounds_toArray, List.set_cons_zero, List.set_cons_succ, i64_w, i32_w, hji30]; rfl)
              refine Sh.pA 29 49 #[true, true, true, true, true, true, true, true, true, true, true, true, true, true, true, true, true, true, true, true, true, true, true, true, true, true, true, true, false, true, false, false, false, false, false, false] (any_of HT_.out (by kernel_rfl)) ?_ (ha := by simp only [Act.put, List.setIfInBounds_toArray, List.set_cons_zero, List.set_cons_succ, i64_w, i32_w, hji30]; rfl)
              refine Sh.pA 31 51 #[true, true, true, true, true, true, true, true, true, true, true, true, true, true, true, true, true, true, true, true, true, true, true, true, true, true, true, true, false, true, false, true, false, false, false, false] (any_of HT_.out (by kernel_rfl)) ?_ (ha := by simp only [Act.put, List.setIfInBounds_toArray, List.set_cons_zero, List.set_cons_succ, i64_w, i32_w, hji30]; rfl)
              refine Sh.tA 28 48 #[true, true, true, true, true, true, true, true, true, true, true, true, true, true, true, true, true, true, true, true, true, true, true, true, true, true, true, true, true, true, false, true, false, false, false, false] (take_ofW HT_.out HW_.out (by kernel_rfl)) hHeld ?_ (hy := by rintro w' ⟨s0, s1, s2, s3, s4, s5, s6, s7, s8, s9⟩; go_simp; with_reducible rfl) (ha := by simp only [Act.put, List.setIfInBounds_toArray, List.set_cons_zero, List.set_cons_succ, i64_w, i32_w, hji30]; rfl)
              refine Sh.tA 30 50 (Sh.pre 36 32) (take_ofW HT_.out HW_.out (by kernel_rfl)) hHeld ?_ (hy := by rintro w' ⟨s0, s1, s2, s3, s4, s5, s6, s7, s8, s9⟩; go_simp; with_reducible rfl) (ha := by simp only [Act.put, List.setIfInBounds_toArray, List.set_cons_zero, List.set_cons_succ, i64_w, i32_w, hji30]; rfl)
              refine Sh.tA 32 52 (Sh.pre 36 33) (take_ofW HT_.out HW_.out (by kernel_rfl)) hHeld ?_ (hy := by rintro w' ⟨s0, s1, s2, s3, s4, s5, s6, s7, s8, s9⟩; go_simp; with_reducible rfl) (ha := by simp only [Act.put, List.setIfInBounds_toArray, List.set_cons_zero, List.set_cons_succ, i64_w, i32_w, hji30]; rfl)
              refine one_ (i := 33) (N := some 53) #[true, true, true, true, true, true, true, true, true, true, true, true, true, true, true, true, true, true, true, true, true, true, true, true, true, true, true, true, true, true, true, true, true, true, false, false] rfl rfl (one_of HT_.out (by kernel_rfl)) (by decide) (fun K hK => ?_)
              refine goes_ Try.func74 (by kernel_rfl) rfl #[.int .i64 a0_0, .int .i64 a0_1, .slice A341_1 ((rd_T102 l1_1 x15_1).f1).length c341_1, .int .i64 1] (by rfl) rfl rfl (by (try simp only [List.map_toArray, List.map_cons, List.map_nil]); first | done | rfl | (simp only [List.length_drop, List.length_take]; rfl)) ?_
              with_reducible refine (impl_isTermOf.calls k1 a0_0 a0_1 _ _ ((rd_T102 l1_1 x15_1).f1) 1 true _ ?side1 ?side2 A40.out).mono ?_
              (case side1 => repeat (first | exact (Kd.C_below HR341_1.out HB.out) | (with_reducible first | refine Kd.C_alloc ?_ _ | refine Kd.C_drewN ?_ _ | refine Kd.C_drew ?_)))
              (case side2 => exact HC341_1.out)
              rintro e w48 ⟨rfl, hb⟩
              refine ⟨_, rfl, ?_⟩
              have n0_ := am_ (Sh.bb BK338.out hb)
              have n1_ := am_ (Sh.bb BK339.out hb)
              have n2_ := am_ (Sh.bb BK342.out hb)
              have n3_ := am_ (below_step Sh.bw hb)
              clear BK338
              clear BK339
              clear BK342
              clear HB
              have BK338 := n0_
              have BK339 := n1_
              have BK342 := n2_
              have HB := n3_
              clear n0_ n1_ n2_ n3_
              (try clear hb)
              (try clear hb2)
              (try clear hk)
              (try clear hi)
              refine hK.out _ _ ⟨(blk_cell BK342.out 0).trans rfl, (blk_cell BK342.out 1).trans rfl, (blk_cell BK338.out 0).trans rfl, (blk_cell BK338.out 1).trans rfl, (blk_cell BK338.out 2).trans rfl, (blk_cell BK338.out 3).trans rfl, (blk_cell BK339.out 0).trans rfl, (blk_cell BK339.out 1).trans rfl, ((HB.out.cell (World.block_lt_of_cell? w _ hw343_0)).trans hw343_0), ((HB.out.cell (World.block_lt_of_cell? w _ hw343_1)).trans hw343_1)⟩ (fun hHeld => ?_)
              clear hK K
              refine norm_ (a' := ?_) ?_ ?_
              rotate_left
              ·show Act.put _ (some 53) _ = _
               simp only [Act.put, List.setIfInBounds_toArray, List.set_cons_zero, List.set_cons_succ, i64_w, i32_w, hji30]
               rfl
              refine Sh.pA 34 54 (Sh.pre 36 35) (any_of HT_.out (by kernel_rfl)) ?_ (ha := by simp only [Act.put, List.setIfInBounds_toArray, List.set_cons_zero, List.set_cons_succ, i64_w, i32_w, hji30]; rfl)
              refine Sh.pA 35 55 (Sh.pre 36 36) (any_of HT_.out (by kernel_rfl)) ?_ (ha := by simp only [Act.put, List.setIfInBounds_toArray, List.set_cons_zero, List.set_cons_succ, i64_w, i32_w, hji30]; rfl)
              refine done_ (done_of HT_.out (by kernel_rfl)) ?_
              try go_wp2
              go_roundg k1
              case measure => have := HK1.out; omega
              case rel => exact ⟨(wrap64 (x15_1 + 1)), (by first | rfl | (simp; done) | (simp [*]; done)), H', ⟨by have := HK1.out; omega⟩, ⟨by (with_reducible repeat (first | refine blk_drewN ?_ _ | refine blk_drew ?_ | refine blk_alloc ?_ _)); exact BK338.out⟩, ⟨by (with_reducible repeat (first | refine blk_drewN ?_ _ | refine blk_drew ?_ | refine blk_alloc ?_ _)); exact BK339.out⟩, ⟨by repeat (first | (with_reducible first | exact HB.out | apply below_alloc | apply pw_below_drewN | apply below_drew1 | refine below_set ?_ GE338.out | refine below_set ?_ GE339.out | refine below_set ?_ GE342.out) | exact HB.out)⟩⟩
             ·replace c41 := Bool.eq_false_iff.mpr c41
              subst c41
              have H1 : (some false) = some r := by rw [if_neg (show ¬ (false = true) by decide)] at H; exact H
              clear H
              have H := H1
              clear H1
              obtain rfl := Option.some.inj H
              have p341 : 0 ≤ (x15_1 : Int) := of_decide_eq_true (by first | (with_reducible assumption) | assumption)
              have q341 : x15_1 < (l1_1.length : Int) := of_decide_eq_true (by first | (with_reducible assumption) | assumption)
              obtain ⟨ad341, A341_1, c341_1, e341, hx341_0, hx341_1, hl341_1, hi341_1⟩ := at_T102 HR1_1.out x15_1 p341 q341
              cases e341
              (try replace hx341_0 := (HB.out.cell (World.block_lt_of_cell? w _ hx341_0)).trans hx341_0)
              (try replace hx341_1 := (HB.out.cell (World.block_lt_of_cell? w _ hx341_1)).trans hx341_1)
              have HR341_1 := am_ hi341_1
              have HC341_1 := am_ hl341_1
              clear hi341_1 hl341_1
              replace p341 := eq_true p341
              replace q341 := eq_true q341
              try go_wp2_with (first | ((with_reducible refine gate_dst (N := 6) rfl ?_); refine Sh.bx (N := 6) (cs := #[.int .i64 0, .slice none 0 0]) (t := 102) (h := ?_); intro gb342 hg w49 hbox hb; have n0_ := am_ (Sh.bb BK338.out hb); have n1_ := am_ (Sh.bb BK339.out hb); have n2_ := am_ (below_step Sh.bw hb); have n3_ := am_ (hbox); have n4_ := am_ (Sh.gw (w := w) hg); have n5_ := am_ (Sh.gw (w := w) hg); have n6_ := am_ (Sh.nl hg BK338.out); have n7_ := am_ (Sh.ng hg BK338.out); have n8_ := am_ (Sh.nl hg BK339.out); have n9_ := am_ (Sh.ng hg BK339.out); clear BK338; clear BK339; clear HB; have BK338 := n0_; have BK339 := n1_; have HB := n2_; have BK342 := n3_; have GW342 := n4_; have GE342 := n5_; have NB338_342 := n6_; have NB342_338 := n7_; have NB339_342 := n8_; have NB342_339 := n9_; clear n0_ n1_ n2_ n3_ n4_ n5_ n6_ n7_ n8_ n9_; clear hb hbox hg; have hnb50 := NB342_338.out; have hnc50 := NB338_342.out; have hnb51 := NB342_339.out; have hnc51 := NB339_342.out; have hcz52_0 := Sh.bc BK342.out 0; have hcz52_1 := Sh.bc BK342.out 1; have hfz52_0 := blk_frozen BK342.out 0; have hfz52_1 := blk_frozen BK342.out 1))
              have n0_ : Aside0 (((w49.setCell ⟨gb342, 0, none⟩ (.int .i64 ((rd_T102 l1_1 x15_1).f0))).setCell ⟨gb342, 1, none⟩ (.slice A341_1 ((rd_T102 l1_1 x15_1).f1).length c341_1)).heap[gb338]? = some (.cells #[.int .i64 a0_0, .int .i64 a0_1, .slice A0_2 l0_2.length c0_2, .slice A0_3 l0_3.length c0_3] 33 (0, 0))) := ⟨by (with_reducible repeat (first | refine blk_drewN ?_ _ | refine blk_drew ?_ | refine blk_alloc ?_ _)); refine blk_far ?_ NB338_342.out _; (with_reducible repeat (first | refine blk_drewN ?_ _ | refine blk_drew ?_ | refine blk_alloc ?_ _)); refine blk_far ?_ NB338_342.out _; (with_reducible repeat (first | refine blk_drewN ?_ _ | refine blk_drew ?_ | refine blk_alloc ?_ _)); exact BK338.out⟩
              have n1_ : Aside0 (((w49.setCell ⟨gb342, 0, none⟩ (.int .i64 ((rd_T102 l1_1 x15_1).f0))).setCell ⟨gb342, 1, none⟩ (.slice A341_1 ((rd_T102 l1_1 x15_1).f1).length c341_1)).heap[gb339]? = some (.cells #[.slice A1_0 l1_0.length c1_0, .slice (some ad341) l1_1.length c1_1] 71 (0, 0))) := ⟨by (with_reducible repeat (first | refine blk_drewN ?_ _ | refine blk_drew ?_ | refine blk_alloc ?_ _)); refine blk_far ?_ NB339_342.out _; (with_reducible repeat (first | refine blk_drewN ?_ _ | refine blk_drew ?_ | refine blk_alloc ?_ _)); refine blk_far ?_ NB339_342.out _; (with_reducible repeat (first | refine blk_drewN ?_ _ | refine blk_drew ?_ | refine blk_alloc ?_ _)); exact BK339.out⟩
              have n2_ : Aside0 (((w49.setCell ⟨gb342, 0, none⟩ (.int .i64 ((rd_T102 l1_1 x15_1).f0))).setCell ⟨gb342, 1, none⟩ (.slice A341_1 ((rd_T102 l1_1 x15_1).f1).length c341_1)).heap[gb342]? = some (.cells #[.int .i64 ((rd_T102 l1_1 x15_1).f0), .slice A341_1 ((rd_T102 l1_1 x15_1).f1).length c341_1] 102 (0, 0))) := ⟨by (with_reducible repeat (first | refine blk_drewN ?_ _ | refine blk_drew ?_ | refine blk_alloc ?_ _)); refine blk_put (cs := #[.int .i64 ((rd_T102 l1_1 x15_1).f0), .slice none 0 0]) ?_ 1 _ rfl; (with_reducible repeat (first | refine blk_drewN ?_ _ | refine blk_drew ?_ | refine blk_alloc ?_ _)); refine blk_put (cs := #[.int .i64 0, .slice none 0 0]) ?_ 0 _ rfl; (with_reducible repeat (first | refine blk_drewN ?_ _ | refine blk_drew ?_ | refine blk_alloc ?_ _)); exact BK342.out⟩
              have n3_ : Aside0 (Below w.heap.size w ((w49.setCell ⟨gb342, 0, none⟩ (.int .i64 ((rd_T102 l1_1 x15_1).f0))).setCell ⟨gb342, 1, none⟩ (.slice A341_1 ((rd_T102 l1_1 x15_1).f1).length c341_1))) := ⟨by repeat (first | (with_reducible first | exact HB.out | apply below_alloc | apply pw_below_drewN | apply below_drew1 | refine below_set ?_ GE338.out | refine below_set ?_ GE339.out | refine below_set ?_ GE342.out) | exact HB.out)⟩
              (try clear BK338)
              (try clear BK339)
              (try clear BK342)
              (try clear HB)
              generalize ((w49.setCell ⟨gb342, 0, none⟩ (.int .i64 ((rd_T102 l1_1 x15_1).f0))).setCell ⟨gb342, 1, none⟩ (.slice A341_1 ((rd_T102 l1_1 x15_1).f1).length c341_1)) = w53 at n0_ n1_ n2_ n3_ ⊢
              have BK338 := n0_
              have BK339 := n1_
              have BK342 := n2_
              have HB := n3_
              clear n0_ n1_ n2_ n3_
              have n0_ := am_ (blk_drew BK338.out)
              have n1_ := am_ (blk_drew BK339.out)
              have n2_ := am_ (blk_drew BK342.out)
              have n3_ := am_ (below_drew1 HB.out)
              clear BK338
              clear BK339
              clear BK342
              clear HB
              have BK338 := n0_
              have BK339 := n1_
              have BK342 := n2_
              have HB := n3_
              clear n0_ n1_ n2_ n3_
              have p343 : 0 ≤ ((ji30) : Int) := of_decide_eq_true (by first | (with_reducible assumption) | assumption)
              have q343 : (ji30) < (l1_1.length : Int) := of_decide_eq_true (by first | (with_reducible assumption) | assumption)
              obtain ⟨ad343, A343_1, c343_1, e343, hx343_0, hx343_1, hl343_1, hi343_1⟩ := at_T102 HR1_1.out (ji30) p343 q343
              have hw343_1 := hx343_1
              have hw343_0 := hx343_0
              obtain rfl : ad341 = ad343 := (by injection e343)
              (try replace hx343_0 := (HB.out.cell (World.block_lt_of_cell? w _ hx343_0)).trans hx343_0)
              (try replace hx343_1 := (HB.out.cell (World.block_lt_of_cell? w _ hx343_1)).trans hx343_1)
              have HR343_1 := am_ hi343_1
              have HC343_1 := am_ hl343_1
              clear hi343_1 hl343_1
              replace p343 := eq_true p343
              replace q343 := eq_true q343
              refine start_ (n := 36) (S := fun w' => w'.cell? ⟨gb342, 0, none⟩ = some (.int .i64 ((rd_T102 l1_1 x15_1).f0)) ∧ w'.cell? ⟨gb342, 1, none⟩ = some (.slice A341_1 ((rd_T102 l1_1 x15_1).f1).length c341_1) ∧ w'.cell? ⟨gb338, 0, none⟩ = some (.int .i64 a0_0) ∧ w'.cell? ⟨gb338, 1, none⟩ = some (.int .i64 a0_1) ∧ w'.cell? ⟨gb338, 2, none⟩ = some (.slice A0_2 l0_2.length c0_2) ∧ w'.cell? ⟨gb338, 3, none⟩ = some (.slice A0_3 l0_3.length c0_3) ∧ w'.cell? ⟨gb339, 0, none⟩ = some (.slice A1_0 l1_0.length c1_0) ∧ w'.cell? ⟨gb339, 1, none⟩ = some (.slice (some ad341) l1_1.length c1_1) ∧ w'.cell? (ad341.add (((ji30)).toNat * 2)) = some (.int .i64 ((rd_T102 l1_1 (ji30)).f0)) ∧ w'.cell? ⟨(ad341.add (((ji30)).toNat * 2)).block, (ad341.add (((ji30)).toNat * 2)).off + 1, none⟩ = some (.slice A343_1 ((rd_T102 l1_1 (ji30)).f1).length c343_1)) (ds := []) #[false, false, false, false, false, false, false, false, false, false, false, false, false, false, false, false, false, false, false, false, false, false, false, false, false, false, false, false, false, false, false, false, false, false, false, false] (by kernel_rfl) rfl rfl ⟨(blk_cell BK342.out 0).trans rfl, (blk_cell BK342.out 1).trans rfl, (blk_cell BK338.out 0).trans rfl, (blk_cell BK338.out 1).trans rfl, (blk_cell BK338.out 2).trans rfl, (blk_cell BK338.out 3).trans rfl, (blk_cell BK339.out 0).trans rfl, (blk_cell BK339.out 1).trans rfl, ((HB.out.cell (World.block_lt_of_cell? w _ hw343_0)).trans hw343_0), ((HB.out.cell (World.block_lt_of_cell? w _ hw343_1)).trans hw343_1)⟩ (fun hHeld => ?_); refine with_tabW impl_Program_isCommand.tab6 impl_Program_isCommand.bits6 (fun HT_ HW_ => ?_)
              generalize w53.drew = w54 at BK338 BK339 BK342 HB HR343_1 hx343_0 hx343_1 hHeld ⊢
              refine Sh.pA 0 20 (Sh.pre 36 1) (any_of HT_.out (by kernel_rfl)) ?_ (ha := by simp only [Act.put, List.setIfInBounds_toArray, List.set_cons_zero, List.set_cons_succ, i64_w, i32_w, hji30]; rfl)
              refine Sh.tA 1 21 (Sh.pre 36 2) (take_ofW HT_.out HW_.out (by kernel_rfl)) hHeld ?_ (hy := by rintro w' ⟨s0, s1, s2, s3, s4, s5, s6, s7, s8, s9⟩; go_simp; with_reducible rfl) (ha := by simp only [Act.put, List.setIfInBounds_toArray, List.set_cons_zero, List.set_cons_succ, i64_w, i32_w, hji30]; rfl)
              refine Sh.pA 2 22 (Sh.pre 36 3) (any_of HT_.out (by kernel_rfl)) ?_ (ha := by simp only [Act.put, List.setIfInBounds_toArray, List.set_cons_zero, List.set_cons_succ, i64_w, i32_w, hji30]; rfl)
              refine Sh.pA 3 23 (Sh.pre 36 4) (any_of HT_.out (by kernel_rfl)) ?_ (ha := by simp only [Act.put, List.setIfInBounds_toArray, List.set_cons_zero, List.set_cons_succ, i64_w, i32_w, hji30]; rfl)
              refine Sh.pA 4 24 (Sh.pre 36 5) (any_of HT_.out (by kernel_rfl)) ?_ (ha := by simp only [Act.put, List.setIfInBounds_toArray, List.set_cons_zero, List.set_cons_succ, i64_w, i32_w, hji30]; rfl)
              refine Sh.pA 6 26 #[true, true, true, true, true, false, true, false, false, false, false, false, false, false, false, false, false, false, false, false, false, false, false, false, false, false, false, false, false, false, false, false, false, false, false, false] (any_of HT_.out (by kernel_rfl)) ?_ (ha := by simp only [Act.put, List.setIfInBounds_toArray, List.set_cons_zero, List.set_cons_succ, i64_w, i32_w, hji30]; rfl)
              refine Sh.tA 5 25 (Sh.pre 36 7) (take_ofW HT_.out HW_.out (by kernel_rfl)) hHeld ?_ (hy := by rintro w' ⟨s0, s1, s2, s3, s4, s5, s6, s7, s8, s9⟩; go_simp; with_reducible rfl) (ha := by simp only [Act.put, List.setIfInBounds_toArray, List.set_cons_zero, List.set_cons_succ, i64_w, i32_w, hji30]; rfl)
              refine Sh.tA 7 27 (Sh.pre 36 8) (take_ofW HT_.out HW_.out (by kernel_rfl)) hHeld ?_ (hy := by rintro w' ⟨s0, s1, s2, s3, s4, s5, s6, s7, s8, s9⟩; go_simp; with_reducible rfl) (ha := by simp only [Act.put, List.setIfInBounds_toArray, List.set_cons_zero, List.set_cons_succ, i64_w, i32_w, hji30]; rfl)
              refine Sh.pA 8 28 (Sh.pre 36 9) (any_of HT_.out (by kernel_rfl)) ?_ (ha := by simp only [Act.put, List.setIfInBounds_toArray, List.set_cons_zero, List.set_cons_succ, i64_w, i32_w, hji30]; rfl)
              refine Sh.pA 9 29 (Sh.pre 36 10) (any_of HT_.out (by kernel_rfl)) ?_ (ha := by simp only [Act.put, List.setIfInBounds_toArray, List.set_cons_zero, List.set_cons_succ, i64_w, i32_w, hji30]; rfl)
              refine Sh.pA 10 30 (Sh.pre 36 11) (any_of HT_.out (by kernel_rfl)) ?_ (ha := by simp only [Act.put, List.setIfInBounds_toArray, List.set_cons_zero, List.set_cons_succ, i64_w, i32_w, hji30]; rfl)
              refine Sh.pA 11 31 (Sh.pre 36 12) (any_of HT_.out (by kernel_rfl)) ?_ (ha := by simp only [Act.put, List.setIfInBounds_toArray, List.set_cons_zero, List.set_cons_succ, i64_w, i32_w, hji30]; rfl)
              refine Sh.pA 12 32 (Sh.pre 36 13) (any_of HT_.out (by kernel_rfl)) ?_ (ha := by simp only [Act.put, List.setIfInBounds_toArray, List.set_cons_zero, List.set_cons_succ, i64_w, i32_w, hji30]; rfl)
              refine Sh.pA 13 33 (Sh.pre 36 14) (any_of HT_.out (by kernel_rfl)) ?_ (ha := by simp only [Act.put, List.setIfInBounds_toArray, List.set_cons_zero, List.set_cons_succ, i64_w, i32_w, hji30]; rfl)
              refine Sh.pA 14 34 (Sh.pre 36 15) (any_of HT_.out (by kernel_rfl)) ?_ (ha := by simp only [Act.put, List.setIfInBounds_toArray, List.set_cons_zero, List.set_cons_succ, i64_w, i32_w, hji30]; rfl)
              refine Sh.pA 16 36 #[true, true, true, true, true, true, true, true, true, true, true, true, true, true, true, false, true, false, false, false, false, false, false, false, false, false, false, false, false, false, false, false, false, false, false, false] (any_of HT_.out (by kernel_rfl)) ?_ (ha := by simp only [Act.put, List.setIfInBounds_toArray, List.set_cons_zero, List.set_cons_succ, i64_w, i32_w, hji30]; rfl)
              refine Sh.pA 17 37 #[true, true, true, true, true, true, true, true, true, true, true, true, true, true, true, false, true, true, false, false, false, false, false, false, false, false, false, false, false, false, false, false, false, false, false, false] (any_of HT_.out (by kernel_rfl)) ?_ (ha := by simp only [Act.put, List.setIfInBounds_toArray, List.set_cons_zero, List.set_cons_succ, i64_w, i32_w, hji30]; rfl)
              refine Sh.pA 21 41 #[true, true, true, true, true, true, true, true, true, true, true, true, true, true, true, false, true, true, false, false, false, true, false, false, false, false, false, false, false, false, false, false, false, false, false, false] (any_of HT_.out (by kernel_rfl)) ?_ (ha := by simp only [Act.put, List.setIfInBounds_toArray, List.set_cons_zero, List.set_cons_succ, i64_w, i32_w, hji30]; rfl)
              refine Sh.tA 15 35 #[true, true, true, true, true, true, true, true, true, true, true, true, true, true, true, true, true, true, false, false, false, true, false, false, false, false, false, false, false, false, false, false, false, false, false, false] (take_ofW HT_.out HW_.out (by kernel_rfl)) hHeld ?_ (hy := by rintro w' ⟨s0, s1, s2, s3, s4, s5, s6, s7, s8, s9⟩; go_simp; with_reducible rfl) (ha := by simp only [Act.put, List.setIfInBounds_toArray, List.set_cons_zero, List.set_cons_succ, i64_w, i32_w, hji30]; rfl)
              refine Sh.pA 18 38 #[true, true, true, true, true, true, true, true, true, true, true, true, true, true, true, true, true, true, true, false, false, true, false, false, false, false, false, false, false, false, false, false, false, false, false, false] (any_of HT_.out (by kernel_rfl)) ?_ (ha := by simp only [Act.put, List.setIfInBounds_toArray, List.set_cons_zero, List.set_cons_succ, i64_w, i32_w, hji30]; rfl)
              refine Sh.pA 19 39 #[true, true, true, true, true, true, true, true, true, true, true, true, true, true, true, true, true, true, true, true, false, true, false, false, false, false, false, false, false, false, false, false, false, false, false, false] (any_of HT_.out (by kernel_rfl)) ?_ (ha := by simp only [Act.put, List.setIfInBounds_toArray, List.set_cons_zero, List.set_cons_succ, i64_w, i32_w, hji30]; rfl)
              refine Sh.tA 20 40 (Sh.pre 36 22) (take_ofW HT_.out HW_.out (by kernel_rfl)) hHeld ?_ (hy := by rintro w' ⟨s0, s1, s2, s3, s4, s5, s6, s7, s8, s9⟩; go_simp; with_reducible rfl) (ha := by simp only [Act.put, List.setIfInBounds_toArray, List.set_cons_zero, List.set_cons_succ, i64_w, i32_w, hji30]; rfl)
              refine Sh.tA 22 42 (Sh.pre 36 23) (take_ofW HT_.out HW_.out (by kernel_rfl)) hHeld ?_ (hy := by rintro w' ⟨s0, s1, s2, s3, s4, s5, s6, s7, s8, s9⟩; go_simp; with_reducible rfl) (ha := by simp only [Act.put, List.setIfInBounds_toArray, List.set_cons_zero, List.set_cons_succ, i64_w, i32_w, hji30]; rfl)
              refine Sh.pA 23 43 (Sh.pre 36 24) (any_of HT_.out (by kernel_rfl)) ?_ (ha := by simp only [Act.put, List.setIfInBounds_toArray, List.set_cons_zero, List.set_cons_succ, i64_w, i32_w, hji30]; rfl)
              refine Sh.pA 24 44 (Sh.pre 36 25) (any_of HT_.out (by kernel_rfl)) ?_ (ha := by simp only [Act.put, List.setIfInBounds_toArray, List.set_cons_zero, List.set_cons_succ, i64_w, i32_w, hji30]; rfl)
              refine Sh.pA 25 45 (Sh.pre 36 26) (any_of HT_.out (by kernel_rfl)) ?_ (ha := by simp only [Act.put, List.setIfInBounds_toArray, List.set_cons_zero, List.set_cons_succ, i64_w, i32_w, hji30]; rfl)
              refine Sh.pA 26 46 (Sh.pre 36 27) (any_of HT_.out (by kernel_rfl)) ?_ (ha := by simp only [Act.put, List.setIfInBounds_toArray, List.set_cons_zero, List.set_cons_succ, i64_w, i32_w, hji30]; rfl)
              refine Sh.pA 27 47 (Sh.pre 36 28) (any_of HT_.out (by kernel_rfl)) ?_ (ha := by simp only [Act.put, List.setIfInBounds_toArray, List.set_cons_zero, List.set_cons_succ, i64_w, i32_w, hji30]; rfl)
              refine Sh.pA 29 49 #[true, true, true, true, true, true, true, true, true, true, true, true, true, true, true, true, true, true, true, true, true, true, true, true, true, true, true, true, false, true, false, false, false, false, false, false] (any_of HT_.out (by kernel_rfl)) ?_ (ha := by simp only [Act.put, List.setIfInBounds_toArray, List.set_cons_zero, List.set_cons_succ, i64_w, i32_w, hji30]; rfl)
              refine Sh.pA 31 51 #[true, true, true, true, true, true, true, true, true, true, true, true, true, true, true, true, true, true, true, true, true, true, true, true, true, true, true, true, false, true, false, true, false, false, false, false] (any_of HT_.out (by kernel_rfl)) ?_ (ha := by simp only [Act.put, List.setIfInBounds_toArray, List.set_cons_zero, List.set_cons_succ, i64_w, i32_w, hji30]; rfl)
              refine Sh.tA 28 48 #[true, true, true, true, true, true, true, true, true, true, true, true, true, true, true, true, true, true, true, true, true, true, true, true, true, true, true, true, true, true, false, true, false, false, false, false] (take_ofW HT_.out HW_.out (by kernel_rfl)) hHeld ?_ (hy := by rintro w' ⟨s0, s1, s2, s3, s4, s5, s6, s7, s8, s9⟩; go_simp; with_reducible rfl) (ha := by simp only [Act.put, List.setIfInBounds_toArray, List.set_cons_zero, List.set_cons_succ, i64_w, i32_w, hji30]; rfl)
              refine Sh.tA 30 50 (Sh.pre 36 32) (take_ofW HT_.out HW_.out (by kernel_rfl)) hHeld ?_ (hy := by rintro w' ⟨s0, s1, s2, s3, s4, s5, s6, s7, s8, s9⟩; go_simp; with_reducible rfl) (ha := by simp only [Act.put, List.setIfInBounds_toArray, List.set_cons_zero, List.set_cons_succ, i64_w, i32_w, hji30]; rfl)
              refine Sh.tA 32 52 (Sh.pre 36 33) (take_ofW HT_.out HW_.out (by kernel_rfl)) hHeld ?_ (hy := by rintro w' ⟨s0, s1, s2, s3, s4, s5, s6, s7, s8, s9⟩; go_simp; with_reducible rfl) (ha := by simp only [Act.put, List.setIfInBounds_toArray, List.set_cons_zero, List.set_cons_succ, i64_w, i32_w, hji30]; rfl)
              refine one_ (i := 33) (N := some 53) #[true, true, true, true, true, true, true, true, true, true, true, true, true, true, true, true, true, true, true, true, true, true, true, true, true, true, true, true, true, true, true, true, true, true, false, false] rfl rfl (one_of HT_.out (by kernel_rfl)) (by decide) (fun K hK => ?_)
              refine goes_ Try.func74 (by kernel_rfl) rfl #[.int .i64 a0_0, .int .i64 a0_1, .slice A341_1 ((rd_T102 l1_1 x15_1).f1).length c341_1, .int .i64 1] (by rfl) rfl rfl (by (try simp only [List.map_toArray, List.map_cons, List.map_nil]); first | done | rfl | (simp only [List.length_drop, List.length_take]; rfl)) ?_
              with_reducible refine (impl_isTermOf.calls k1 a0_0 a0_1 _ _ ((rd_T102 l1_1 x15_1).f1) 1 false _ ?side1 ?side2 A40.out).mono ?_
              (case side1 => repeat (first | exact (Kd.C_below HR341_1.out HB.out) | (with_reducible first | refine Kd.C_alloc ?_ _ | refine Kd.C_drewN ?_ _ | refine Kd.C_drew ?_)))
              (case side2 => exact HC341_1.out)
              rintro e w55 ⟨rfl, hb⟩
              refine ⟨_, rfl, ?_⟩
              have n0_ := am_ (Sh.bb BK338.out hb)
              have n1_ := am_ (Sh.bb BK339.out hb)
              have n2_ := am_ (Sh.bb BK342.out hb)
              have n3_ := am_ (below_step Sh.bw hb)
              clear BK338
              clear BK339
              clear BK342
              clear HB
              have BK338 := n0_
              have BK339 := n1_
              have BK342 := n2_
              have HB := n3_
              clear n0_ n1_ n2_ n3_
              (try clear hb)
              (try clear hb2)
              (try clear hk)
              (try clear hi)
              refine hK.out _ _ ⟨(blk_cell BK342.out 0).trans rfl, (blk_cell BK342.out 1).trans rfl, (blk_cell BK338.out 0).trans rfl, (blk_cell BK338.out 1).trans rfl, (blk_cell BK338.out 2).trans rfl, (blk_cell BK338.out 3).trans rfl, (blk_cell BK339.out 0).trans rfl, (blk_cell BK339.out 1).trans rfl, ((HB.out.cell (World.block_lt_of_cell? w _ hw343_0)).trans hw343_0), ((HB.out.cell (World.block_lt_of_cell? w _ hw343_1)).trans hw343_1)⟩ (fun hHeld => ?_)
              clear hK K
              refine norm_ (a' := ?_) ?_ ?_
              rotate_left
              ·show Act.put _ (some 53) _ = _
               simp only [Act.put, List.setIfInBounds_toArray, List.set_cons_zero, List.set_cons_succ, i64_w, i32_w, hji30]
               rfl
              refine Sh.pA 34 54 (Sh.pre 36 35) (any_of HT_.out (by kernel_rfl)) ?_ (ha := by simp only [Act.put, List.setIfInBounds_toArray, List.set_cons_zero, List.set_cons_succ, i64_w, i32_w, hji30]; rfl)
              refine Sh.pA 35 55 (Sh.pre 36 36) (any_of HT_.out (by kernel_rfl)) ?_ (ha := by simp only [Act.put, List.setIfInBounds_toArray, List.set_cons_zero, List.set_cons_succ, i64_w, i32_w, hji30]; rfl)
              refine done_ (done_of HT_.out (by kernel_rfl)) ?_
              try go_wp2
              go_ret
              exact ⟨by first | rfl | (simp [errW_none, errW_some] <;> rfl) | (simp only [← hji30]; first | rfl | (simp [errW_none, errW_some] <;> rfl)) | (simp [*, errW_none, errW_some] <;> rfl), Sh.bw⟩
           ·rw [if_neg c32] at H
            exact absurd H (by simp)
          ·rw [if_neg c31] at H
           exact absurd H (by simp)
         ·rw [if_neg c29] at H
          have c29b0 : decide (0 < x15_1) = false := decide_eq_false c29
          clear c29
          replace H := Option.bind_eq_some_iff.mp H
          obtain ⟨t345, A560, H⟩ := H
          replace H : (if t345 = true then (impl_Program_isCommand.l0 k1 l1_1 (l1_1.length : Int) (wrap64 (x15_1 + 1)) a0_0 a0_1 l0_2 l0_3 l1_0 l1_1) else (some false)) = some r := H
          have A56 := am_ A560
          clear A560
          by_cases c57 : t345 = true
          ·subst c57
           have H1 : (impl_Program_isCommand.l0 k1 l1_1 (l1_1.length : Int) (wrap64 (x15_1 + 1)) a0_0 a0_1 l0_2 l0_3 l1_0 l1_1) = some r := by rw [if_pos rfl] at H; exact H
           clear H
           have H := H1
           clear H1
           have H' := am_ H
           clear H
           have p341 : 0 ≤ (x15_1 : Int) := of_decide_eq_true (by first | (with_reducible assumption) | assumption)
           have q341 : x15_1 < (l1_1.length : Int) := of_decide_eq_true (by first | (with_reducible assumption) | assumption)
           obtain ⟨ad341, A341_1, c341_1, e341, hx341_0, hx341_1, hl341_1, hi341_1⟩ := at_T102 HR1_1.out x15_1 p341 q341
           cases e341
           (try replace hx341_0 := (HB.out.cell (World.block_lt_of_cell? w _ hx341_0)).trans hx341_0)
           (try replace hx341_1 := (HB.out.cell (World.block_lt_of_cell? w _ hx341_1)).trans hx341_1)
           have HR341_1 := am_ hi341_1
           have HC341_1 := am_ hl341_1
           clear hi341_1 hl341_1
           replace p341 := eq_true p341
           replace q341 := eq_true q341
           try go_wp2_with (first | ((with_reducible refine gate_dst (N := 6) rfl ?_); refine Sh.bx (N := 6) (cs := #[.int .i64 0, .slice none 0 0]) (t := 102) (h := ?_); intro gb342 hg w58 hbox hb; have n0_ := am_ (Sh.bb BK338.out hb); have n1_ := am_ (Sh.bb BK339.out hb); have n2_ := am_ (below_step Sh.bw hb); have n3_ := am_ (hbox); have n4_ := am_ (Sh.gw (w := w) hg); have n5_ := am_ (Sh.gw (w := w) hg); have n6_ := am_ (Sh.nl hg BK338.out); have n7_ := am_ (Sh.ng hg BK338.out); have n8_ := am_ (Sh.nl hg BK339.out); have n9_ := am_ (Sh.ng hg BK339.out); clear BK338; clear BK339; clear HB; have BK338 := n0_; have BK339 := n1_; have HB := n2_; have BK342 := n3_; have GW342 := n4_; have GE342 := n5_; have NB338_342 := n6_; have NB342_338 := n7_; have NB339_342 := n8_; have NB342_339 := n9_; clear n0_ n1_ n2_ n3_ n4_ n5_ n6_ n7_ n8_ n9_; clear hb hbox hg; have hnb59 := NB342_338.out; have hnc59 := NB338_342.out; have hnb60 := NB342_339.out; have hnc60 := NB339_342.out; have hcz61_0 := Sh.bc BK342.out 0; have hcz61_1 := Sh.bc BK342.out 1; have hfz61_0 := blk_frozen BK342.out 0; have hfz61_1 := blk_frozen BK342.out 1))
           have n0_ : Aside0 (((w58.setCell ⟨gb342, 0, none⟩ (.int .i64 ((rd_T102 l1_1 x15_1).f0))).setCell ⟨gb342, 1, none⟩ (.slice A341_1 ((rd_T102 l1_1 x15_1).f1).length c341_1)).heap[gb338]? = some (.cells #[.int .i64 a0_0, .int .i64 a0_1, .slice A0_2 l0_2.length c0_2, .slice A0_3 l0_3.length c0_3] 33 (0, 0))) := ⟨by (with_reducible repeat (first | refine blk_drewN ?_ _ | refine blk_drew ?_ | refine blk_alloc ?_ _)); refine blk_far ?_ NB338_342.out _; (with_reducible repeat (first | refine blk_drewN ?_ _ | refine blk_drew ?_ | refine blk_alloc ?_ _)); refine blk_far ?_ NB338_342.out _; (with_reducible repeat (first | refine blk_drewN ?_ _ | refine blk_drew ?_ | refine blk_alloc ?_ _)); exact BK338.out⟩
           have n1_ : Aside0 (((w58.setCell ⟨gb342, 0, none⟩ (.int .i64 ((rd_T102 l1_1 x15_1).f0))).setCell ⟨gb342, 1, none⟩ (.slice A341_1 ((rd_T102 l1_1 x15_1).f1).length c341_1)).heap[gb339]? = some (.cells #[.slice A1_0 l1_0.length c1_0, .slice (some ad341) l1_1.length c1_1] 71 (0, 0))) := ⟨by (with_reducible repeat (first | refine blk_drewN ?_ _ | refine blk_drew ?_ | refine blk_alloc ?_ _)); refine blk_far ?_ NB339_342.out _; (with_reducible repeat (first | refine blk_drewN ?_ _ | refine blk_drew ?_ | refine blk_alloc ?_ _)); refine blk_far ?_ NB339_342.out _; (with_reducible repeat (first | refine blk_drewN ?_ _ | refine blk_drew ?_ | refine blk_alloc ?_ _)); exact BK339.out⟩
           have n2_ : Aside0 (((w58.setCell ⟨gb342, 0, none⟩ (.int .i64 ((rd_T102 l1_1 x15_1).f0))).setCell ⟨gb342, 1, none⟩ (.slice A341_1 ((rd_T102 l1_1 x15_1).f1).length c341_1)).heap[gb342]? = some (.cells #[.int .i64 ((rd_T102 l1_1 x15_1).f0), .slice A341_1 ((rd_T102 l1_1 x15_1).f1).length c341_1] 102 (0, 0))) := ⟨by (with_reducible repeat (first | refine blk_drewN ?_ _ | refine blk_drew ?_ | refine blk_alloc ?_ _)); refine blk_put (cs := #[.int .i64 ((rd_T102 l1_1 x15_1).f0), .slice none 0 0]) ?_ 1 _ rfl; (with_reducible repeat (first | refine blk_drewN ?_ _ | refine blk_drew ?_ | refine blk_alloc ?_ _)); refine blk_put (cs := #[.int .i64 0, .slice none 0 0]) ?_ 0 _ rfl; (with_reducible repeat (first | refine blk_drewN ?_ _ | refine blk_drew ?_ | refine blk_alloc ?_ _)); exact BK342.out⟩
           have n3_ : Aside0 (Below w.heap.size w ((w58.setCell ⟨gb342, 0, none⟩ (.int .i64 ((rd_T102 l1_1 x15_1).f0))).setCell ⟨gb342, 1, none⟩ (.slice A341_1 ((rd_T102 l1_1 x15_1).f1).length c341_1))) := ⟨by repeat (first | (with_reducible first | exact HB.out | apply below_alloc | apply pw_below_drewN | apply below_drew1 | refine below_set ?_ GE338.out | refine below_set ?_ GE339.out | refine below_set ?_ GE342.out) | exact HB.out)⟩
           (try clear BK338)
           (try clear BK339)
           (try clear BK342)
           (try clear HB)
           generalize ((w58.setCell ⟨gb342, 0, none⟩ (.int .i64 ((rd_T102 l1_1 x15_1).f0))).setCell ⟨gb342, 1, none⟩ (.slice A341_1 ((rd_T102 l1_1 x15_1).f1).length c341_1)) = w62 at n0_ n1_ n2_ n3_ ⊢
           have BK338 := n0_
           have BK339 := n1_
           have BK342 := n2_
           have HB := n3_
           clear n0_ n1_ n2_ n3_
           have n0_ := am_ (blk_drew BK338.out)
           have n1_ := am_ (blk_drew BK339.out)
           have n2_ := am_ (blk_drew BK342.out)
           have n3_ := am_ (below_drew1 HB.out)
           clear BK338
           clear BK339
           clear BK342
           clear HB
           have BK338 := n0_
           have BK339 := n1_
           have BK342 := n2_
           have HB := n3_
           clear n0_ n1_ n2_ n3_
           refine start_ (n := 36) (S := fun w' => w'.cell? ⟨gb342, 0, none⟩ = some (.int .i64 ((rd_T102 l1_1 x15_1).f0)) ∧ w'.cell? ⟨gb342, 1, none⟩ = some (.slice A341_1 ((rd_T102 l1_1 x15_1).f1).length c341_1) ∧ w'.cell? ⟨gb338, 0, none⟩ = some (.int .i64 a0_0) ∧ w'.cell? ⟨gb338, 1, none⟩ = some (.int .i64 a0_1) ∧ w'.cell? ⟨gb338, 2, none⟩ = some (.slice A0_2 l0_2.length c0_2) ∧ w'.cell? ⟨gb338, 3, none⟩ = some (.slice A0_3 l0_3.length c0_3)) (ds := []) #[false, false, false, false, false, false, false, false, false, false, false, false, false, false, false, false, false, false, false, false, false, false, false, false, false, false, false, false, false, false, false, false, false, false, false, false] (by kernel_rfl) rfl rfl ⟨(blk_cell BK342.out 0).trans rfl, (blk_cell BK342.out 1).trans rfl, (blk_cell BK338.out 0).trans rfl, (blk_cell BK338.out 1).trans rfl, (blk_cell BK338.out 2).trans rfl, (blk_cell BK338.out 3).trans rfl⟩ (fun hHeld => ?_); refine with_tabW impl_Program_isCommand.tab6 impl_Program_isCommand.bits6 (fun HT_ HW_ => ?_)
           generalize w62.drew = w63 at BK338 BK339 BK342 HB hHeld ⊢
           refine Sh.pA 0 20 (Sh.pre 36 1) (any_of HT_.out (by kernel_rfl)) ?_
           refine Sh.tA 1 21 (Sh.pre 36 2) (take_ofW HT_.out HW_.out (by kernel_rfl)) hHeld ?_ (hy := by rintro w' ⟨s0, s1, s2, s3, s4, s5⟩; go_simp; with_reducible rfl)
           refine Sh.pA 2 22 (Sh.pre 36 3) (any_of HT_.out (by kernel_rfl)) ?_
           refine Sh.pA 3 23 (Sh.pre 36 4) (any_of HT_.out (by kernel_rfl)) ?_
           refine Sh.pA 4 24 (Sh.pre 36 5) (any_of HT_.out (by kernel_rfl)) ?_
           refine Sh.pA 6 26 #[true, true, true, true, true, false, true, false, false, false, false, false, false, false, false, false, false, false, false, false, false, false, false, false, false, false, false, false, false, false, false, false, false, false, false, false] (any_of HT_.out (by kernel_rfl)) ?_
           refine Sh.tA 5 25 (Sh.pre 36 7) (take_ofW HT_.out HW_.out (by kernel_rfl)) hHeld ?_ (hy := by rintro w' ⟨s0, s1, s2, s3, s4, s5⟩; go_simp; with_reducible rfl)
           refine Sh.tA 7 27 (Sh.pre 36 8) (take_ofW HT_.out HW_.out (by kernel_rfl)) hHeld ?_ (hy := by rintro w' ⟨s0, s1, s2, s3, s4, s5⟩; go_simp; with_reducible rfl)
           refine Sh.pA 8 28 (Sh.pre 36 9) (any_of HT_.out (by kernel_rfl)) ?_
           refine Sh.pA 9 29 (Sh.pre 36 10) (any_of HT_.out (by kernel_rfl)) ?_
           refine Sh.pA 10 30 (Sh.pre 36 11) (any_of HT_.out (by kernel_rfl)) ?_
           refine Sh.pA 11 31 (Sh.pre 36 12) (any_of HT_.out (by kernel_rfl)) ?_
           refine Sh.pA 12 32 (Sh.pre 36 13) (any_of HT_.out (by kernel_rfl)) ?_
           refine Sh.pA 13 33 (Sh.pre 36 14) (any_of HT_.out (by kernel_rfl)) ?_
           refine Sh.pU 14 34 (Sh.pre 36 15) (any_of HT_.out (by kernel_rfl)) ?_
           refine Sh.pU 15 35 (Sh.pre 36 16) (any_of HT_.out (by kernel_rfl)) ?_
           refine Sh.pU 16 36 (Sh.pre 36 17) (any_of HT_.out (by kernel_rfl)) ?_
           refine Sh.pU 17 37 (Sh.pre 36 18) (any_of HT_.out (by kernel_rfl)) ?_
           refine Sh.pU 18 38 (Sh.pre 36 19) (any_of HT_.out (by kernel_rfl)) ?_
           refine Sh.pU 19 39 (Sh.pre 36 20) (any_of HT_.out (by kernel_rfl)) ?_
           refine Sh.pU 20 40 (Sh.pre 36 21) (any_of HT_.out (by kernel_rfl)) ?_
           refine Sh.pU 21 41 (Sh.pre 36 22) (any_of HT_.out (by kernel_rfl)) ?_
           refine Sh.pU 22 42 (Sh.pre 36 23) (any_of HT_.out (by kernel_rfl)) ?_
           refine Sh.pU 23 43 (Sh.pre 36 24) (any_of HT_.out (by kernel_rfl)) ?_
           refine Sh.pA 24 44 (Sh.pre 36 25) (any_of HT_.out (by kernel_rfl)) ?_
           refine Sh.pA 25 45 (Sh.pre 36 26) (any_of HT_.out (by kernel_rfl)) ?_
           refine Sh.pA 26 46 (Sh.pre 36 27) (any_of HT_.out (by kernel_rfl)) ?_
           refine Sh.pA 27 47 (Sh.pre 36 28) (any_of HT_.out (by kernel_rfl)) ?_
           refine Sh.pA 29 49 #[true, true, true, true, true, true, true, true, true, true, true, true, true, true, true, true, true, true, true, true, true, true, true, true, true, true, true, true, false, true, false, false, false, false, false, false] (any_of HT_.out (by kernel_rfl)) ?_
           refine Sh.pA 31 51 #[true, true, true, true, true, true, true, true, true, true, true, true, true, true, true, true, true, true, true, true, true, true, true, true, true, true, true, true, false, true, false, true, false, false, false, false] (any_of HT_.out (by kernel_rfl)) ?_
           refine Sh.tA 28 48 #[true, true, true, true, true, true, true, true, true, true, true, true, true, true, true, true, true, true, true, true, true, true, true, true, true, true, true, true, true, true, false, true, false, false, false, false] (take_ofW HT_.out HW_.out (by kernel_rfl)) hHeld ?_ (hy := by rintro w' ⟨s0, s1, s2, s3, s4, s5⟩; go_simp; with_reducible rfl)
           refine Sh.tA 30 50 (Sh.pre 36 32) (take_ofW HT_.out HW_.out (by kernel_rfl)) hHeld ?_ (hy := by rintro w' ⟨s0, s1, s2, s3, s4, s5⟩; go_simp; with_reducible rfl)
           refine Sh.tA 32 52 (Sh.pre 36 33) (take_ofW HT_.out HW_.out (by kernel_rfl)) hHeld ?_ (hy := by rintro w' ⟨s0, s1, s2, s3, s4, s5⟩; go_simp; with_reducible rfl)
           refine one_ (i := 33) (N := some 53) #[true, true, true, true, true, true, true, true, true, true, true, true, true, true, true, true, true, true, true, true, true, true, true, true, true, true, true, true, true, true, true, true, true, true, false, false] rfl rfl (one_of HT_.out (by kernel_rfl)) (by decide) (fun K hK => ?_)
           refine goes_ Try.func74 (by kernel_rfl) rfl #[.int .i64 a0_0, .int .i64 a0_1, .slice A341_1 ((rd_T102 l1_1 x15_1).f1).length c341_1, .int .i64 1] (by rfl) rfl rfl (by (try simp only [List.map_toArray, List.map_cons, List.map_nil]); first | done | rfl | (simp only [List.length_drop, List.length_take]; rfl)) ?_
           with_reducible refine (impl_isTermOf.calls k1 a0_0 a0_1 _ _ ((rd_T102 l1_1 x15_1).f1) 1 true _ ?side1 ?side2 A56.out).mono ?_
           (case side1 => repeat (first | exact (Kd.C_below HR341_1.out HB.out) | (with_reducible first | refine Kd.C_alloc ?_ _ | refine Kd.C_drewN ?_ _ | refine Kd.C_drew ?_)))
           (case side2 => exact HC341_1.out)
           rintro e w64 ⟨rfl, hb⟩
           refine ⟨_, rfl, ?_⟩
           have n0_ := am_ (Sh.bb BK338.out hb)
           have n1_ := am_ (Sh.bb BK339.out hb)
           have n2_ := am_ (Sh.bb BK342.out hb)
           have n3_ := am_ (below_step Sh.bw hb)
           clear BK338
           clear BK339
           clear BK342
           clear HB
           have BK338 := n0_
           have BK339 := n1_
           have BK342 := n2_
           have HB := n3_
           clear n0_ n1_ n2_ n3_
           (try clear hb)
           (try clear hb2)
           (try clear hk)
           (try clear hi)
           refine hK.out _ _ ⟨(blk_cell BK342.out 0).trans rfl, (blk_cell BK342.out 1).trans rfl, (blk_cell BK338.out 0).trans rfl, (blk_cell BK338.out 1).trans rfl, (blk_cell BK338.out 2).trans rfl, (blk_cell BK338.out 3).trans rfl⟩ (fun hHeld => ?_)
           clear hK K
           refine norm_ (a' := ?_) ?_ ?_
           rotate_left
           ·show Act.put _ (some 53) _ = _
            simp only [Act.put, List.setIfInBounds_toArray, List.set_cons_zero, List.set_cons_succ, i64_w, i32_w]
            rfl
           refine Sh.pA 34 54 (Sh.pre 36 35) (any_of HT_.out (by kernel_rfl)) ?_
           refine Sh.pA 35 55 (Sh.pre 36 36) (any_of HT_.out (by kernel_rfl)) ?_
           refine done_ (done_of HT_.out (by kernel_rfl)) ?_
           try go_wp2
           go_roundg k1
           case measure => have := HK1.out; omega
           case rel => exact ⟨(wrap64 (x15_1 + 1)), (by first | rfl | (simp; done) | (simp [*]; done)), H', ⟨by have := HK1.out; omega⟩, ⟨by (with_reducible repeat (first | refine blk_drewN ?_ _ | refine blk_drew ?_ | refine blk_alloc ?_ _)); exact BK338.out⟩, ⟨by (with_reducible repeat (first | refine blk_drewN ?_ _ | refine blk_drew ?_ | refine blk_alloc ?_ _)); exact BK339.out⟩, ⟨by repeat (first | (with_reducible first | exact HB.out | apply below_alloc | apply pw_below_drewN | apply below_drew1 | refine below_set ?_ GE338.out | refine below_set ?_ GE339.out | refine below_set ?_ GE342.out) | exact HB.out)⟩⟩
          ·replace c57 := Bool.eq_false_iff.mpr c57
           subst c57
           have H1 : (some false) = some r := by rw [if_neg (show ¬ (false = true) by decide)] at H; exact H
           clear H
           have H := H1
           clear H1
           obtain rfl := Option.some.inj H
           have p341 : 0 ≤ (x15_1 : Int) := of_decide_eq_true (by first | (with_reducible assumption) | assumption)
           have q341 : x15_1 < (l1_1.length : Int) := of_decide_eq_true (by first | (with_reducible assumption) | assumption)
           obtain ⟨ad341, A341_1, c341_1, e341, hx341_0, hx341_1, hl341_1, hi341_1⟩ := at_T102 HR1_1.out x15_1 p341 q341
           cases e341
           (try replace hx341_0 := (HB.out.cell (World.block_lt_of_cell? w _ hx341_0)).trans hx341_0)
           (try replace hx341_1 := (HB.out.cell (World.block_lt_of_cell? w _ hx341_1)).trans hx341_1)
           have HR341_1 := am_ hi341_1
           have HC341_1 := am_ hl341_1
           clear hi341_1 hl341_1
           replace p341 := eq_true p341
           replace q341 := eq_true q341
           try go_wp2_with (first | ((with_reducible refine gate_dst (N := 6) rfl ?_); refine Sh.bx (N := 6) (cs := #[.int .i64 0, .slice none 0 0]) (t := 102) (h := ?_); intro gb342 hg w65 hbox hb; have n0_ := am_ (Sh.bb BK338.out hb); have n1_ := am_ (Sh.bb BK339.out hb); have n2_ := am_ (below_step Sh.bw hb); have n3_ := am_ (hbox); have n4_ := am_ (Sh.gw (w := w) hg); have n5_ := am_ (Sh.gw (w := w) hg); have n6_ := am_ (Sh.nl hg BK338.out); have n7_ := am_ (Sh.ng hg BK338.out); have n8_ := am_ (Sh.nl hg BK339.out); have n9_ := am_ (Sh.ng hg BK339.out); clear BK338; clear BK339; clear HB; have BK338 := n0_; have BK339 := n1_; have HB := n2_; have BK342 := n3_; have GW342 := n4_; have GE342 := n5_; have NB338_342 := n6_; have NB342_338 := n7_; have NB339_342 := n8_; have NB342_339 := n9_; clear n0_ n1_ n2_ n3_ n4_ n5_ n6_ n7_ n8_ n9_; clear hb hbox hg; have hnb66 := NB342_338.out; have hnc66 := NB338_342.out; have hnb67 := NB342_339.out; have hnc67 := NB339_342.out; have hcz68_0 := Sh.bc BK342.out 0; have hcz68_1 := Sh.bc BK342.out 1; have hfz68_0 := blk_frozen BK342.out 0; have hfz68_1 := blk_frozen BK342.out 1))
           have n0_ : Aside0 (((w65.setCell ⟨gb342, 0, none⟩ (.int .i64 ((rd_T102 l1_1 x15_1).f0))).setCell ⟨gb342, 1, none⟩ (.slice A341_1 ((rd_T102 l1_1 x15_1).f1).length c341_1)).heap[gb338]? = some (.cells #[.int .i64 a0_0, .int .i64 a0_1, .slice A0_2 l0_2.length c0_2, .slice A0_3 l0_3.length c0_3] 33 (0, 0))) := ⟨by (with_reducible repeat (first | refine blk_drewN ?_ _ | refine blk_drew ?_ | refine blk_alloc ?_ _)); refine blk_far ?_ NB338_342.out _; (with_reducible repeat (first | refine blk_drewN ?_ _ | refine blk_drew ?_ | refine blk_alloc ?_ _)); refine blk_far ?_ NB338_342.out _; (with_reducible repeat (first | refine blk_drewN ?_ _ | refine blk_drew ?_ | refine blk_alloc ?_ _)); exact BK338.out⟩
           have n1_ : Aside0 (((w65.setCell ⟨gb342, 0, none⟩ (.int .i64 ((rd_T102 l1_1 x15_1).f0))).setCell ⟨gb342, 1, none⟩ (.slice A341_1 ((rd_T102 l1_1 x15_1).f1).length c341_1)).heap[gb339]? = some (.cells #[.slice A1_0 l1_0.length c1_0, .slice (some ad341) l1_1.length c1_1] 71 (0, 0))) := ⟨by (with_reducible repeat (first | refine blk_drewN ?_ _ | refine blk_drew ?_ | refine blk_alloc ?_ _)); refine blk_far ?_ NB339_342.out _; (with_reducible repeat (first | refine blk_drewN ?_ _ | refine blk_drew ?_ | refine blk_alloc ?_ _)); refine blk_far ?_ NB339_342.out _; (with_reducible repeat (first | refine blk_drewN ?_ _ | refine blk_drew ?_ | refine blk_alloc ?_ _)); exact BK339.out⟩
           have n2_ : Aside0 (((w65.setCell ⟨gb342, 0, none⟩ (.int .i64 ((rd_T102 l1_1 x15_1).f0))).setCell ⟨gb342, 1, none⟩ (.slice A341_1 ((rd_T102 l1_1 x15_1).f1).length c341_1)).heap[gb342]? = some (.cells #[.int .i64 ((rd_T102 l1_1 x15_1).f0), .slice A341_1 ((rd_T102 l1_1 x15_1).f1).length c341_1] 102 (0, 0))) := ⟨by (with_reducible repeat (first | refine blk_drewN ?_ _ | refine blk_drew ?_ | refine blk_alloc ?_ _)); refine blk_put (cs := #[.int .i64 ((rd_T102 l1_1 x15_1).f0), .slice none 0 0]) ?_ 1 _ rfl; (with_reducible repeat (first | refine blk_drewN ?_ _ | refine blk_drew ?_ | refine blk_alloc ?_ _)); refine blk_put (cs := #[.int .i64 0, .slice none 0 0]) ?_ 0 _ rfl; (with_reducible repeat (first | refine blk_drewN ?_ _ | refine blk_drew ?_ | refine blk_alloc ?_ _)); exact BK342.out⟩
           have n3_ : Aside0 (Below w.heap.size w ((w65.setCell ⟨gb342, 0, none⟩ (.int .i64 ((rd_T102 l1_1 x15_1).f0))).setCell ⟨gb342, 1, none⟩ (.slice A341_1 ((rd_T102 l1_1 x15_1).f1).length c341_1))) := ⟨by repeat (first | (with_reducible first | exact HB.out | apply below_alloc | apply pw_below_drewN | apply below_drew1 | refine below_set ?_ GE338.out | refine below_set ?_ GE339.out | refine below_set ?_ GE342.out) | exact HB.out)⟩
           (try clear BK338)
           (try clear BK339)
           (try clear BK342)
           (try clear HB)
           generalize ((w65.setCell ⟨gb342, 0, none⟩ (.int .i64 ((rd_T102 l1_1 x15_1).f0))).setCell ⟨gb342, 1, none⟩ (.slice A341_1 ((rd_T102 l1_1 x15_1).f1).length c341_1)) = w69 at n0_ n1_ n2_ n3_ ⊢
           have BK338 := n0_
           have BK339 := n1_
           have BK342 := n2_
           have HB := n3_
           clear n0_ n1_ n2_ n3_
           have n0_ := am_ (blk_drew BK338.out)
           have n1_ := am_ (blk_drew BK339.out)
           have n2_ := am_ (blk_drew BK342.out)
           have n3_ := am_ (below_drew1 HB.out)
           clear BK338
           clear BK339
           clear BK342
           clear HB
           have BK338 := n0_
           have BK339 := n1_
           have BK342 := n2_
           have HB := n3_
           clear n0_ n1_ n2_ n3_
           refine start_ (n := 36) (S := fun w' => w'.cell? ⟨gb342, 0, none⟩ = some (.int .i64 ((rd_T102 l1_1 x15_1).f0)) ∧ w'.cell? ⟨gb342, 1, none⟩ = some (.slice A341_1 ((rd_T102 l1_1 x15_1).f1).length c341_1) ∧ w'.cell? ⟨gb338, 0, none⟩ = some (.int .i64 a0_0) ∧ w'.cell? ⟨gb338, 1, none⟩ = some (.int .i64 a0_1) ∧ w'.cell? ⟨gb338, 2, none⟩ = some (.slice A0_2 l0_2.length c0_2) ∧ w'.cell? ⟨gb338, 3, none⟩ = some (.slice A0_3 l0_3.length c0_3)) (ds := []) #[false, false, false, false, false, false, false, false, false, false, false, false, false, false, false, false, false, false, false, false, false, false, false, false, false, false, false, false, false, false, false, false, false, false, false, false] (by kernel_rfl) rfl rfl ⟨(blk_cell BK342.out 0).trans rfl, (blk_cell BK342.out 1).trans rfl, (blk_cell BK338.out 0).trans rfl, (blk_cell BK338.out 1).trans rfl, (blk_cell BK338.out 2).trans rfl, (blk_cell BK338.out 3).trans rfl⟩ (fun hHeld => ?_); refine with_tabW impl_Program_isCommand.tab6 impl_Program_isCommand.bits6 (fun HT_ HW_ => ?_)
           generalize w69.drew = w70 at BK338 BK339 BK342 HB hHeld ⊢
           refine Sh.pA 0 20 (Sh.pre 36 1) (any_of HT_.out (by kernel_rfl)) ?_
           refine Sh.tA 1 21 (Sh.pre 36 2) (take_ofW HT_.out HW_.out (by kernel_rfl)) hHeld ?_ (hy := by rintro w' ⟨s0, s1, s2, s3, s4, s5⟩; go_simp; with_reducible rfl)
           refine Sh.pA 2 22 (Sh.pre 36 3) (any_of HT_.out (by kernel_rfl)) ?_
           refine Sh.pA 3 23 (Sh.pre 36 4) (any_of HT_.out (by kernel_rfl)) ?_
           refine Sh.pA 4 24 (Sh.pre 36 5) (any_of HT_.out (by kernel_rfl)) ?_
           refine Sh.pA 6 26 #[true, true, true, true, true, false, true, false, false, false, false, false, false, false, false, false, false, false, false, false, false, false, false, false, false, false, false, false, false, false, false, false, false, false, false, false] (any_of HT_.out (by kernel_rfl)) ?_
           refine Sh.tA 5 25 (Sh.pre 36 7) (take_ofW HT_.out HW_.out (by kernel_rfl)) hHeld ?_ (hy := by rintro w' ⟨s0, s1, s2, s3, s4, s5⟩; go_simp; with_reducible rfl)
           refine Sh.tA 7 27 (Sh.pre 36 8) (take_ofW HT_.out HW_.out (by kernel_rfl)) hHeld ?_ (hy := by rintro w' ⟨s0, s1, s2, s3, s4, s5⟩; go_simp; with_reducible rfl)
           refine Sh.pA 8 28 (Sh.pre 36 9) (any_of HT_.out (by kernel_rfl)) ?_
           refine Sh.pA 9 29 (Sh.pre 36 10) (any_of HT_.out (by kernel_rfl)) ?_
           refine Sh.pA 10 30 (Sh.pre 36 11) (any_of HT_.out (by kernel_rfl)) ?_
           refine Sh.pA 11 31 (Sh.pre 36 12) (any_of HT_.out (by kernel_rfl)) ?_
           refine Sh.pA 12 32 (Sh.pre 36 13) (any_of HT_.out (by kernel_rfl)) ?_
           refine Sh.pA 13 33 (Sh.pre 36 14) (any_of HT_.out (by kernel_rfl)) ?_
           refine Sh.pU 14 34 (Sh.pre 36 15) (any_of HT_.out (by kernel_rfl)) ?_
           refine Sh.pU 15 35 (Sh.pre 36 16) (any_of HT_.out (by kernel_rfl)) ?_
           refine Sh.pU 16 36 (Sh.pre 36 17) (any_of HT_.out (by kernel_rfl)) ?_
           refine Sh.pU 17 37 (Sh.pre 36 18) (any_of HT_.out (by kernel_rfl)) ?_
           refine Sh.pU 18 38 (Sh.pre 36 19) (any_of HT_.out (by kernel_rfl)) ?_
           refine Sh.pU 19 39 (Sh.pre 36 20) (any_of HT_.out (by kernel_rfl)) ?_
           refine Sh.pU 20 40 (Sh.pre 36 21) (any_of HT_.out (by kernel_rfl)) ?_
           refine Sh.pU 21 41 (Sh.pre 36 22) (any_of HT_.out (by kernel_rfl)) ?_
           refine Sh.pU 22 42 (Sh.pre 36 23) (any_of HT_.out (by kernel_rfl)) ?_
           refine Sh.pU 23 43 (Sh.pre 36 24) (any_of HT_.out (by kernel_rfl)) ?_
           refine Sh.pA 24 44 (Sh.pre 36 25) (any_of HT_.out (by kernel_rfl)) ?_
           refine Sh.pA 25 45 (Sh.pre 36 26) (any_of HT_.out (by kernel_rfl)) ?_
           refine Sh.pA 26 46 (Sh.pre 36 27) (any_of HT_.out (by kernel_rfl)) ?_
           refine Sh.pA 27 47 (Sh.pre 36 28) (any_of HT_.out (by kernel_rfl)) ?_
           refine Sh.pA 29 49 #[true, true, true, true, true, true, true, true, true, true, true, true, true, true, true, true, true, true, true, true, true, true, true, true, true, true, true, true, false, true, false, false, false, false, false, false] (any_of HT_.out (by kernel_rfl)) ?_
           refine Sh.pA 31 51 #[true, true, true, true, true, true, true, true, true, true, true, true, true, true, true, true, true, true, true, true, true, true, true, true, true, true, true, true, false, true, false, true, false, false, false, false] (any_of HT_.out (by kernel_rfl)) ?_
           refine Sh.tA 28 48 #[true, true, true, true, true, true, true, true, true, true, true, true, true, true, true, true, true, true, true, true, true, true, true, true, true, true, true, true, true, true, false, true, false, false, false, false] (take_ofW HT_.out HW_.out (by kernel_rfl)) hHeld ?_ (hy := by rintro w' ⟨s0, s1, s2, s3, s4, s5⟩; go_simp; with_reducible rfl)
           refine Sh.tA 30 50 (Sh.pre 36 32) (take_ofW HT_.out HW_.out (by kernel_rfl)) hHeld ?_ (hy := by rintro w' ⟨s0, s1, s2, s3, s4, s5⟩; go_simp; with_reducible rfl)
           refine Sh.tA 32 52 (Sh.pre 36 33) (take_ofW HT_.out HW_.out (by kernel_rfl)) hHeld ?_ (hy := by rintro w' ⟨s0, s1, s2, s3, s4, s5⟩; go_simp; with_reducible rfl)
           refine one_ (i := 33) (N := some 53) #[true, true, true, true, true, true, true, true, true, true, true, true, true, true, true, true, true, true, true, true, true, true, true, true, true, true, true, true, true, true, true, true, true, true, false, false] rfl rfl (one_of HT_.out (by kernel_rfl)) (by decide) (fun K hK => ?_)
           refine goes_ Try.func74 (by kernel_rfl) rfl #[.int .i64 a0_0, .int .i64 a0_1, .slice A341_1 ((rd_T102 l1_1 x15_1).f1).length c341_1, .int .i64 1] (by rfl) rfl rfl (by (try simp only [List.map_toArray, List.map_cons, List.map_nil]); first | done | rfl | (simp only [List.length_drop, List.length_take]; rfl)) ?_
           with_reducible refine (impl_isTermOf.calls k1 a0_0 a0_1 _ _ ((rd_T102 l1_1 x15_1).f1) 1 false _ ?side1 ?side2 A56.out).mono ?_
           (case side1 => repeat (first | exact (Kd.C_below HR341_1.out HB.out) | (with_reducible first | refine Kd.C_alloc ?_ _ | refine Kd.C_drewN ?_ _ | refine Kd.C_drew ?_)))
           (case side2 => exact HC341_1.out)
           rintro e w71 ⟨rfl, hb⟩
           refine ⟨_, rfl, ?_⟩
           have n0_ := am_ (Sh.bb BK338.out hb)
           have n1_ := am_ (Sh.bb BK339.out hb)
           have n2_ := am_ (Sh.bb BK342.out hb)
           have n3_ := am_ (below_step Sh.bw hb)
           clear BK338
           clear BK339
           clear BK342
           clear HB
           have BK338 := n0_
           have BK339 := n1_
           have BK342 := n2_
           have HB := n3_
           clear n0_ n1_ n2_ n3_
           (try clear hb)
           (try clear hb2)
           (try clear hk)
           (try clear hi)
           refine hK.out _ _ ⟨(blk_cell BK342.out 0).trans rfl, (blk_cell BK342.out 1).trans rfl, (blk_cell BK338.out 0).trans rfl, (blk_cell BK338.out 1).trans rfl, (blk_cell BK338.out 2).trans rfl, (blk_cell BK338.out 3).trans rfl⟩ (fun hHeld => ?_)
           clear hK K
           refine norm_ (a' := ?_) ?_ ?_
           rotate_left
           ·show Act.put _ (some 53) _ = _
            simp only [Act.put, List.setIfInBounds_toArray, List.set_cons_zero, List.set_cons_succ, i64_w, i32_w]
            rfl
           refine Sh.pA 34 54 (Sh.pre 36 35) (any_of HT_.out (by kernel_rfl)) ?_
           refine Sh.pA 35 55 (Sh.pre 36 36) (any_of HT_.out (by kernel_rfl)) ?_
           refine done_ (done_of HT_.out (by kernel_rfl)) ?_
           try go_wp2
           go_ret
           exact ⟨Sh.eR, Sh.bw⟩
      ·rw [if_neg c14] at H
       exact absurd H (by simp)
     ·rw [if_neg c13] at H
      exact absurd H (by simp)
    ·rw [if_neg c12] at H
     have c12b0 : decide (x15_1 < (l1_1.length : Int)) = false := decide_eq_false c12
     clear c12
     obtain rfl := Option.some.inj H
     go_wp2
     go_ret
     exact ⟨Sh.eR, Sh.bw⟩
 ·replace c4 := Bool.eq_false_iff.mpr c4
  subst c4
  have H1 : (some false) = some r := by rw [if_neg (show ¬ (false = true) by decide)] at H; exact H
  clear H
  have H := H1
  clear H1
  obtain rfl := Option.some.inj H
  go_enter Try.func87, Try.ntmps87
  go_wp2_with (first | ((with_reducible refine gate_dst (N := 2) rfl ?_); refine Sh.bx (N := 2) (cs := #[.int .i64 a0_0, .int .i64 a0_1, .slice A0_2 l0_2.length c0_2, .slice A0_3 l0_3.length c0_3]) (t := 33) (h := ?_); intro gb338 hg w72 hbox hb; have n0_ := am_ (below_step Sh.bw hb); have n1_ := am_ (hbox); have n2_ := am_ (Sh.gw (w := w) hg); have n3_ := am_ (Sh.gw (w := w) hg); clear HB; have HB := n0_; have BK338 := n1_; have GW338 := n2_; have GE338 := n3_; clear n0_ n1_ n2_ n3_; clear hb hbox hg) | ((with_reducible refine gate_dst (N := 3) rfl ?_); refine Sh.bx (N := 3) (cs := #[.slice A1_0 l1_0.length c1_0, .slice A1_1 l1_1.length c1_1]) (t := 71) (h := ?_); intro gb339 hg w73 hbox hb; have n0_ := am_ (Sh.bb BK338.out hb); have n1_ := am_ (below_step Sh.bw hb); have n2_ := am_ (hbox); have n3_ := am_ (Sh.gw (w := w) hg); have n4_ := am_ (Sh.gw (w := w) hg); have n5_ := am_ (Sh.nl hg BK338.out); have n6_ := am_ (Sh.ng hg BK338.out); clear BK338; clear HB; have BK338 := n0_; have HB := n1_; have BK339 := n2_; have GW339 := n3_; have GE339 := n4_; have NB338_339 := n5_; have NB339_338 := n6_; clear n0_ n1_ n2_ n3_ n4_ n5_ n6_; clear hb hbox hg; have hnb74 := NB338_339.out; have hnc74 := NB339_338.out; have hcz75_0 := Sh.bc BK338.out 0; have hcz75_1 := Sh.bc BK338.out 1; have hcz75_2 := Sh.bc BK338.out 2; have hcz75_3 := Sh.bc BK338.out 3; have hfz75_0 := blk_frozen BK338.out 0; have hfz75_1 := blk_frozen BK338.out 1; have hfz75_2 := blk_frozen BK338.out 2; have hfz75_3 := blk_frozen BK338.out 3; have hcz76_0 := Sh.bc BK339.out 0; have hcz76_1 := Sh.bc BK339.out 1; have hfz76_0 := blk_frozen BK339.out 0; have hfz76_1 := blk_frozen BK339.out 1) | ((with_reducible refine gate_callee (f := 56) rfl ?_); refine Sh.gL (some 10) Try.func56 #[.agg #[.int .i64 a0_0, .int .i64 a0_1, .slice A0_2 l0_2.length c0_2, .slice A0_3 l0_3.length c0_3], .slice A1_0 l1_0.length c1_0] (h := ?_); (with_reducible refine (impl_Program_isCondition.calls k a0_0 a0_1 _ _ l0_2 _ _ l0_3 _ _ l1_0 false _ (Sh.cB HR0_2.out) HC0_2.out (Sh.cB HR0_3.out) HC0_3.out (Sh.cB HR1_0.out) HC1_0.out A3.out).mono ?_); rintro e w77 ⟨rfl, hb⟩; refine ⟨_, rfl, ?_⟩; have n0_ := am_ (Sh.bb BK338.out hb); have n1_ := am_ (Sh.bb BK339.out hb); have n2_ := am_ (below_step Sh.bw hb); clear BK338; clear BK339; clear HB; have BK338 := n0_; have BK339 := n1_; have HB := n2_; clear n0_ n1_ n2_; (try clear hb); (try clear hb2); (try clear hk); (try clear hi)))
  go_ret
  exact ⟨Sh.eR, Sh.bw⟩

end Go.Proofs.Ytjnolbjaagmooaa.P
namespace Go.Proofs.Ytjnolbjaagmooaa.P
open Go.RowKit Go.Proofs.YtjnolbjaagmooaaW.PrintWords Go.Proofs.YtjnolbjaagmooaaW.PrintLast Go.Proofs.YtjnolbjaagmooaaW.PrintMore Go.Proofs.Ytjnolbjaagmooaa.Hof
attribute [local go_sem] max2_int min2_int max_two min_two max_three min_three max_four min_four   -- for this text's walks alone
set_option linter.unusedVariables false
set_option linter.unusedSimpArgs false

/-! ### impl_GoodProgram_1: function 86 -/
def impl_GoodProgram_1.f (k : Nat) (l0_0 : List (S80)) (l0_1 : List (S102)) (a1_0 : Int) (a1_1 : Int) (l1_2 : List (S80)) (l1_3 : List (S71)) : Option (Bool) := (impl_Program_isCommand.f k a1_0 a1_1 l1_2 l1_3 l0_0 l0_1).bind fun t347 => (some (!t347))
theorem impl_GoodProgram_1.mono : ∀ a0 a1 a2 a3 a4 a5 k, LeO (impl_GoodProgram_1.f k a0 a1 a2 a3 a4 a5) (impl_GoodProgram_1.f (k + 1) a0 a1 a2 a3 a4 a5) := by
 intro a0 a1 a2 a3 a4 a5 k
 unfold impl_GoodProgram_1.f
 repeat' first
   | (with_reducible exact impl_Program_isCommand.mono _ _ _ _ _ _ _)
   | (with_reducible exact LeO.refl _)
   | (with_reducible exact LeO.none _)
   | (with_reducible refine LeO.ite ?_ ?_)
   | (with_reducible refine LeO.bind ?_ (fun _ => ?_))
   | exact impl_Program_isCommand.mono _ _ _ _ _ _ _
   | exact LeO.none _
   | refine LeO.ite ?_ ?_
   | refine LeO.bind ?_ (fun _ => ?_)
set_option maxHeartbeats 8000000 in
set_option maxRecDepth 100000 in
theorem impl_GoodProgram_1.calls (k : Nat) (A0_0 : Option Addr) (c0_0 : Nat) (l0_0 : List (S80)) (A0_1 : Option Addr) (c0_1 : Nat) (l0_1 : List (S102)) (bp1 : Nat) (a1_0 : Int) (a1_1 : Int) (A1_2 : Option Addr) (c1_2 : Nat) (l1_2 : List (S80)) (A1_3 : Option Addr) (c1_3 : Nat) (l1_3 : List (S71)) (r : Bool) (w : World) (hr0_0 : Kd.C k80 w A0_0 l0_0.length l0_0) (hc0_0 : l0_0.length ≤ c0_0) (hr0_1 : Kd.C k102 w A0_1 l0_1.length l0_1) (hc0_1 : l0_1.length ≤ c0_1) (hr1_2 : Kd.C k80 w A1_2 l1_2.length l1_2) (hc1_2 : l1_2.length ≤ c1_2) (hr1_3 : Kd.C k71 w A1_3 l1_3.length l1_3) (hc1_3 : l1_3.length ≤ c1_3) (hb1 : w.heap[bp1]? = some (.cells #[.int .i64 a1_0, .int .i64 a1_1, .slice A1_2 l1_2.length c1_2, .slice A1_3 l1_3.length c1_3] 33 (0, 0))) (h : impl_GoodProgram_1.f k l0_0 l0_1 a1_0 a1_1 l1_2 l1_3 = some r) :
  Calls Try.prog 86 #[.agg #[.slice A0_0 l0_0.length c0_0, .slice A0_1 l0_1.length c0_1], .pointer (some ⟨bp1, 0, none⟩)] w fun e w' => e = .returned (.bool r) ∧ Below w.heap.size w w' := by
 have hu71 := Try.underlying71
 have hu33 := Try.underlying33
 have HR0_0 := am_ hr0_0
 have HC0_0 := am_ hc0_0
 clear hr0_0 hc0_0
 have HR0_1 := am_ hr0_1
 have HC0_1 := am_ hc0_1
 clear hr0_1 hc0_1
 have HR1_2 := am_ hr1_2
 have HC1_2 := am_ hc1_2
 clear hr1_2 hc1_2
 have HR1_3 := am_ hr1_3
 have HC1_3 := am_ hc1_3
 clear hr1_3 hc1_3
 have HX1 := am_ hb1
 clear hb1
 have HB := am_ (Below.refl w.heap.size w)
 have H : ((impl_Program_isCommand.f k a1_0 a1_1 l1_2 l1_3 l0_0 l0_1).bind fun t347 => (some (!t347))) = some r := h
 clear h
 replace H := Option.bind_eq_some_iff.mp H
 obtain ⟨t347, A30, H⟩ := H
 replace H : (some (!t347)) = some r := H
 have A3 := am_ A30
 clear A30
 obtain rfl := Option.some.inj H
 go_enter Try.func86, Try.ntmps86
 go_wp2_with (first | ((with_reducible refine gate_dst (N := 2) rfl ?_); refine Sh.bx (N := 2) (cs := #[.slice A0_0 l0_0.length c0_0, .slice A0_1 l0_1.length c0_1]) (t := 71) (h := ?_); intro gb346 hg w4 hbox hb; have n0_ := am_ (blk_below (g := bp1) (o := .cells #[.int .i64 a1_0, .int .i64 a1_1, .slice A1_2 l1_2.length c1_2, .slice A1_3 l1_3.length c1_3] 33 (0, 0)) (by (with_reducible repeat (first | refine blk_drewN ?_ _ | refine blk_drew ?_ | refine blk_alloc ?_ _)); exact HX1.out) hb); have n1_ := am_ (below_step Sh.bw hb); have n2_ := am_ (hbox); have n3_ := am_ (Sh.gw (w := w) hg); have n4_ := am_ (Sh.gw (w := w) hg); have n5_ := am_ ((by rw [hg]; exact Nat.ne_of_lt (blk_lt (g := bp1) (o := .cells #[.int .i64 a1_0, .int .i64 a1_1, .slice A1_2 l1_2.length c1_2, .slice A1_3 l1_3.length c1_3] 33 (0, 0)) (by (with_reducible repeat (first | refine blk_drewN ?_ _ | refine blk_drew ?_ | refine blk_alloc ?_ _)); exact HX1.out)) : bp1 ≠ gb346)); have n6_ := am_ ((by rw [hg]; exact Nat.ne_of_gt (blk_lt (g := bp1) (o := .cells #[.int .i64 a1_0, .int .i64 a1_1, .slice A1_2 l1_2.length c1_2, .slice A1_3 l1_3.length c1_3] 33 (0, 0)) (by (with_reducible repeat (first | refine blk_drewN ?_ _ | refine blk_drew ?_ | refine blk_alloc ?_ _)); exact HX1.out)) : gb346 ≠ bp1)); clear HX1; clear HB; have HX1 := n0_; have HB := n1_; have BK346 := n2_; have GW346 := n3_; have GE346 := n4_; have NB1_346 := n5_; have NB346_1 := n6_; clear n0_ n1_ n2_ n3_ n4_ n5_ n6_; clear hb hbox hg; have hnb5 := NB1_346.out; have hnc5 := NB346_1.out; have hcz6_0 : w4.cell? ⟨bp1, 0, none⟩ = some (.int .i64 a1_0) := (blk_cell HX1.out 0).trans rfl; have hcz6_1 : w4.cell? ⟨bp1, 1, none⟩ = some (.int .i64 a1_1) := (blk_cell HX1.out 1).trans rfl; have hcz6_2 : w4.cell? ⟨bp1, 2, none⟩ = some (.slice A1_2 l1_2.length c1_2) := (blk_cell HX1.out 2).trans rfl; have hcz6_3 : w4.cell? ⟨bp1, 3, none⟩ = some (.slice A1_3 l1_3.length c1_3) := (blk_cell HX1.out 3).trans rfl; have hfz6_0 := blk_frozen HX1.out 0; have hfz6_1 := blk_frozen HX1.out 1; have hfz6_2 := blk_frozen HX1.out 2; have hfz6_3 := blk_frozen HX1.out 3; have hcz7_0 := Sh.bc BK346.out 0; have hcz7_1 := Sh.bc BK346.out 1; have hfz7_0 := blk_frozen BK346.out 0; have hfz7_1 := blk_frozen BK346.out 1) | ((with_reducible refine gate_callee (f := 87) rfl ?_); refine Sh.gL (some 6) Try.func87 #[.agg #[.int .i64 a1_0, .int .i64 a1_1, .slice A1_2 l1_2.length c1_2, .slice A1_3 l1_3.length c1_3], .agg #[.slice A0_0 l0_0.length c0_0, .slice A0_1 l0_1.length c0_1]] (h := ?_); (with_reducible refine (impl_Program_isCommand.calls k a1_0 a1_1 _ _ l1_2 _ _ l1_3 _ _ l0_0 _ _ l0_1 t347 _ (Sh.cB HR1_2.out) HC1_2.out (Sh.cB HR1_3.out) HC1_3.out (Sh.cB HR0_0.out) HC0_0.out (Sh.cB HR0_1.out) HC0_1.out A3.out).mono ?_); rintro e w8 ⟨rfl, hb⟩; refine ⟨_, rfl, ?_⟩; have n0_ := am_ (blk_below (g := bp1) (o := .cells #[.int .i64 a1_0, .int .i64 a1_1, .slice A1_2 l1_2.length c1_2, .slice A1_3 l1_3.length c1_3] 33 (0, 0)) (by (with_reducible repeat (first | refine blk_drewN ?_ _ | refine blk_drew ?_ | refine blk_alloc ?_ _)); exact HX1.out) hb); have n1_ := am_ (Sh.bb BK346.out hb); have n2_ := am_ (below_step Sh.bw hb); clear HX1; clear BK346; clear HB; have HX1 := n0_; have BK346 := n1_; have HB := n2_; clear n0_ n1_ n2_; (try clear hb); (try clear hb2); (try clear hk); (try clear hi)))
 go_ret
 exact ⟨Sh.eR, Sh.bw⟩

end Go.Proofs.Ytjnolbjaagmooaa.P
namespace Go.Proofs.Ytjnolbjaagmooaa.P
open Go.RowKit Go.Proofs.YtjnolbjaagmooaaW.PrintWords Go.Proofs.YtjnolbjaagmooaaW.PrintLast Go.Proofs.YtjnolbjaagmooaaW.PrintMore Go.Proofs.Ytjnolbjaagmooaa.Hof
attribute [local go_sem] max2_int min2_int max_two min_two max_three min_three max_four min_four   -- for this text's walks alone
set_option linter.unusedVariables false
set_option linter.unusedSimpArgs false

/-! ### impl_Command_85_by_impl_GoodProgram_1: function 85 by function 86 -/
def impl_Command_85_by_impl_GoodProgram_1.f (k : Nat) (l0 : List (S71)) (a1_0 : Int) (a1_1 : Int) (l1_2 : List (S80)) (l1_3 : List (S71)) : Option (Bool) := anyO (fun x_ => impl_GoodProgram_1.f k x_.f0 x_.f1 a1_0 a1_1 l1_2 l1_3) l0
theorem impl_Command_85_by_impl_GoodProgram_1.mono : ∀ a0 a1 a2 a3 a4 k, LeO (impl_Command_85_by_impl_GoodProgram_1.f k a0 a1 a2 a3 a4) (impl_Command_85_by_impl_GoodProgram_1.f (k + 1) a0 a1 a2 a3 a4) := by
 intro a0 a1 a2 a3 a4 k
 unfold impl_Command_85_by_impl_GoodProgram_1.f
 with_reducible exact anyO_mono (fun x_ => impl_GoodProgram_1.mono (S71.f0 x_) (S71.f1 x_) a1 a2 a3 a4 k) a0
set_option maxHeartbeats 2000000 in
theorem impl_Command_85_by_impl_GoodProgram_1.calls (k : Nat) (A0 : Option Addr) (c0 : Nat) (l0 : List (S71)) (bp1 : Nat) (a1_0 : Int) (a1_1 : Int) (A1_2 : Option Addr) (c1_2 : Nat) (l1_2 : List (S80)) (A1_3 : Option Addr) (c1_3 : Nat) (l1_3 : List (S71)) (r : Bool) (w : World) (hr0 : Kd.C k71 w A0 l0.length l0) (hc0 : l0.length ≤ c0) (hr1_2 : Kd.C k80 w A1_2 l1_2.length l1_2) (hc1_2 : l1_2.length ≤ c1_2) (hr1_3 : Kd.C k71 w A1_3 l1_3.length l1_3) (hc1_3 : l1_3.length ≤ c1_3) (hb1 : w.heap[bp1]? = some (.cells #[.int .i64 a1_0, .int .i64 a1_1, .slice A1_2 l1_2.length c1_2, .slice A1_3 l1_3.length c1_3] 33 (0, 0))) (h : impl_Command_85_by_impl_GoodProgram_1.f k l0 a1_0 a1_1 l1_2 l1_3 = some r) :
  Calls Try.prog 85 #[.slice A0 l0.length c0, .func (.func 86) #[] #[.pointer (some ⟨bp1, 0, none⟩)]] w fun e w' => e = .returned (.bool r) ∧ Below w.heap.size w w' := by
 refine impl_Command_85.gen 86 #[.pointer (some ⟨bp1, 0, none⟩)] (enters_of Try.func86 (by kernel_rfl) rfl) _ A0 c0 l0 r w hr0 hc0 ?_ h
 intro W x b A0 c0 A1 c1 hB_ hin_ hq_ hl0_ hC0_ hl1_ hC1_
 refine (impl_GoodProgram_1.calls k _ _ x.f0 _ _ x.f1 bp1 a1_0 a1_1 _ _ l1_2 _ _ l1_3 b W hC0_ hl0_ hC1_ hl1_ (Kd.C_below hr1_2 hB_) hc1_2 (Kd.C_below hr1_3 hB_) hc1_3 ((hB_.block _ (blk_lt hb1)).trans hb1) hq_).mono ?_
 rintro e w' ⟨rfl, hd_⟩
 exact ⟨rfl, hd_⟩

end Go.Proofs.Ytjnolbjaagmooaa.P
namespace Go.Proofs.Ytjnolbjaagmooaa.P
open Go.RowKit Go.Proofs.YtjnolbjaagmooaaW.PrintWords Go.Proofs.YtjnolbjaagmooaaW.PrintLast Go.Proofs.YtjnolbjaagmooaaW.PrintMore Go.Proofs.Ytjnolbjaagmooaa.Hof
attribute [local go_sem] max2_int min2_int max_two min_two max_three min_three max_four min_four   -- for this text's walks alone
set_option linter.unusedVariables false
set_option linter.unusedSimpArgs false

/-! ### impl_GoodProgram: function 65 -/
def impl_GoodProgram.f (k : Nat) (a0_0 : Int) (a0_1 : Int) (l0_2 : List (S80)) (l0_3 : List (S71)) : Option (Bool) := (impl_isWide.f a0_0).bind fun t349 => (if t349 = true then ((impl_isVars.f a0_1).bind fun t350 => (if t350 = true then ((impl_Program_isCondition.f k a0_0 a0_1 l0_2 l0_3 l0_2).bind fun t351 => (if t351 = true then (if (l0_3.length : Int) < 1 then (some false) else (if (l0_3.length : Int) > 6 then (some false) else ((impl_Command_85_by_impl_GoodProgram_1.f k l0_3 a0_0 a0_1 l0_2 l0_3).bind fun t352 => (some (!t352))))) else (some false))) else (some false))) else (some false))
theorem impl_GoodProgram.mono : ∀ a0 a1 a2 a3 k, LeO (impl_GoodProgram.f k a0 a1 a2 a3) (impl_GoodProgram.f (k + 1) a0 a1 a2 a3) := by
 intro a0 a1 a2 a3 k
 unfold impl_GoodProgram.f
 repeat' first
   | (with_reducible exact impl_Command_85_by_impl_GoodProgram_1.mono _ _ _ _ _ _)
   | (with_reducible exact impl_Program_isCondition.mono _ _ _ _ _ _)
   | (with_reducible exact LeO.refl _)
   | (with_reducible exact LeO.none _)
   | (with_reducible refine LeO.ite ?_ ?_)
   | (with_reducible refine LeO.bind ?_ (fun _ => ?_))
   | exact impl_Command_85_by_impl_GoodProgram_1.mono _ _ _ _ _ _
   | exact impl_Program_isCondition.mono _ _ _ _ _ _
   | exact LeO.none _
   | refine LeO.ite ?_ ?_
   | refine LeO.bind ?_ (fun _ => ?_)
set_option maxHeartbeats 8000000 in
set_option maxRecDepth 100000 in
theorem impl_GoodProgram.calls (k : Nat) (a0_0 : Int) (a0_1 : Int) (A0_2 : Option Addr) (c0_2 : Nat) (l0_2 : List (S80)) (A0_3 : Option Addr) (c0_3 : Nat) (l0_3 : List (S71)) (r : Bool) (w : World) (hr0_2 : Kd.C k80 w A0_2 l0_2.length l0_2) (hc0_2 : l0_2.length ≤ c0_2) (hr0_3 : Kd.C k71 w A0_3 l0_3.length l0_3) (hc0_3 : l0_3.length ≤ c0_3) (h : impl_GoodProgram.f k a0_0 a0_1 l0_2 l0_3 = some r) :
  Calls Try.prog 65 #[.agg #[.int .i64 a0_0, .int .i64 a0_1, .slice A0_2 l0_2.length c0_2, .slice A0_3 l0_3.length c0_3]] w fun e w' => e = .returned (.bool r) ∧ Below w.heap.size w w' := by
 have hu33 := Try.underlying33
 have HR0_2 := am_ hr0_2
 have HC0_2 := am_ hc0_2
 clear hr0_2 hc0_2
 have HR0_3 := am_ hr0_3
 have HC0_3 := am_ hc0_3
 clear hr0_3 hc0_3
 have HB := am_ (Below.refl w.heap.size w)
 have H : ((impl_isWide.f a0_0).bind fun t349 => (if t349 = true then ((impl_isVars.f a0_1).bind fun t350 => (if t350 = true then ((impl_Program_isCondition.f k a0_0 a0_1 l0_2 l0_3 l0_2).bind fun t351 => (if t351 = true then (if (l0_3.length : Int) < 1 then (some false) else (if (l0_3.length : Int) > 6 then (some false) else ((impl_Command_85_by_impl_GoodProgram_1.f k l0_3 a0_0 a0_1 l0_2 l0_3).bind fun t352 => (some (!t352))))) else (some false))) else (some false))) else (some false))) = some r := h
 clear h
 replace H := Option.bind_eq_some_iff.mp H
 obtain ⟨t349, A20, H⟩ := H
 replace H : (if t349 = true then ((impl_isVars.f a0_1).bind fun t350 => (if t350 = true then ((impl_Program_isCondition.f k a0_0 a0_1 l0_2 l0_3 l0_2).bind fun t351 => (if t351 = true then (if (l0_3.length : Int) < 1 then (some false) else (if (l0_3.length : Int) > 6 then (some false) else ((impl_Command_85_by_impl_GoodProgram_1.f k l0_3 a0_0 a0_1 l0_2 l0_3).bind fun t352 => (some (!t352))))) else (some false))) else (some false))) else (some false)) = some r := H
 have A2 := am_ A20
 clear A20
 by_cases c3 : t349 = true
 ·subst c3
  have H1 : ((impl_isVars.f a0_1).bind fun t350 => (if t350 = true then ((impl_Program_isCondition.f k a0_0 a0_1 l0_2 l0_3 l0_2).bind fun t351 => (if t351 = true then (if (l0_3.length : Int) < 1 then (some false) else (if (l0_3.length : Int) > 6 then (some false) else ((impl_Command_85_by_impl_GoodProgram_1.f k l0_3 a0_0 a0_1 l0_2 l0_3).bind fun t352 => (some (!t352))))) else (some false))) else (some false))) = some r := by rw [if_pos rfl] at H; exact H
  clear H
  have H := H1
  clear H1
  replace H := Option.bind_eq_some_iff.mp H
  obtain ⟨t350, A40, H⟩ := H
  replace H : (if t350 = true then ((impl_Program_isCondition.f k a0_0 a0_1 l0_2 l0_3 l0_2).bind fun t351 => (if t351 = true then (if (l0_3.length : Int) < 1 then (some false) else (if (l0_3.length : Int) > 6 then (some false) else ((impl_Command_85_by_impl_GoodProgram_1.f k l0_3 a0_0 a0_1 l0_2 l0_3).bind fun t352 => (some (!t352))))) else (some false))) else (some false)) = some r := H
  have A4 := am_ A40
  clear A40
  by_cases c5 : t350 = true
  ·subst c5
   have H1 : ((impl_Program_isCondition.f k a0_0 a0_1 l0_2 l0_3 l0_2).bind fun t351 => (if t351 = true then (if (l0_3.length : Int) < 1 then (some false) else (if (l0_3.length : Int) > 6 then (some false) else ((impl_Command_85_by_impl_GoodProgram_1.f k l0_3 a0_0 a0_1 l0_2 l0_3).bind fun t352 => (some (!t352))))) else (some false))) = some r := by rw [if_pos rfl] at H; exact H
   clear H
   have H := H1
   clear H1
   replace H := Option.bind_eq_some_iff.mp H
   obtain ⟨t351, A60, H⟩ := H
   replace H : (if t351 = true then (if (l0_3.length : Int) < 1 then (some false) else (if (l0_3.length : Int) > 6 then (some false) else ((impl_Command_85_by_impl_GoodProgram_1.f k l0_3 a0_0 a0_1 l0_2 l0_3).bind fun t352 => (some (!t352))))) else (some false)) = some r := H
   have A6 := am_ A60
   clear A60
   by_cases c7 : t351 = true
   ·subst c7
    have H1 : (if (l0_3.length : Int) < 1 then (some false) else (if (l0_3.length : Int) > 6 then (some false) else ((impl_Command_85_by_impl_GoodProgram_1.f k l0_3 a0_0 a0_1 l0_2 l0_3).bind fun t352 => (some (!t352))))) = some r := by rw [if_pos rfl] at H; exact H
    clear H
    have H := H1
    clear H1
    by_cases c8 : (l0_3.length : Int) < 1
    ·rw [if_pos c8] at H
     have c8b0 : decide ((l0_3.length : Int) < 1) = true := decide_eq_true c8
     have c8b1 : decide (l0_3.length < 1) = true := decide_eq_true (by omega)
     clear c8
     obtain rfl := Option.some.inj H
     go_enter Try.func65, Try.ntmps65
     go_wp2_with (first | ((with_reducible refine gate_dst (N := 1) rfl ?_); (try (refine gate_guard (by rfl) ?_; dsimp only)); refine Sh.bx (N := 1) (cs := #[.int .i64 a0_0, .int .i64 a0_1, .slice A0_2 l0_2.length c0_2, .slice A0_3 l0_3.length c0_3]) (t := 33) (h := ?_); intro gb348 hg w9 hbox hb; have n0_ := am_ (below_step Sh.bw hb); have n1_ := am_ (hbox); have n2_ := am_ (Sh.gw (w := w) hg); have n3_ := am_ (Sh.gw (w := w) hg); clear HB; have HB := n0_; have BK348 := n1_; have GW348 := n2_; have GE348 := n3_; clear n0_ n1_ n2_ n3_; clear hb hbox hg; have hcz10_0 := Sh.bc BK348.out 0; have hcz10_1 := Sh.bc BK348.out 1; have hcz10_2 := Sh.bc BK348.out 2; have hcz10_3 := Sh.bc BK348.out 3; have hfz10_0 := blk_frozen BK348.out 0; have hfz10_1 := blk_frozen BK348.out 1; have hfz10_2 := blk_frozen BK348.out 2; have hfz10_3 := blk_frozen BK348.out 3) | ((with_reducible refine gate_callee (f := 83) rfl ?_); refine Sh.gL (some 5) Try.func83 #[.int .i64 a0_0] (h := ?_); (with_reducible refine (impl_isWide.calls a0_0 true _ A2.out).mono ?_); rintro e w' ⟨rfl, ⟨nd, rfl⟩⟩; refine ⟨_, rfl, ?_⟩) | (go_at_call 84; (with_reducible refine (impl_isVars.calls a0_1 true _ A4.out).mono ?_); rintro e w' ⟨rfl, ⟨nd, rfl⟩⟩) | (go_at_call 56; (with_reducible refine (impl_Program_isCondition.calls k a0_0 a0_1 _ _ l0_2 _ _ l0_3 _ _ l0_2 true _ ?side1 ?side2 ?side3 ?side4 ?side5 ?side6 A6.out).mono ?_); (case side1 => repeat (first | exact (Kd.C_below HR0_2.out Sh.bw) | (with_reducible first | refine Kd.C_alloc ?_ _ | refine Kd.C_drewN ?_ _ | refine Kd.C_drew ?_))); (case side2 => exact HC0_2.out); (case side3 => repeat (first | exact (Kd.C_below HR0_3.out Sh.bw) | (with_reducible first | refine Kd.C_alloc ?_ _ | refine Kd.C_drewN ?_ _ | refine Kd.C_drew ?_))); (case side4 => exact HC0_3.out); (case side5 => repeat (first | exact (Kd.C_below HR0_2.out Sh.bw) | (with_reducible first | refine Kd.C_alloc ?_ _ | refine Kd.C_drewN ?_ _ | refine Kd.C_drew ?_))); (case side6 => exact HC0_2.out); rintro e w11 ⟨rfl, hb⟩; have n0_ := am_ (Sh.bb BK348.out hb); have n1_ := am_ (below_step Sh.bw hb); clear BK348; clear HB; have BK348 := n0_; have HB := n1_; clear n0_ n1_; (try clear hb); (try clear hb2); (try clear hk); (try clear hi); have hcz12_0 := Sh.bc BK348.out 0; have hcz12_1 := Sh.bc BK348.out 1; have hcz12_2 := Sh.bc BK348.out 2; have hcz12_3 := Sh.bc BK348.out 3; have hfz12_0 := blk_frozen BK348.out 0; have hfz12_1 := blk_frozen BK348.out 1; have hfz12_2 := blk_frozen BK348.out 2; have hfz12_3 := blk_frozen BK348.out 3))
     go_ret
     exact ⟨Sh.eR, Sh.bw⟩
    ·rw [if_neg c8] at H
     have c8b0 : decide ((l0_3.length : Int) < 1) = false := decide_eq_false c8
     have c8b1 : decide (l0_3.length < 1) = false := decide_eq_false (by omega)
     clear c8
     by_cases c13 : (l0_3.length : Int) > 6
     ·rw [if_pos c13] at H
      have c13b0 : decide (6 < (l0_3.length : Int)) = true := decide_eq_true c13
      have c13b1 : decide (6 < l0_3.length) = true := decide_eq_true (by omega)
      clear c13
      obtain rfl := Option.some.inj H
      go_enter Try.func65, Try.ntmps65
      go_wp2_with (first | ((with_reducible refine gate_dst (N := 1) rfl ?_); (try (refine gate_guard (by rfl) ?_; dsimp only)); refine Sh.bx (N := 1) (cs := #[.int .i64 a0_0, .int .i64 a0_1, .slice A0_2 l0_2.length c0_2, .slice A0_3 l0_3.length c0_3]) (t := 33) (h := ?_); intro gb348 hg w14 hbox hb; have n0_ := am_ (below_step Sh.bw hb); have n1_ := am_ (hbox); have n2_ := am_ (Sh.gw (w := w) hg); have n3_ := am_ (Sh.gw (w := w) hg); clear HB; have HB := n0_; have BK348 := n1_; have GW348 := n2_; have GE348 := n3_; clear n0_ n1_ n2_ n3_; clear hb hbox hg; have hcz15_0 := Sh.bc BK348.out 0; have hcz15_1 := Sh.bc BK348.out 1; have hcz15_2 := Sh.bc BK348.out 2; have hcz15_3 := Sh.bc BK348.out 3; have hfz15_0 := blk_frozen BK348.out 0; have hfz15_1 := blk_frozen BK348.out 1; have hfz15_2 := blk_frozen BK348.out 2; have hfz15_3 := blk_frozen BK348.out 3) | ((with_reducible refine gate_callee (f := 83) rfl ?_); refine Sh.gL (some 5) Try.func83 #[.int .i64 a0_0] (h := ?_); (with_reducible refine (impl_isWide.calls a0_0 true _ A2.out).mono ?_); rintro e w' ⟨rfl, ⟨nd, rfl⟩⟩; refine ⟨_, rfl, ?_⟩) | (go_at_call 84; (with_reducible refine (impl_isVars.calls a0_1 true _ A4.out).mono ?_); rintro e w' ⟨rfl, ⟨nd, rfl⟩⟩) | (go_at_call 56; (with_reducible refine (impl_Program_isCondition.calls k a0_0 a0_1 _ _ l0_2 _ _ l0_3 _ _ l0_2 true _ ?side1 ?side2 ?side3 ?side4 ?side5 ?side6 A6.out).mono ?_); (case side1 => repeat (first | exact (Kd.C_below HR0_2.out Sh.bw) | (with_reducible first | refine Kd.C_alloc ?_ _ | refine Kd.C_drewN ?_ _ | refine Kd.C_drew ?_))); (case side2 => exact HC0_2.out); (case side3 => repeat (first | exact (Kd.C_below HR0_3.out Sh.bw) | (with_reducible first | refine Kd.C_alloc ?_ _ | refine Kd.C_drewN ?_ _ | refine Kd.C_drew ?_))); (case side4 => exact HC0_3.out); (case side5 => repeat (first | exact (Kd.C_below HR0_2.out Sh.bw) | (with_reducible first | refine Kd.C_alloc ?_ _ | refine Kd.C_drewN ?_ _ | refine Kd.C_drew ?_))); (case side6 => exact HC0_2.out); rintro e w16 ⟨rfl, hb⟩; have n0_ := am_ (Sh.bb BK348.out hb); have n1_ := am_ (below_step Sh.bw hb); clear BK348; clear HB; have BK348 := n0_; have HB := n1_; clear n0_ n1_; (try clear hb); (try clear hb2); (try clear hk); (try clear hi); have hcz17_0 := Sh.bc BK348.out 0; have hcz17_1 := Sh.bc BK348.out 1; have hcz17_2 := Sh.bc BK348.out 2; have hcz17_3 := Sh.bc BK348.out 3; have hfz17_0 := blk_frozen BK348.out 0; have hfz17_1 := blk_frozen BK348.out 1; have hfz17_2 := blk_frozen BK348.out 2; have hfz17_3 := blk_frozen BK348.out 3))
      go_ret
      exact ⟨Sh.eR, Sh.bw⟩
     ·rw [if_neg c13] at H
      have c13b0 : decide (6 < (l0_3.length : Int)) = false := decide_eq_false c13
      have c13b1 : decide (6 < l0_3.length) = false := decide_eq_false (by omega)
      clear c13
      replace H := Option.bind_eq_some_iff.mp H
      obtain ⟨t352, A180, H⟩ := H
      replace H : (some (!t352)) = some r := H
      have A18 := am_ A180
      clear A180
      obtain rfl := Option.some.inj H
      go_enter Try.func65, Try.ntmps65
      go_wp2_with (first | ((with_reducible refine gate_dst (N := 1) rfl ?_); (try (refine gate_guard (by rfl) ?_; dsimp only)); refine Sh.bx (N := 1) (cs := #[.int .i64 a0_0, .int .i64 a0_1, .slice A0_2 l0_2.length c0_2, .slice A0_3 l0_3.length c0_3]) (t := 33) (h := ?_); intro gb348 hg w19 hbox hb; have n0_ := am_ (below_step Sh.bw hb); have n1_ := am_ (hbox); have n2_ := am_ (Sh.gw (w := w) hg); have n3_ := am_ (Sh.gw (w := w) hg); clear HB; have HB := n0_; have BK348 := n1_; have GW348 := n2_; have GE348 := n3_; clear n0_ n1_ n2_ n3_; clear hb hbox hg; have hcz20_0 := Sh.bc BK348.out 0; have hcz20_1 := Sh.bc BK348.out 1; have hcz20_2 := Sh.bc BK348.out 2; have hcz20_3 := Sh.bc BK348.out 3; have hfz20_0 := blk_frozen BK348.out 0; have hfz20_1 := blk_frozen BK348.out 1; have hfz20_2 := blk_frozen BK348.out 2; have hfz20_3 := blk_frozen BK348.out 3) | ((with_reducible refine gate_callee (f := 83) rfl ?_); refine Sh.gL (some 5) Try.func83 #[.int .i64 a0_0] (h := ?_); (with_reducible refine (impl_isWide.calls a0_0 true _ A2.out).mono ?_); rintro e w' ⟨rfl, ⟨nd, rfl⟩⟩; refine ⟨_, rfl, ?_⟩) | (go_at_call 84; (with_reducible refine (impl_isVars.calls a0_1 true _ A4.out).mono ?_); rintro e w' ⟨rfl, ⟨nd, rfl⟩⟩) | (go_at_call 56; (with_reducible refine (impl_Program_isCondition.calls k a0_0 a0_1 _ _ l0_2 _ _ l0_3 _ _ l0_2 true _ ?side1 ?side2 ?side3 ?side4 ?side5 ?side6 A6.out).mono ?_); (case side1 => repeat (first | exact (Kd.C_below HR0_2.out Sh.bw) | (with_reducible first | refine Kd.C_alloc ?_ _ | refine Kd.C_drewN ?_ _ | refine Kd.C_drew ?_))); (case side2 => exact HC0_2.out); (case side3 => repeat (first | exact (Kd.C_below HR0_3.out Sh.bw) | (with_reducible first | refine Kd.C_alloc ?_ _ | refine Kd.C_drewN ?_ _ | refine Kd.C_drew ?_))); (case side4 => exact HC0_3.out); (case side5 => repeat (first | exact (Kd.C_below HR0_2.out Sh.bw) | (with_reducible first | refine Kd.C_alloc ?_ _ | refine Kd.C_drewN ?_ _ | refine Kd.C_drew ?_))); (case side6 => exact HC0_2.out); rintro e w21 ⟨rfl, hb⟩; have n0_ := am_ (Sh.bb BK348.out hb); have n1_ := am_ (below_step Sh.bw hb); clear BK348; clear HB; have BK348 := n0_; have HB := n1_; clear n0_ n1_; (try clear hb); (try clear hb2); (try clear hk); (try clear hi); have hcz22_0 := Sh.bc BK348.out 0; have hcz22_1 := Sh.bc BK348.out 1; have hcz22_2 := Sh.bc BK348.out 2; have hcz22_3 := Sh.bc BK348.out 3; have hfz22_0 := blk_frozen BK348.out 0; have hfz22_1 := blk_frozen BK348.out 1; have hfz22_2 := blk_frozen BK348.out 2; have hfz22_3 := blk_frozen BK348.out 3) | ((with_reducible refine gate_callee (f := 85) rfl ?_); refine Sh.gL (some 35) Try.func85 #[.slice A0_3 l0_3.length c0_3, .func (.func 86) #[] #[.pointer (some ⟨gb348, 0, none⟩)]] (h := ?_); (with_reducible refine (impl_Command_85_by_impl_GoodProgram_1.calls k _ _ l0_3 gb348 a0_0 a0_1 A0_2 c0_2 l0_2 A0_3 c0_3 l0_3 t352 _ (Sh.cB HR0_3.out) HC0_3.out (Sh.cB HR0_2.out) HC0_2.out (Sh.cB HR0_3.out) HC0_3.out ?side7 A18.out).mono ?_); (case side7 => (with_reducible repeat (first | refine blk_drewN ?_ _ | refine blk_drew ?_ | refine blk_alloc ?_ _)); exact BK348.out); rintro e w23 ⟨rfl, hb⟩; refine ⟨_, rfl, ?_⟩; have n0_ := am_ (Sh.bb BK348.out hb); have n1_ := am_ (below_step Sh.bw hb); clear BK348; clear HB; have BK348 := n0_; have HB := n1_; clear n0_ n1_; (try clear hb); (try clear hb2); (try clear hk); (try clear hi)))
      go_ret
      exact ⟨Sh.eR, Sh.bw⟩
   ·replace c7 := Bool.eq_false_iff.mpr c7
    subst c7
    have H1 : (some false) = some r := by rw [if_neg (show ¬ (false = true) by decide)] at H; exact H
    clear H
    have H := H1
    clear H1
    obtain rfl := Option.some.inj H
    go_enter Try.func65, Try.ntmps65
    go_wp2_with (first | ((with_reducible refine gate_dst (N := 1) rfl ?_); (try (refine gate_guard (by rfl) ?_; dsimp only)); refine Sh.bx (N := 1) (cs := #[.int .i64 a0_0, .int .i64 a0_1, .slice A0_2 l0_2.length c0_2, .slice A0_3 l0_3.length c0_3]) (t := 33) (h := ?_); intro gb348 hg w24 hbox hb; have n0_ := am_ (below_step Sh.bw hb); have n1_ := am_ (hbox); have n2_ := am_ (Sh.gw (w := w) hg); have n3_ := am_ (Sh.gw (w := w) hg); clear HB; have HB := n0_; have BK348 := n1_; have GW348 := n2_; have GE348 := n3_; clear n0_ n1_ n2_ n3_; clear hb hbox hg; have hcz25_0 := Sh.bc BK348.out 0; have hcz25_1 := Sh.bc BK348.out 1; have hcz25_2 := Sh.bc BK348.out 2; have hcz25_3 := Sh.bc BK348.out 3; have hfz25_0 := blk_frozen BK348.out 0; have hfz25_1 := blk_frozen BK348.out 1; have hfz25_2 := blk_frozen BK348.out 2; have hfz25_3 := blk_frozen BK348.out 3) | ((with_reducible refine gate_callee (f := 83) rfl ?_); refine Sh.gL (some 5) Try.func83 #[.int .i64 a0_0] (h := ?_); (with_reducible refine (impl_isWide.calls a0_0 true _ A2.out).mono ?_); rintro e w' ⟨rfl, ⟨nd, rfl⟩⟩; refine ⟨_, rfl, ?_⟩) | (go_at_call 84; (with_reducible refine (impl_isVars.calls a0_1 true _ A4.out).mono ?_); rintro e w' ⟨rfl, ⟨nd, rfl⟩⟩) | (go_at_call 56; (with_reducible refine (impl_Program_isCondition.calls k a0_0 a0_1 _ _ l0_2 _ _ l0_3 _ _ l0_2 false _ ?side1 ?side2 ?side3 ?side4 ?side5 ?side6 A6.out).mono ?_); (case side1 => repeat (first | exact (Kd.C_below HR0_2.out Sh.bw) | (with_reducible first | refine Kd.C_alloc ?_ _ | refine Kd.C_drewN ?_ _ | refine Kd.C_drew ?_))); (case side2 => exact HC0_2.out); (case side3 => repeat (first | exact (Kd.C_below HR0_3.out Sh.bw) | (with_reducible first | refine Kd.C_alloc ?_ _ | refine Kd.C_drewN ?_ _ | refine Kd.C_drew ?_))); (case side4 => exact HC0_3.out); (case side5 => repeat (first | exact (Kd.C_below HR0_2.out Sh.bw) | (with_reducible first | refine Kd.C_alloc ?_ _ | refine Kd.C_drewN ?_ _ | refine Kd.C_drew ?_))); (case side6 => exact HC0_2.out); rintro e w26 ⟨rfl, hb⟩; have n0_ := am_ (Sh.bb BK348.out hb); have n1_ := am_ (below_step Sh.bw hb); clear BK348; clear HB; have BK348 := n0_; have HB := n1_; clear n0_ n1_; (try clear hb); (try clear hb2); (try clear hk); (try clear hi)))
    go_ret
    exact ⟨Sh.eR, Sh.bw⟩
  ·replace c5 := Bool.eq_false_iff.mpr c5
   subst c5
   have H1 : (some false) = some r := by rw [if_neg (show ¬ (false = true) by decide)] at H; exact H
   clear H
   have H := H1
   clear H1
   obtain rfl := Option.some.inj H
   go_enter Try.func65, Try.ntmps65
   go_wp2_with (first | ((with_reducible refine gate_dst (N := 1) rfl ?_); (try (refine gate_guard (by rfl) ?_; dsimp only)); refine Sh.bx (N := 1) (cs := #[.int .i64 a0_0, .int .i64 a0_1, .slice A0_2 l0_2.length c0_2, .slice A0_3 l0_3.length c0_3]) (t := 33) (h := ?_); intro gb348 hg w27 hbox hb; have n0_ := am_ (below_step Sh.bw hb); have n1_ := am_ (hbox); have n2_ := am_ (Sh.gw (w := w) hg); have n3_ := am_ (Sh.gw (w := w) hg); clear HB; have HB := n0_; have BK348 := n1_; have GW348 := n2_; have GE348 := n3_; clear n0_ n1_ n2_ n3_; clear hb hbox hg; have hcz28_0 := Sh.bc BK348.out 0; have hcz28_1 := Sh.bc BK348.out 1; have hcz28_2 := Sh.bc BK348.out 2; have hcz28_3 := Sh.bc BK348.out 3; have hfz28_0 := blk_frozen BK348.out 0; have hfz28_1 := blk_frozen BK348.out 1; have hfz28_2 := blk_frozen BK348.out 2; have hfz28_3 := blk_frozen BK348.out 3) | ((with_reducible refine gate_callee (f := 83) rfl ?_); refine Sh.gL (some 5) Try.func83 #[.int .i64 a0_0] (h := ?_); (with_reducible refine (impl_isWide.calls a0_0 true _ A2.out).mono ?_); rintro e w' ⟨rfl, ⟨nd, rfl⟩⟩; refine ⟨_, rfl, ?_⟩) | (go_at_call 84; (with_reducible refine (impl_isVars.calls a0_1 false _ A4.out).mono ?_); rintro e w' ⟨rfl, ⟨nd, rfl⟩⟩))
   go_ret
   exact ⟨Sh.eR, Sh.bw⟩
 ·replace c3 := Bool.eq_false_iff.mpr c3
  subst c3
  have H1 : (some false) = some r := by rw [if_neg (show ¬ (false = true) by decide)] at H; exact H
  clear H
  have H := H1
  clear H1
  obtain rfl := Option.some.inj H
  go_enter Try.func65, Try.ntmps65
  go_wp2_with (first | ((with_reducible refine gate_dst (N := 1) rfl ?_); (try (refine gate_guard (by rfl) ?_; dsimp only)); refine Sh.bx (N := 1) (cs := #[.int .i64 a0_0, .int .i64 a0_1, .slice A0_2 l0_2.length c0_2, .slice A0_3 l0_3.length c0_3]) (t := 33) (h := ?_); intro gb348 hg w29 hbox hb; have n0_ := am_ (below_step Sh.bw hb); have n1_ := am_ (hbox); have n2_ := am_ (Sh.gw (w := w) hg); have n3_ := am_ (Sh.gw (w := w) hg); clear HB; have HB := n0_; have BK348 := n1_; have GW348 := n2_; have GE348 := n3_; clear n0_ n1_ n2_ n3_; clear hb hbox hg; have hcz30_0 := Sh.bc BK348.out 0; have hcz30_1 := Sh.bc BK348.out 1; have hcz30_2 := Sh.bc BK348.out 2; have hcz30_3 := Sh.bc BK348.out 3; have hfz30_0 := blk_frozen BK348.out 0; have hfz30_1 := blk_frozen BK348.out 1; have hfz30_2 := blk_frozen BK348.out 2; have hfz30_3 := blk_frozen BK348.out 3) | ((with_reducible refine gate_callee (f := 83) rfl ?_); refine Sh.gL (some 5) Try.func83 #[.int .i64 a0_0] (h := ?_); (with_reducible refine (impl_isWide.calls a0_0 false _ A2.out).mono ?_); rintro e w' ⟨rfl, ⟨nd, rfl⟩⟩; refine ⟨_, rfl, ?_⟩))
  go_ret
  exact ⟨Sh.eR, Sh.bw⟩

end Go.Proofs.Ytjnolbjaagmooaa.P
namespace Go.Proofs.Ytjnolbjaagmooaa.P
open Go.RowKit Go.Proofs.YtjnolbjaagmooaaW.PrintWords Go.Proofs.YtjnolbjaagmooaaW.PrintLast Go.Proofs.YtjnolbjaagmooaaW.PrintMore Go.Proofs.Ytjnolbjaagmooaa.Hof
attribute [local go_sem] max2_int min2_int max_two min_two max_three min_three max_four min_four   -- for this text's walks alone
set_option linter.unusedVariables false
set_option linter.unusedSimpArgs false

/-! ### slices_IndexFunc_uint64_uint64: function 104, whatever the predicate -/
set_option maxHeartbeats 2000000 in
theorem slices_IndexFunc_uint64_uint64.gen (g : Nat) (lb : Array Value) (eg : ∀ args w, (callFunc g args).run Try.prog w = .ok (.enter g args) w) (q : Int → Option Bool) (A0 : Option Addr) (c0 : Nat) (l0 : List (Int)) (r : Int) (w : World) (hr0 : Kd.C (Kd.int .u64) w A0 l0.length l0) (hc0 : l0.length ≤ c0)
  (hp : ∀ (W : World) (x : Int) (b : Bool), Below w.heap.size w W → x ∈ l0 → q x = some b → Calls Try.prog g (#[.int .u64 x] ++ lb) W fun e w' => e = .returned (.bool b) ∧ Below W.heap.size W w')
  (h : idxO q l0 0 = some r) : Calls Try.prog 104 #[.slice A0 l0.length c0, .func (.func g) #[] lb] w fun e w' => e = .returned (.int .i64 r) ∧ Below w.heap.size w w' := by
 have HR := am_ hr0
 have HP := am_ hp
 have HH := am_ h
 have hn : l0.length ≤ 9223372036854775807 := hr0.2.1
 clear hr0 hp h
 go_enter Try.func104, Try.ntmps104
 go_wp2
 go_loopg [5, 8] l0.length (fun gg _ s8 wr => ∃ kk : Nat, kk ≤ l0.length ∧ l0.length - kk ≤ gg ∧ s8 = .int .i64 kk ∧ Aside0 (idxO q (l0.drop kk) kk = some r) ∧ Aside0 (Below w.heap.size w wr))
 case atStart => exact ⟨0, Nat.zero_le _, by omega, rfl, HH, ⟨Below.refl _ _⟩⟩
 case round =>
  obtain ⟨kk, hkk, hg, rfl, HA, HB⟩ := hrel
  clear HH
  by_cases hlt : kk < l0.length
  ·have hltz : (kk : Int) < (l0.length : Int) := by omega
   have h0z : 0 ≤ (kk : Int) := by omega
   obtain ⟨ad, e, hx⟩ := Kd.at_int HR.out (kk : Int) h0z hltz
   have er : rd l0 (kk : Int) = l0.getD kk 0 := by simp [rd]
   rw [er] at hx
   have hA := HA.out
   rw [drop_getD hlt 0] at hA
   obtain ⟨b, hb, hA2⟩ := Option.bind_eq_some_iff.mp hA
   have HA2 := am_ hA2
   have hin := getD_in hlt (0 : Int)
   have hcall := HP.out wr _ b HB.out hin hb
   generalize l0.getD kk 0 = y at hx hcall
   clear HA hA hA2 hb er hin
   skip
   cases e
   simp only [Int.toNat_natCast] at hx
   replace hx := (HB.out.cell (World.block_lt_of_cell? w _ hx)).trans hx
   cases b with
   | true =>
    go_wp2_with (go_at_fn g; refine hcall.mono ?_; rintro e w' ⟨rfl, hb2⟩)
    go_ret
    have h3 := HA2.out
    simp only [if_true] at h3
    exact ⟨by rw [← Option.some.inj h3]; rfl, below_step HB.out hb2⟩
   | false =>
    go_wp2_with (go_at_fn g; refine hcall.mono ?_; rintro e w' ⟨rfl, hb2⟩)
    go_roundg (l0.length - (kk + 1))
    case measure => omega
    case rel =>
     refine ⟨kk + 1, by omega, by omega, by go_num, ⟨by have h3 := HA2.out; simpa using h3⟩, ⟨below_step HB.out hb2⟩⟩
  ·have hltz : ¬ (kk : Int) < (l0.length : Int) := by omega
   have hA := HA.out
   rw [List.drop_of_length_le (by omega)] at hA
   have h4 : (-1 : Int) = r := Option.some.inj hA
   subst h4
   clear HA hA
   have : kk = l0.length := by omega
   subst this
   go_wp2
   go_ret
   exact ⟨rfl, HB.out⟩

end Go.Proofs.Ytjnolbjaagmooaa.P
namespace Go.Proofs.Ytjnolbjaagmooaa.P
open Go.RowKit Go.Proofs.YtjnolbjaagmooaaW.PrintWords Go.Proofs.YtjnolbjaagmooaaW.PrintLast Go.Proofs.YtjnolbjaagmooaaW.PrintMore Go.Proofs.Ytjnolbjaagmooaa.Hof
attribute [local go_sem] max2_int min2_int max_two min_two max_three min_three max_four min_four   -- for this text's walks alone
set_option linter.unusedVariables false
set_option linter.unusedSimpArgs false

/-! ### slices_ContainsFunc_uint64_uint64: function 88, whatever the predicate -/
set_option maxHeartbeats 2000000 in
theorem slices_ContainsFunc_uint64_uint64.gen (g : Nat) (lb : Array Value) (eg : ∀ args w, (callFunc g args).run Try.prog w = .ok (.enter g args) w) (q : Int → Option Bool) (A0 : Option Addr) (c0 : Nat) (l0 : List (Int)) (r : Bool) (w : World) (hr0 : Kd.C (Kd.int .u64) w A0 l0.length l0) (hc0 : l0.length ≤ c0)
  (hp : ∀ (W : World) (x : Int) (b : Bool), Below w.heap.size w W → x ∈ l0 → q x = some b → Calls Try.prog g (#[.int .u64 x] ++ lb) W fun e w' => e = .returned (.bool b) ∧ Below W.heap.size W w')
  (h : anyO q l0 = some r) : Calls Try.prog 88 #[.slice A0 l0.length c0, .func (.func g) #[] lb] w fun e w' => e = .returned (.bool r) ∧ Below w.heap.size w w' := by
 obtain ⟨i, hi, hd⟩ := idxO_of_anyO l0 r 0 (Int.le_refl 0) h
 have HC := am_ (slices_IndexFunc_uint64_uint64.gen g lb eg q A0 c0 l0 i w hr0 hc0 hp hi)
 have HD := am_ hd
 clear hr0 hp h hi hd
 go_enter Try.func88, Try.ntmps88
 go_wp2_with (go_at_call 104; refine HC.out.mono ?_; rintro e w' ⟨rfl, hb2⟩)
 go_ret
 exact ⟨by rw [← HD.out]; rfl, hb2⟩

end Go.Proofs.Ytjnolbjaagmooaa.P
namespace Go.Proofs.Ytjnolbjaagmooaa.P
open Go.RowKit Go.Proofs.YtjnolbjaagmooaaW.PrintWords Go.Proofs.YtjnolbjaagmooaaW.PrintLast Go.Proofs.YtjnolbjaagmooaaW.PrintMore Go.Proofs.Ytjnolbjaagmooaa.Hof
attribute [local go_sem] max2_int min2_int max_two min_two max_three min_three max_four min_four   -- for this text's walks alone
set_option linter.unusedVariables false
set_option linter.unusedSimpArgs false

/-! ### impl_isState_1: function 89 -/
def impl_isState_1.f (a0 : Int) (a1_0 : Int) : Option (Bool) := (impl_GoodWord.f a1_0 a0).bind fun t353 => (some (!t353))
set_option maxHeartbeats 8000000 in
set_option maxRecDepth 100000 in
theorem impl_isState_1.calls (a0 : Int) (bp1 : Nat) (a1_0 : Int) (r : Bool) (w : World) (hb1 : w.heap[bp1]? = some (.cells #[.int .i64 a1_0] 3 (0, 0))) (h : impl_isState_1.f a0 a1_0 = some r) :
  Calls Try.prog 89 #[.int .u64 a0, .pointer (some ⟨bp1, 0, none⟩)] w fun e w' => e = .returned (.bool r) ∧ Drawn0 w w' := by
 have HX1 := am_ hb1
 clear hb1
 have H : ((impl_GoodWord.f a1_0 a0).bind fun t353 => (some (!t353))) = some r := h
 clear h
 replace H := Option.bind_eq_some_iff.mp H
 obtain ⟨t353, A30, H⟩ := H
 replace H : (some (!t353)) = some r := H
 have A3 := am_ A30
 clear A30
 obtain rfl := Option.some.inj H
 have hcz4_0 : w.cell? ⟨bp1, 0, none⟩ = some (.int .i64 a1_0) := (blk_cell HX1.out 0).trans rfl
 have hfz4_0 := blk_frozen HX1.out 0
 go_enter Try.func89, Try.ntmps89
 go_wp2_with (first | ((with_reducible refine gate_callee (f := 90) rfl ?_); refine Sh.gL (some 6) Try.func90 #[.int .i64 a1_0, .int .u64 a0] (h := ?_); (with_reducible refine (impl_GoodWord.calls a1_0 a0 t353 _ A3.out).mono ?_); rintro e w' ⟨rfl, ⟨nd, rfl⟩⟩; refine ⟨_, rfl, ?_⟩))
 go_ret
 exact ⟨by first | rfl | (simp; done) | (simp [*]; done), by repeat (first | exact Drawn0.refl _ | apply Drawn0.step)⟩

end Go.Proofs.Ytjnolbjaagmooaa.P
namespace Go.Proofs.Ytjnolbjaagmooaa.P
open Go.RowKit Go.Proofs.YtjnolbjaagmooaaW.PrintWords Go.Proofs.YtjnolbjaagmooaaW.PrintLast Go.Proofs.YtjnolbjaagmooaaW.PrintMore Go.Proofs.Ytjnolbjaagmooaa.Hof
attribute [local go_sem] max2_int min2_int max_two min_two max_three min_three max_four min_four   -- for this text's walks alone
set_option linter.unusedVariables false
set_option linter.unusedSimpArgs false

/-! ### slices_ContainsFunc_uint64_uint64_by_impl_isState_1: function 88 by function 89 -/
def slices_ContainsFunc_uint64_uint64_by_impl_isState_1.f (l0 : List Int) (a1_0 : Int) : Option (Bool) := anyO (fun x_ => impl_isState_1.f x_ a1_0) l0
set_option maxHeartbeats 2000000 in
theorem slices_ContainsFunc_uint64_uint64_by_impl_isState_1.calls (A0 : Option Addr) (c0 : Nat) (l0 : List Int) (bp1 : Nat) (a1_0 : Int) (r : Bool) (w : World) (hr0 : Kd.C (Kd.int .u64) w A0 l0.length l0) (hc0 : l0.length ≤ c0) (hb1 : w.heap[bp1]? = some (.cells #[.int .i64 a1_0] 3 (0, 0))) (h : slices_ContainsFunc_uint64_uint64_by_impl_isState_1.f l0 a1_0 = some r) :
  Calls Try.prog 88 #[.slice A0 l0.length c0, .func (.func 89) #[] #[.pointer (some ⟨bp1, 0, none⟩)]] w fun e w' => e = .returned (.bool r) ∧ Below w.heap.size w w' := by
 refine slices_ContainsFunc_uint64_uint64.gen 89 #[.pointer (some ⟨bp1, 0, none⟩)] (enters_of Try.func89 (by kernel_rfl) rfl) _ A0 c0 l0 r w hr0 hc0 ?_ h
 intro W x b hB_ hin_ hq_
 refine (impl_isState_1.calls x bp1 a1_0 b W ((hB_.block _ (blk_lt hb1)).trans hb1) hq_).mono ?_
 rintro e w' ⟨rfl, hd_⟩
 exact ⟨rfl, hd_.below⟩

end Go.Proofs.Ytjnolbjaagmooaa.P
namespace Go.Proofs.Ytjnolbjaagmooaa.P
open Go.RowKit Go.Proofs.YtjnolbjaagmooaaW.PrintWords Go.Proofs.YtjnolbjaagmooaaW.PrintLast Go.Proofs.YtjnolbjaagmooaaW.PrintMore Go.Proofs.Ytjnolbjaagmooaa.Hof
attribute [local go_sem] max2_int min2_int max_two min_two max_three min_three max_four min_four   -- for this text's walks alone
set_option linter.unusedVariables false
set_option linter.unusedSimpArgs false

/-! ### impl_isState: function 66 -/
def impl_isState.f (a0 : Int) (a1 : Int) (l2 : List Int) : Option (Bool) := (impl_isWide.f a0).bind fun t355 => (if t355 = true then ((impl_isVars.f a1).bind fun t356 => (if t356 = true then (if (l2.length : Int) = a1 then ((slices_ContainsFunc_uint64_uint64_by_impl_isState_1.f l2 a0).bind fun t357 => (some (!t357))) else (some false)) else (some false))) else (some false))
set_option maxHeartbeats 8000000 in
set_option maxRecDepth 100000 in
theorem impl_isState.calls (a0 : Int) (a1 : Int) (A2 : Option Addr) (c2 : Nat) (l2 : List Int) (r : Bool) (w : World) (hr2 : Kd.C (Kd.int .u64) w A2 l2.length l2) (hc2 : l2.length ≤ c2) (h : impl_isState.f a0 a1 l2 = some r) :
  Calls Try.prog 66 #[.int .i64 a0, .int .i64 a1, .slice A2 l2.length c2] w fun e w' => e = .returned (.bool r) ∧ Below w.heap.size w w' := by
 have HR2 := am_ hr2
 have HC2 := am_ hc2
 clear hr2 hc2
 have HB := am_ (Below.refl w.heap.size w)
 have H : ((impl_isWide.f a0).bind fun t355 => (if t355 = true then ((impl_isVars.f a1).bind fun t356 => (if t356 = true then (if (l2.length : Int) = a1 then ((slices_ContainsFunc_uint64_uint64_by_impl_isState_1.f l2 a0).bind fun t357 => (some (!t357))) else (some false)) else (some false))) else (some false))) = some r := h
 clear h
 replace H := Option.bind_eq_some_iff.mp H
 obtain ⟨t355, A40, H⟩ := H
 replace H : (if t355 = true then ((impl_isVars.f a1).bind fun t356 => (if t356 = true then (if (l2.length : Int) = a1 then ((slices_ContainsFunc_uint64_uint64_by_impl_isState_1.f l2 a0).bind fun t357 => (some (!t357))) else (some false)) else (some false))) else (some false)) = some r := H
 have A4 := am_ A40
 clear A40
 by_cases c5 : t355 = true
 ·subst c5
  have H1 : ((impl_isVars.f a1).bind fun t356 => (if t356 = true then (if (l2.length : Int) = a1 then ((slices_ContainsFunc_uint64_uint64_by_impl_isState_1.f l2 a0).bind fun t357 => (some (!t357))) else (some false)) else (some false))) = some r := by rw [if_pos rfl] at H; exact H
  clear H
  have H := H1
  clear H1
  replace H := Option.bind_eq_some_iff.mp H
  obtain ⟨t356, A60, H⟩ := H
  replace H : (if t356 = true then (if (l2.length : Int) = a1 then ((slices_ContainsFunc_uint64_uint64_by_impl_isState_1.f l2 a0).bind fun t357 => (some (!t357))) else (some false)) else (some false)) = some r := H
  have A6 := am_ A60
  clear A60
  by_cases c7 : t356 = true
  ·subst c7
   have H1 : (if (l2.length : Int) = a1 then ((slices_ContainsFunc_uint64_uint64_by_impl_isState_1.f l2 a0).bind fun t357 => (some (!t357))) else (some false)) = some r := by rw [if_pos rfl] at H; exact H
   clear H
   have H := H1
   clear H1
   by_cases c8 : (l2.length : Int) = a1
   ·rw [if_pos c8] at H
    have c8b0 : ((l2.length : Int) == a1) = true := beq_iff_eq.mpr c8
    have c8b1 : ((l2.length : Int) != a1) = false := bne_eq_false_iff_eq.mpr c8
    clear c8
    replace H := Option.bind_eq_some_iff.mp H
    obtain ⟨t357, A90, H⟩ := H
    replace H : (some (!t357)) = some r := H
    have A9 := am_ A90
    clear A90
    obtain rfl := Option.some.inj H
    go_enter Try.func66, Try.ntmps66
    go_wp2_with (first | ((with_reducible refine gate_dst (N := 3) rfl ?_); (try (refine gate_guard (by rfl) ?_; dsimp only)); refine Sh.bx (N := 3) (cs := #[.int .i64 a0]) (t := 3) (h := ?_); intro gb354 hg w10 hbox hb; have n0_ := am_ (below_step Sh.bw hb); have n1_ := am_ (hbox); have n2_ := am_ (Sh.gw (w := w) hg); have n3_ := am_ (Sh.gw (w := w) hg); clear HB; have HB := n0_; have BK354 := n1_; have GW354 := n2_; have GE354 := n3_; clear n0_ n1_ n2_ n3_; clear hb hbox hg; have hcz11_0 := Sh.bc BK354.out 0; have hfz11_0 := blk_frozen BK354.out 0) | ((with_reducible refine gate_callee (f := 83) rfl ?_); refine Sh.gL (some 8) Try.func83 #[.int .i64 a0] (h := ?_); (with_reducible refine (impl_isWide.calls a0 true _ A4.out).mono ?_); rintro e w' ⟨rfl, ⟨nd, rfl⟩⟩; refine ⟨_, rfl, ?_⟩) | (go_at_call 84; (with_reducible refine (impl_isVars.calls a1 true _ A6.out).mono ?_); rintro e w' ⟨rfl, ⟨nd, rfl⟩⟩) | (go_at_call 88; (with_reducible refine (slices_ContainsFunc_uint64_uint64_by_impl_isState_1.calls _ _ l2 gb354 a0 t357 _ ?side1 ?side2 ?side3 A9.out).mono ?_); (case side1 => repeat (first | exact (Kd.C_below HR2.out Sh.bw) | (with_reducible first | refine Kd.C_alloc ?_ _ | refine Kd.C_drewN ?_ _ | refine Kd.C_drew ?_))); (case side2 => exact HC2.out); (case side3 => (with_reducible repeat (first | refine blk_drewN ?_ _ | refine blk_drew ?_ | refine blk_alloc ?_ _)); exact BK354.out); rintro e w12 ⟨rfl, hb⟩; have n0_ := am_ (Sh.bb BK354.out hb); have n1_ := am_ (below_step Sh.bw hb); clear BK354; clear HB; have BK354 := n0_; have HB := n1_; clear n0_ n1_; (try clear hb); (try clear hb2); (try clear hk); (try clear hi)))
    go_ret
    exact ⟨Sh.eR, Sh.bw⟩
   ·rw [if_neg c8] at H
    have c8b0 : ((l2.length : Int) == a1) = false := beq_eq_false_iff_ne.mpr c8
    have c8b1 : ((l2.length : Int) != a1) = true := bne_iff_ne.mpr c8
    obtain rfl := Option.some.inj H
    go_enter Try.func66, Try.ntmps66
    go_wp2_with (first | ((with_reducible refine gate_dst (N := 3) rfl ?_); (try (refine gate_guard (by rfl) ?_; dsimp only)); refine Sh.bx (N := 3) (cs := #[.int .i64 a0]) (t := 3) (h := ?_); intro gb354 hg w13 hbox hb; have n0_ := am_ (below_step Sh.bw hb); have n1_ := am_ (hbox); have n2_ := am_ (Sh.gw (w := w) hg); have n3_ := am_ (Sh.gw (w := w) hg); clear HB; have HB := n0_; have BK354 := n1_; have GW354 := n2_; have GE354 := n3_; clear n0_ n1_ n2_ n3_; clear hb hbox hg; have hcz14_0 := Sh.bc BK354.out 0; have hfz14_0 := blk_frozen BK354.out 0) | ((with_reducible refine gate_callee (f := 83) rfl ?_); refine Sh.gL (some 8) Try.func83 #[.int .i64 a0] (h := ?_); (with_reducible refine (impl_isWide.calls a0 true _ A4.out).mono ?_); rintro e w' ⟨rfl, ⟨nd, rfl⟩⟩; refine ⟨_, rfl, ?_⟩) | (go_at_call 84; (with_reducible refine (impl_isVars.calls a1 true _ A6.out).mono ?_); rintro e w' ⟨rfl, ⟨nd, rfl⟩⟩))
    go_ret
    exact ⟨Sh.eR, Sh.bw⟩
  ·replace c7 := Bool.eq_false_iff.mpr c7
   subst c7
   have H1 : (some false) = some r := by rw [if_neg (show ¬ (false = true) by decide)] at H; exact H
   clear H
   have H := H1
   clear H1
   obtain rfl := Option.some.inj H
   go_enter Try.func66, Try.ntmps66
   go_wp2_with (first | ((with_reducible refine gate_dst (N := 3) rfl ?_); (try (refine gate_guard (by rfl) ?_; dsimp only)); refine Sh.bx (N := 3) (cs := #[.int .i64 a0]) (t := 3) (h := ?_); intro gb354 hg w15 hbox hb; have n0_ := am_ (below_step Sh.bw hb); have n1_ := am_ (hbox); have n2_ := am_ (Sh.gw (w := w) hg); have n3_ := am_ (Sh.gw (w := w) hg); clear HB; have HB := n0_; have BK354 := n1_; have GW354 := n2_; have GE354 := n3_; clear n0_ n1_ n2_ n3_; clear hb hbox hg; have hcz16_0 := Sh.bc BK354.out 0; have hfz16_0 := blk_frozen BK354.out 0) | ((with_reducible refine gate_callee (f := 83) rfl ?_); refine Sh.gL (some 8) Try.func83 #[.int .i64 a0] (h := ?_); (with_reducible refine (impl_isWide.calls a0 true _ A4.out).mono ?_); rintro e w' ⟨rfl, ⟨nd, rfl⟩⟩; refine ⟨_, rfl, ?_⟩) | (go_at_call 84; (with_reducible refine (impl_isVars.calls a1 false _ A6.out).mono ?_); rintro e w' ⟨rfl, ⟨nd, rfl⟩⟩))
   go_ret
   exact ⟨Sh.eR, Sh.bw⟩
 ·replace c5 := Bool.eq_false_iff.mpr c5
  subst c5
  have H1 : (some false) = some r := by rw [if_neg (show ¬ (false = true) by decide)] at H; exact H
  clear H
  have H := H1
  clear H1
  obtain rfl := Option.some.inj H
  go_enter Try.func66, Try.ntmps66
  go_wp2_with (first | ((with_reducible refine gate_dst (N := 3) rfl ?_); (try (refine gate_guard (by rfl) ?_; dsimp only)); refine Sh.bx (N := 3) (cs := #[.int .i64 a0]) (t := 3) (h := ?_); intro gb354 hg w17 hbox hb; have n0_ := am_ (below_step Sh.bw hb); have n1_ := am_ (hbox); have n2_ := am_ (Sh.gw (w := w) hg); have n3_ := am_ (Sh.gw (w := w) hg); clear HB; have HB := n0_; have BK354 := n1_; have GW354 := n2_; have GE354 := n3_; clear n0_ n1_ n2_ n3_; clear hb hbox hg; have hcz18_0 := Sh.bc BK354.out 0; have hfz18_0 := blk_frozen BK354.out 0) | ((with_reducible refine gate_callee (f := 83) rfl ?_); refine Sh.gL (some 8) Try.func83 #[.int .i64 a0] (h := ?_); (with_reducible refine (impl_isWide.calls a0 false _ A4.out).mono ?_); rintro e w' ⟨rfl, ⟨nd, rfl⟩⟩; refine ⟨_, rfl, ?_⟩))
  go_ret
  exact ⟨Sh.eR, Sh.bw⟩

end Go.Proofs.Ytjnolbjaagmooaa.P
namespace Go.Proofs.Ytjnolbjaagmooaa.P
open Go.RowKit Go.Proofs.YtjnolbjaagmooaaW.PrintWords Go.Proofs.YtjnolbjaagmooaaW.PrintLast Go.Proofs.YtjnolbjaagmooaaW.PrintMore Go.Proofs.Ytjnolbjaagmooaa.Hof
attribute [local go_sem] max2_int min2_int max_two min_two max_three min_three max_four min_four   -- for this text's walks alone
set_option linter.unusedVariables false
set_option linter.unusedSimpArgs false

/-! ### impl_isStateOf: function 37 -/
def impl_isStateOf.f (k : Nat) (a0_0 : Int) (a0_1 : Int) (l0_2 : List (S80)) (l0_3 : List (S71)) (l1 : List Int) : Option (Bool) := (impl_GoodProgram.f k a0_0 a0_1 l0_2 l0_3).bind fun t359 => (if t359 = true then ((impl_isState.f a0_0 a0_1 l1).bind fun t360 => (some t360)) else (some false))
theorem impl_isStateOf.mono : ∀ a0 a1 a2 a3 a4 k, LeO (impl_isStateOf.f k a0 a1 a2 a3 a4) (impl_isStateOf.f (k + 1) a0 a1 a2 a3 a4) := by
 intro a0 a1 a2 a3 a4 k
 unfold impl_isStateOf.f
 repeat' first
   | (with_reducible exact impl_GoodProgram.mono _ _ _ _ _)
   | (with_reducible exact LeO.refl _)
   | (with_reducible exact LeO.none _)
   | (with_reducible refine LeO.ite ?_ ?_)
   | (with_reducible refine LeO.bind ?_ (fun _ => ?_))
   | exact impl_GoodProgram.mono _ _ _ _ _
   | exact LeO.none _
   | refine LeO.ite ?_ ?_
   | refine LeO.bind ?_ (fun _ => ?_)
set_option maxHeartbeats 8000000 in
set_option maxRecDepth 100000 in
theorem impl_isStateOf.calls (k : Nat) (a0_0 : Int) (a0_1 : Int) (A0_2 : Option Addr) (c0_2 : Nat) (l0_2 : List (S80)) (A0_3 : Option Addr) (c0_3 : Nat) (l0_3 : List (S71)) (A1 : Option Addr) (c1 : Nat) (l1 : List Int) (r : Bool) (w : World) (hr0_2 : Kd.C k80 w A0_2 l0_2.length l0_2) (hc0_2 : l0_2.length ≤ c0_2) (hr0_3 : Kd.C k71 w A0_3 l0_3.length l0_3) (hc0_3 : l0_3.length ≤ c0_3) (hr1 : Kd.C (Kd.int .u64) w A1 l1.length l1) (hc1 : l1.length ≤ c1) (h : impl_isStateOf.f k a0_0 a0_1 l0_2 l0_3 l1 = some r) :
  Calls Try.prog 37 #[.agg #[.int .i64 a0_0, .int .i64 a0_1, .slice A0_2 l0_2.length c0_2, .slice A0_3 l0_3.length c0_3], .slice A1 l1.length c1] w fun e w' => e = .returned (.bool r) ∧ Below w.heap.size w w' := by
 have hu33 := Try.underlying33
 have HR0_2 := am_ hr0_2
 have HC0_2 := am_ hc0_2
 clear hr0_2 hc0_2
 have HR0_3 := am_ hr0_3
 have HC0_3 := am_ hc0_3
 clear hr0_3 hc0_3
 have HR1 := am_ hr1
 have HC1 := am_ hc1
 clear hr1 hc1
 have HB := am_ (Below.refl w.heap.size w)
 have H : ((impl_GoodProgram.f k a0_0 a0_1 l0_2 l0_3).bind fun t359 => (if t359 = true then ((impl_isState.f a0_0 a0_1 l1).bind fun t360 => (some t360)) else (some false))) = some r := h
 clear h
 replace H := Option.bind_eq_some_iff.mp H
 obtain ⟨t359, A30, H⟩ := H
 replace H : (if t359 = true then ((impl_isState.f a0_0 a0_1 l1).bind fun t360 => (some t360)) else (some false)) = some r := H
 have A3 := am_ A30
 clear A30
 by_cases c4 : t359 = true
 ·subst c4
  have H1 : ((impl_isState.f a0_0 a0_1 l1).bind fun t360 => (some t360)) = some r := by rw [if_pos rfl] at H; exact H
  clear H
  have H := H1
  clear H1
  replace H := Option.bind_eq_some_iff.mp H
  obtain ⟨t360, A50, H⟩ := H
  replace H : (some t360) = some r := H
  have A5 := am_ A50
  clear A50
  obtain rfl := Option.some.inj H
  go_enter Try.func37, Try.ntmps37
  go_wp2_with (first | ((with_reducible refine gate_dst (N := 2) rfl ?_); refine Sh.bx (N := 2) (cs := #[.int .i64 a0_0, .int .i64 a0_1, .slice A0_2 l0_2.length c0_2, .slice A0_3 l0_3.length c0_3]) (t := 33) (h := ?_); intro gb358 hg w6 hbox hb; have n0_ := am_ (below_step Sh.bw hb); have n1_ := am_ (hbox); have n2_ := am_ (Sh.gw (w := w) hg); have n3_ := am_ (Sh.gw (w := w) hg); clear HB; have HB := n0_; have BK358 := n1_; have GW358 := n2_; have GE358 := n3_; clear n0_ n1_ n2_ n3_; clear hb hbox hg; have hcz7_0 := Sh.bc BK358.out 0; have hcz7_1 := Sh.bc BK358.out 1; have hcz7_2 := Sh.bc BK358.out 2; have hcz7_3 := Sh.bc BK358.out 3; have hfz7_0 := blk_frozen BK358.out 0; have hfz7_1 := blk_frozen BK358.out 1; have hfz7_2 := blk_frozen BK358.out 2; have hfz7_3 := blk_frozen BK358.out 3) | ((with_reducible refine gate_callee (f := 65) rfl ?_); refine Sh.gL (some 6) Try.func65 #[.agg #[.int .i64 a0_0, .int .i64 a0_1, .slice A0_2 l0_2.length c0_2, .slice A0_3 l0_3.length c0_3]] (h := ?_); (with_reducible refine (impl_GoodProgram.calls k a0_0 a0_1 _ _ l0_2 _ _ l0_3 true _ (Sh.cB HR0_2.out) HC0_2.out (Sh.cB HR0_3.out) HC0_3.out A3.out).mono ?_); rintro e w8 ⟨rfl, hb⟩; refine ⟨_, rfl, ?_⟩; have n0_ := am_ (Sh.bb BK358.out hb); have n1_ := am_ (below_step Sh.bw hb); clear BK358; clear HB; have BK358 := n0_; have HB := n1_; clear n0_ n1_; (try clear hb); (try clear hb2); (try clear hk); (try clear hi); have hcz9_0 := Sh.bc BK358.out 0; have hcz9_1 := Sh.bc BK358.out 1; have hcz9_2 := Sh.bc BK358.out 2; have hcz9_3 := Sh.bc BK358.out 3; have hfz9_0 := blk_frozen BK358.out 0; have hfz9_1 := blk_frozen BK358.out 1; have hfz9_2 := blk_frozen BK358.out 2; have hfz9_3 := blk_frozen BK358.out 3) | (go_at_call 66; (with_reducible refine (impl_isState.calls a0_0 a0_1 _ _ l1 t360 _ (Sh.cB HR1.out) HC1.out A5.out).mono ?_); rintro e w10 ⟨rfl, hb⟩; have n0_ := am_ (Sh.bb BK358.out hb); have n1_ := am_ (below_step Sh.bw hb); clear BK358; clear HB; have BK358 := n0_; have HB := n1_; clear n0_ n1_; (try clear hb); (try clear hb2); (try clear hk); (try clear hi)))
  go_ret
  exact ⟨Sh.eR, Sh.bw⟩
 ·replace c4 := Bool.eq_false_iff.mpr c4
  subst c4
  have H1 : (some false) = some r := by rw [if_neg (show ¬ (false = true) by decide)] at H; exact H
  clear H
  have H := H1
  clear H1
  obtain rfl := Option.some.inj H
  go_enter Try.func37, Try.ntmps37
  go_wp2_with (first | ((with_reducible refine gate_dst (N := 2) rfl ?_); refine Sh.bx (N := 2) (cs := #[.int .i64 a0_0, .int .i64 a0_1, .slice A0_2 l0_2.length c0_2, .slice A0_3 l0_3.length c0_3]) (t := 33) (h := ?_); intro gb358 hg w11 hbox hb; have n0_ := am_ (below_step Sh.bw hb); have n1_ := am_ (hbox); have n2_ := am_ (Sh.gw (w := w) hg); have n3_ := am_ (Sh.gw (w := w) hg); clear HB; have HB := n0_; have BK358 := n1_; have GW358 := n2_; have GE358 := n3_; clear n0_ n1_ n2_ n3_; clear hb hbox hg; have hcz12_0 := Sh.bc BK358.out 0; have hcz12_1 := Sh.bc BK358.out 1; have hcz12_2 := Sh.bc BK358.out 2; have hcz12_3 := Sh.bc BK358.out 3; have hfz12_0 := blk_frozen BK358.out 0; have hfz12_1 := blk_frozen BK358.out 1; have hfz12_2 := blk_frozen BK358.out 2; have hfz12_3 := blk_frozen BK358.out 3) | ((with_reducible refine gate_callee (f := 65) rfl ?_); refine Sh.gL (some 6) Try.func65 #[.agg #[.int .i64 a0_0, .int .i64 a0_1, .slice A0_2 l0_2.length c0_2, .slice A0_3 l0_3.length c0_3]] (h := ?_); (with_reducible refine (impl_GoodProgram.calls k a0_0 a0_1 _ _ l0_2 _ _ l0_3 false _ (Sh.cB HR0_2.out) HC0_2.out (Sh.cB HR0_3.out) HC0_3.out A3.out).mono ?_); rintro e w13 ⟨rfl, hb⟩; refine ⟨_, rfl, ?_⟩; have n0_ := am_ (Sh.bb BK358.out hb); have n1_ := am_ (below_step Sh.bw hb); clear BK358; clear HB; have BK358 := n0_; have HB := n1_; clear n0_ n1_; (try clear hb); (try clear hb2); (try clear hk); (try clear hi)))
  go_ret
  exact ⟨Sh.eR, Sh.bw⟩

end Go.Proofs.Ytjnolbjaagmooaa.P
namespace Go.Proofs.Ytjnolbjaagmooaa.P
open Go.RowKit Go.Proofs.YtjnolbjaagmooaaW.PrintWords Go.Proofs.YtjnolbjaagmooaaW.PrintLast Go.Proofs.YtjnolbjaagmooaaW.PrintMore Go.Proofs.Ytjnolbjaagmooaa.Hof
attribute [local go_sem] max2_int min2_int max_two min_two max_three min_three max_four min_four   -- for this text's walks alone
set_option linter.unusedVariables false
set_option linter.unusedSimpArgs false

/-! ### impl_areWords: function 115 -/
def impl_areWords.f (a0 : Int) (a1 : Int) (a2 : Int) : Option (Bool) := (impl_GoodWord.f a0 a1).bind fun t361 => (if t361 = true then ((impl_GoodWord.f a0 a2).bind fun t362 => (some t362)) else (some false))
set_option maxHeartbeats 8000000 in
set_option maxRecDepth 100000 in
theorem impl_areWords.calls (a0 : Int) (a1 : Int) (a2 : Int) (r : Bool) (w : World) (h : impl_areWords.f a0 a1 a2 = some r) :
  Calls Try.prog 115 #[.int .i64 a0, .int .u64 a1, .int .u64 a2] w fun e w' => e = .returned (.bool r) ∧ Drawn0 w w' := by
 have H : ((impl_GoodWord.f a0 a1).bind fun t361 => (if t361 = true then ((impl_GoodWord.f a0 a2).bind fun t362 => (some t362)) else (some false))) = some r := h
 clear h
 replace H := Option.bind_eq_some_iff.mp H
 obtain ⟨t361, A40, H⟩ := H
 replace H : (if t361 = true then ((impl_GoodWord.f a0 a2).bind fun t362 => (some t362)) else (some false)) = some r := H
 have A4 := am_ A40
 clear A40
 by_cases c5 : t361 = true
 ·subst c5
  have H1 : ((impl_GoodWord.f a0 a2).bind fun t362 => (some t362)) = some r := by rw [if_pos rfl] at H; exact H
  clear H
  have H := H1
  clear H1
  replace H := Option.bind_eq_some_iff.mp H
  obtain ⟨t362, A60, H⟩ := H
  replace H : (some t362) = some r := H
  have A6 := am_ A60
  clear A60
  obtain rfl := Option.some.inj H
  go_enter Try.func115, Try.ntmps115
  go_wp2_with (first | ((with_reducible refine gate_callee (f := 90) rfl ?_); refine Sh.gL (some 9) Try.func90 #[.int .i64 a0, .int .u64 a1] (h := ?_); (with_reducible refine (impl_GoodWord.calls a0 a1 true _ A4.out).mono ?_); rintro e w' ⟨rfl, ⟨nd, rfl⟩⟩; refine ⟨_, rfl, ?_⟩) | (go_at_call 90; (with_reducible refine (impl_GoodWord.calls a0 a2 t362 _ A6.out).mono ?_); rintro e w' ⟨rfl, ⟨nd, rfl⟩⟩))
  go_ret
  exact ⟨by first | rfl | (simp; done) | (simp [*]; done), by repeat (first | exact Drawn0.refl _ | apply Drawn0.step)⟩
 ·replace c5 := Bool.eq_false_iff.mpr c5
  subst c5
  have H1 : (some false) = some r := by rw [if_neg (show ¬ (false = true) by decide)] at H; exact H
  clear H
  have H := H1
  clear H1
  obtain rfl := Option.some.inj H
  go_enter Try.func115, Try.ntmps115
  go_wp2_with (first | ((with_reducible refine gate_callee (f := 90) rfl ?_); refine Sh.gL (some 9) Try.func90 #[.int .i64 a0, .int .u64 a1] (h := ?_); (with_reducible refine (impl_GoodWord.calls a0 a1 false _ A4.out).mono ?_); rintro e w' ⟨rfl, ⟨nd, rfl⟩⟩; refine ⟨_, rfl, ?_⟩))
  go_ret
  exact ⟨by first | rfl | (simp; done) | (simp [*]; done), by repeat (first | exact Drawn0.refl _ | apply Drawn0.step)⟩

end Go.Proofs.Ytjnolbjaagmooaa.P
namespace Go.Proofs.Ytjnolbjaagmooaa.P
open Go.RowKit Go.Proofs.YtjnolbjaagmooaaW.PrintWords Go.Proofs.YtjnolbjaagmooaaW.PrintLast Go.Proofs.YtjnolbjaagmooaaW.PrintMore Go.Proofs.Ytjnolbjaagmooaa.Hof
attribute [local go_sem] max2_int min2_int max_two min_two max_three min_three max_four min_four   -- for this text's walks alone
set_option linter.unusedVariables false
set_option linter.unusedSimpArgs false

/-! ### bits_Div64: function 116, where the high word is 0 -/
def bits_Div64.f (a0 a1 a2 : Int) : Option (Int × Int) := if a0 = 0 ∧ 0 < a2 then some (IntKind.u64.wrap (Int.tdiv a1 a2), Int.tmod a1 a2) else none
set_option maxHeartbeats 2000000 in
theorem bits_Div64.calls (a0 : Int) (a1 : Int) (a2 : Int) (r1 : Int) (r2 : Int) (w : World) (h : bits_Div64.f a0 a1 a2 = some (r1, r2)) :
  Calls Try.prog 116 #[.int .u64 a0, .int .u64 a1, .int .u64 a2] w fun e w' => e = .returned (.tuple #[.int .u64 r1, .int .u64 r2]) ∧ Drawn0 w w' := by
 have hf : a0 = 0 ∧ 0 < a2 := by
  rcases Decidable.em (a0 = 0 ∧ 0 < a2) with h1 | h1
  ·exact h1
  ·rw [bits_Div64.f, if_neg h1] at h; cases h
 rw [bits_Div64.f, if_pos hf] at h
 obtain ⟨rfl, h0⟩ := hf
 simp only [Option.some.injEq, Prod.mk.injEq] at h
 obtain ⟨rfl, rfl⟩ := h
 have h1 : ¬ (a2 = 0) := by omega
 have h3 : (a2 == 0) = false := by simpa using h1
 have h2 : ¬ (a2 ≤ 0) := by omega
 go_enter Try.func116, Try.ntmps116
 go_wp2
 go_region
 all_goals go_wp2
 all_goals go_ret2
 all_goals exact ⟨by first | rfl | (simp; done), by repeat (first | exact Drawn0.refl _ | apply Drawn0.step)⟩

end Go.Proofs.Ytjnolbjaagmooaa.P
namespace Go.Proofs.Ytjnolbjaagmooaa.P
open Go.RowKit Go.Proofs.YtjnolbjaagmooaaW.PrintWords Go.Proofs.YtjnolbjaagmooaaW.PrintLast Go.Proofs.YtjnolbjaagmooaaW.PrintMore Go.Proofs.Ytjnolbjaagmooaa.Hof
attribute [local go_sem] max2_int min2_int max_two min_two max_three min_three max_four min_four   -- for this text's walks alone
set_option linter.unusedVariables false
set_option linter.unusedSimpArgs false

/-! ### impl_DivWord: function 105 -/
def impl_DivWord.f (a0 : Int) (a1 : Int) (a2 : Int) : Option (Int × Int × Bool) := (impl_areWords.f a0 a1 a2).bind fun t364 => (if t364 = true then (if a2 = 0 then ((impl_mask.f a0).bind fun t365 => (some (t365, a1, true))) else ((bits_Div64.f 0 a1 a2).bind fun bt366 => (some (bt366.1, bt366.2, true)))) else (some (0, 0, false)))
set_option maxHeartbeats 8000000 in
set_option maxRecDepth 100000 in
theorem impl_DivWord.calls (a0 : Int) (a1 : Int) (a2 : Int) (r1 : Int) (r2 : Int) (r3 : Bool) (w : World) (h : impl_DivWord.f a0 a1 a2 = some (r1, r2, r3)) :
  Calls Try.prog 105 #[.int .i64 a0, .int .u64 a1, .int .u64 a2] w fun e w' => e = .returned (.tuple #[.int .u64 r1, .int .u64 r2, .bool r3]) ∧ Drawn0 w w' := by
 have H : ((impl_areWords.f a0 a1 a2).bind fun t364 => (if t364 = true then (if a2 = 0 then ((impl_mask.f a0).bind fun t365 => (some (t365, a1, true))) else ((bits_Div64.f 0 a1 a2).bind fun bt366 => (some (bt366.1, bt366.2, true)))) else (some (0, 0, false)))) = some (r1, r2, r3) := h
 clear h
 replace H := Option.bind_eq_some_iff.mp H
 obtain ⟨t364, A40, H⟩ := H
 replace H : (if t364 = true then (if a2 = 0 then ((impl_mask.f a0).bind fun t365 => (some (t365, a1, true))) else ((bits_Div64.f 0 a1 a2).bind fun bt366 => (some (bt366.1, bt366.2, true)))) else (some (0, 0, false))) = some (r1, r2, r3) := H
 have A4 := am_ A40
 clear A40
 by_cases c5 : t364 = true
 ·subst c5
  have H1 : (if a2 = 0 then ((impl_mask.f a0).bind fun t365 => (some (t365, a1, true))) else ((bits_Div64.f 0 a1 a2).bind fun bt366 => (some (bt366.1, bt366.2, true)))) = some (r1, r2, r3) := by rw [if_pos rfl] at H; exact H
  clear H
  have H := H1
  clear H1
  by_cases c6 : a2 = 0
  ·rw [if_pos c6] at H
   have c6b0 : (a2 == 0) = true := beq_iff_eq.mpr c6
   have c6b1 : (a2 != 0) = false := bne_eq_false_iff_eq.mpr c6
   clear c6
   replace H := Option.bind_eq_some_iff.mp H
   obtain ⟨t365, A70, H⟩ := H
   replace H : (some (t365, a1, true)) = some (r1, r2, r3) := H
   have A7 := am_ A70
   clear A70
   simp only [Option.some.injEq, Prod.mk.injEq] at H
   obtain ⟨rfl, rfl, rfl⟩ := H
   go_enter Try.func105, Try.ntmps105
   go_wp2_with (first | ((with_reducible refine gate_callee (f := 115) rfl ?_); refine Sh.gL (some 15) Try.func115 #[.int .i64 a0, .int .u64 a1, .int .u64 a2] (h := ?_); (with_reducible refine (impl_areWords.calls a0 a1 a2 true _ A4.out).mono ?_); rintro e w' ⟨rfl, ⟨nd, rfl⟩⟩; refine ⟨_, rfl, ?_⟩) | ((with_reducible refine gate_callee (f := 75) rfl ?_); refine Sh.gL (some 21) Try.func75 #[.int .i64 a0] (h := ?_); (with_reducible refine (impl_mask.calls a0 t365 _ A7.out).mono ?_); rintro e w' ⟨rfl, ⟨nd, rfl⟩⟩; refine ⟨_, rfl, ?_⟩))
   go_ret3
   exact ⟨by first | rfl | (simp; done) | (simp [*]; done), by repeat (first | exact Drawn0.refl _ | apply Drawn0.step)⟩
  ·rw [if_neg c6] at H
   have c6b0 : (a2 == 0) = false := beq_eq_false_iff_ne.mpr c6
   have c6b1 : (a2 != 0) = true := bne_iff_ne.mpr c6
   replace H := Option.bind_eq_some_iff.mp H
   obtain ⟨⟨t366, t367⟩, A80, H⟩ := H
   replace H : (some (t366, t367, true)) = some (r1, r2, r3) := H
   have A8 := am_ A80
   clear A80
   simp only [Option.some.injEq, Prod.mk.injEq] at H
   obtain ⟨rfl, rfl, rfl⟩ := H
   go_enter Try.func105, Try.ntmps105
   go_wp2_with (first | ((with_reducible refine gate_callee (f := 115) rfl ?_); refine Sh.gL (some 15) Try.func115 #[.int .i64 a0, .int .u64 a1, .int .u64 a2] (h := ?_); (with_reducible refine (impl_areWords.calls a0 a1 a2 true _ A4.out).mono ?_); rintro e w' ⟨rfl, ⟨nd, rfl⟩⟩; refine ⟨_, rfl, ?_⟩) | ((with_reducible refine gate_callee (f := 116) rfl ?_); refine Sh.gL (some 26) Try.func116 #[.int .u64 0, .int .u64 a1, .int .u64 a2] (h := ?_); (with_reducible refine (bits_Div64.calls 0 a1 a2 t366 t367 _ A8.out).mono ?_); rintro e w' ⟨rfl, ⟨nd, rfl⟩⟩; refine ⟨_, rfl, ?_⟩))
   go_ret3
   exact ⟨by first | rfl | (simp; done) | (simp [*]; done), by repeat (first | exact Drawn0.refl _ | apply Drawn0.step)⟩
 ·replace c5 := Bool.eq_false_iff.mpr c5
  subst c5
  have H1 : (some (0, 0, false)) = some (r1, r2, r3) := by rw [if_neg (show ¬ (false = true) by decide)] at H; exact H
  clear H
  have H := H1
  clear H1
  simp only [Option.some.injEq, Prod.mk.injEq] at H
  obtain ⟨rfl, rfl, rfl⟩ := H
  go_enter Try.func105, Try.ntmps105
  go_wp2_with (first | ((with_reducible refine gate_callee (f := 115) rfl ?_); refine Sh.gL (some 15) Try.func115 #[.int .i64 a0, .int .u64 a1, .int .u64 a2] (h := ?_); (with_reducible refine (impl_areWords.calls a0 a1 a2 false _ A4.out).mono ?_); rintro e w' ⟨rfl, ⟨nd, rfl⟩⟩; refine ⟨_, rfl, ?_⟩))
  go_ret3
  exact ⟨by first | rfl | (simp; done) | (simp [*]; done), by repeat (first | exact Drawn0.refl _ | apply Drawn0.step)⟩

end Go.Proofs.Ytjnolbjaagmooaa.P
namespace Go.Proofs.Ytjnolbjaagmooaa.P
open Go.RowKit Go.Proofs.YtjnolbjaagmooaaW.PrintWords Go.Proofs.YtjnolbjaagmooaaW.PrintLast Go.Proofs.YtjnolbjaagmooaaW.PrintMore Go.Proofs.Ytjnolbjaagmooaa.Hof
attribute [local go_sem] max2_int min2_int max_two min_two max_three min_three max_four min_four   -- for this text's walks alone
set_option linter.unusedVariables false
set_option linter.unusedSimpArgs false

/-! ### impl_shift: function 106 -/
def impl_shift.f (a0 : Int) (a1 : Int) (a2 : Int) (a3 : Bool) : Option (Int) := if a2 ≥ (IntKind.u64.wrap (a0)) then (some 0) else (if a3 = true then (if 0 ≤ a2 then ((impl_mask.f a0).bind fun t368 => (some (Go.bits .and .u64 (shl .u64 a1 a2) t368))) else (none)) else (if 0 ≤ a2 then (some (shr .u64 a1 a2)) else (none)))
set_option maxHeartbeats 8000000 in
set_option maxRecDepth 100000 in
theorem impl_shift.calls (a0 : Int) (a1 : Int) (a2 : Int) (a3 : Bool) (r : Int) (w : World) (h : impl_shift.f a0 a1 a2 a3 = some r) :
  Calls Try.prog 106 #[.int .i64 a0, .int .u64 a1, .int .u64 a2, .bool a3] w fun e w' => e = .returned (.int .u64 r) ∧ Drawn0 w w' := by
 have H : (if a2 ≥ (IntKind.u64.wrap (a0)) then (some 0) else (if a3 = true then (if 0 ≤ a2 then ((impl_mask.f a0).bind fun t368 => (some (Go.bits .and .u64 (shl .u64 a1 a2) t368))) else (none)) else (if 0 ≤ a2 then (some (shr .u64 a1 a2)) else (none)))) = some r := h
 clear h
 by_cases c5 : a2 ≥ (IntKind.u64.wrap (a0))
 ·rw [if_pos c5] at H
  have c5b0 : decide ((IntKind.u64.wrap (a0)) ≤ a2) = true := decide_eq_true c5
  clear c5
  obtain rfl := Option.some.inj H
  go_enter Try.func106, Try.ntmps106
  go_wp2
  go_ret
  exact ⟨by first | rfl | (simp; done) | (simp [*]; done), by repeat (first | exact Drawn0.refl _ | apply Drawn0.step)⟩
 ·rw [if_neg c5] at H
  have c5b0 : decide ((IntKind.u64.wrap (a0)) ≤ a2) = false := decide_eq_false c5
  clear c5
  by_cases c6 : a3 = true
  ·subst c6
   have H1 : (if 0 ≤ a2 then ((impl_mask.f a0).bind fun t368 => (some (Go.bits .and .u64 (shl .u64 a1 a2) t368))) else (none)) = some r := by rw [if_pos rfl] at H; exact H
   clear H
   have H := H1
   clear H1
   by_cases c7 : 0 ≤ a2
   ·rw [if_pos c7] at H
    have c7b0 := eq_true c7
    have c7b1 : decide (0 ≤ a2) = true := decide_eq_true c7
    clear c7
    obtain ⟨ji8, hji8⟩ : ∃ j_ : Int, (shl .u64 a1 a2) = j_ := ⟨_, rfl⟩
    replace H : ((impl_mask.f a0).bind fun t368 => (some (Go.bits .and .u64 (ji8) t368))) = some r := by first | (rw [hji8] at H; exact H) | (simp only [hji8] at H ⊢; exact H)
    have hji8_ : (IntKind.u64.wrap (a1 * 2 ^ min a2.toNat 64)) = ji8 := hji8
    have hji8z : a2 ≤ 64 → (IntKind.u64.wrap (a1 * 2 ^ a2.toNat)) = ji8 := shl_small hji8
    replace H := Option.bind_eq_some_iff.mp H
    obtain ⟨t368, A90, H⟩ := H
    replace H : (some (Go.bits .and .u64 (ji8) t368)) = some r := H
    have A9 := am_ A90
    clear A90
    obtain rfl := Option.some.inj H
    go_enter Try.func106, Try.ntmps106
    go_wp2_with (first | ((with_reducible refine gate_callee (f := 75) rfl ?_); refine Sh.gL (some 20) Try.func75 #[.int .i64 a0] (h := ?_); (with_reducible refine (impl_mask.calls a0 t368 _ A9.out).mono ?_); rintro e w' ⟨rfl, ⟨nd, rfl⟩⟩; refine ⟨_, rfl, ?_⟩))
    go_ret
    exact ⟨by first | rfl | (simp; done) | (simp only [← hji8] <;> (first | rfl | simp)) | (simp [*]; done), by repeat (first | exact Drawn0.refl _ | apply Drawn0.step)⟩
   ·rw [if_neg c7] at H
    exact absurd H (by simp)
  ·replace c6 := Bool.eq_false_iff.mpr c6
   subst c6
   have H1 : (if 0 ≤ a2 then (some (shr .u64 a1 a2)) else (none)) = some r := by rw [if_neg (show ¬ (false = true) by decide)] at H; exact H
   clear H
   have H := H1
   clear H1
   by_cases c10 : 0 ≤ a2
   ·rw [if_pos c10] at H
    have c10b0 := eq_true c10
    have c10b1 : decide (0 ≤ a2) = true := decide_eq_true c10
    clear c10
    obtain ⟨ji11, hji11⟩ : ∃ j_ : Int, (shr .u64 a1 a2) = j_ := ⟨_, rfl⟩
    replace H : (some ji11) = some r := by first | (rw [hji11] at H; exact H) | (simp only [hji11] at H ⊢; exact H)
    have hji11_ : (a1 / 2 ^ min a2.toNat 64) = ji11 := hji11
    have hji11z : a2 ≤ 64 → (a1 / 2 ^ a2.toNat) = ji11 := shr_small hji11
    obtain rfl := Option.some.inj H
    go_enter Try.func106, Try.ntmps106
    go_wp2
    go_ret
    exact ⟨by first | rfl | (simp; done) | (simp only [← hji11] <;> (first | rfl | simp)) | (simp [*]; done), by repeat (first | exact Drawn0.refl _ | apply Drawn0.step)⟩
   ·rw [if_neg c10] at H
    exact absurd H (by simp)

end Go.Proofs.Ytjnolbjaagmooaa.P
namespace Go.Proofs.Ytjnolbjaagmooaa.P
open Go.RowKit Go.Proofs.YtjnolbjaagmooaaW.PrintWords Go.Proofs.YtjnolbjaagmooaaW.PrintLast Go.Proofs.YtjnolbjaagmooaaW.PrintMore Go.Proofs.Ytjnolbjaagmooaa.Hof
attribute [local go_sem] max2_int min2_int max_two min_two max_three min_three max_four min_four   -- for this text's walks alone
set_option linter.unusedVariables false
set_option linter.unusedSimpArgs false

/-! ### impl_truth: function 107 -/
def impl_truth.f (a0 : Bool) : Option (Int) := if a0 = true then (some 1) else (some 0)
set_option maxHeartbeats 8000000 in
set_option maxRecDepth 100000 in
theorem impl_truth.calls (a0 : Bool) (r : Int) (w : World) (h : impl_truth.f a0 = some r) :
  Calls Try.prog 107 #[.bool a0] w fun e w' => e = .returned (.int .u64 r) ∧ Drawn0 w w' := by
 have H : (if a0 = true then (some 1) else (some 0)) = some r := h
 clear h
 by_cases c2 : a0 = true
 ·subst c2
  have H1 : (some 1) = some r := by rw [if_pos rfl] at H; exact H
  clear H
  have H := H1
  clear H1
  obtain rfl := Option.some.inj H
  go_enter Try.func107, Try.ntmps107
  go_wp2
  go_ret
  exact ⟨by first | rfl | (simp; done) | (simp [*]; done), by repeat (first | exact Drawn0.refl _ | apply Drawn0.step)⟩
 ·replace c2 := Bool.eq_false_iff.mpr c2
  subst c2
  have H1 : (some 0) = some r := by rw [if_neg (show ¬ (false = true) by decide)] at H; exact H
  clear H
  have H := H1
  clear H1
  obtain rfl := Option.some.inj H
  go_enter Try.func107, Try.ntmps107
  go_wp2
  go_ret
  exact ⟨by first | rfl | (simp; done) | (simp [*]; done), by repeat (first | exact Drawn0.refl _ | apply Drawn0.step)⟩

end Go.Proofs.Ytjnolbjaagmooaa.P
namespace Go.Proofs.Ytjnolbjaagmooaa.P
open Go.RowKit Go.Proofs.YtjnolbjaagmooaaW.PrintWords Go.Proofs.YtjnolbjaagmooaaW.PrintLast Go.Proofs.YtjnolbjaagmooaaW.PrintMore Go.Proofs.Ytjnolbjaagmooaa.Hof
attribute [local go_sem] max2_int min2_int max_two min_two max_three min_three max_four min_four   -- for this text's walks alone
set_option linter.unusedVariables false
set_option linter.unusedSimpArgs false

/-! ### impl_signed: function 108 -/
def impl_signed.f (a0 : Int) (a1 : Int) : Option (Int) := if 0 ≤ (wrap64 (64 - a0)) then (some (shr .i64 (wrap64 (shl .u64 a1 (wrap64 (64 - a0)))) (wrap64 (64 - a0)))) else (none)
set_option maxHeartbeats 8000000 in
set_option maxRecDepth 100000 in
theorem impl_signed.calls (a0 : Int) (a1 : Int) (r : Int) (w : World) (h : impl_signed.f a0 a1 = some r) :
  Calls Try.prog 108 #[.int .i64 a0, .int .u64 a1] w fun e w' => e = .returned (.int .i64 r) ∧ Drawn0 w w' := by
 have H : (if 0 ≤ (wrap64 (64 - a0)) then (some (shr .i64 (wrap64 (shl .u64 a1 (wrap64 (64 - a0)))) (wrap64 (64 - a0)))) else (none)) = some r := h
 clear h
 obtain ⟨ji3, hji3⟩ : ∃ j_ : Int, (wrap64 (64 - a0)) = j_ := ⟨_, rfl⟩
 replace H : (if 0 ≤ (ji3) then (some (shr .i64 (wrap64 (shl .u64 a1 (ji3))) (ji3))) else (none)) = some r := by first | (rw [hji3] at H; exact H) | (simp only [hji3] at H ⊢; exact H)
 have hji3w : (IntKind.i64.wrap (64 - a0)) = ji3 := (i64_w _).trans hji3
 by_cases c4 : 0 ≤ (ji3)
 ·rw [if_pos c4] at H
  have c4b0 := eq_true c4
  have c4b1 : decide (0 ≤ (ji3)) = true := decide_eq_true c4
  clear c4
  obtain ⟨ji5, hji5⟩ : ∃ j_ : Int, (shl .u64 a1 (ji3)) = j_ := ⟨_, rfl⟩
  replace H : (some (shr .i64 (wrap64 (ji5)) (ji3))) = some r := by first | (rw [hji5] at H; exact H) | (simp only [hji5] at H ⊢; exact H)
  have hji5_ : (IntKind.u64.wrap (a1 * 2 ^ min (ji3).toNat 64)) = ji5 := hji5
  have hji5z : (ji3) ≤ 64 → (IntKind.u64.wrap (a1 * 2 ^ (ji3).toNat)) = ji5 := shl_small hji5
  have c6b0 := eq_true (of_decide_eq_true (by first | (with_reducible assumption) | assumption) : 0 ≤ (ji3))
  obtain ⟨ji7, hji7⟩ : ∃ j_ : Int, (shr .i64 (wrap64 (ji5)) (ji3)) = j_ := ⟨_, rfl⟩
  replace H : (some ji7) = some r := by first | (rw [hji7] at H; exact H) | (simp only [hji7] at H ⊢; exact H)
  have hji7_ : ((wrap64 (ji5)) / 2 ^ min (ji3).toNat 64) = ji7 := hji7
  have hji7z : (ji3) ≤ 64 → ((wrap64 (ji5)) / 2 ^ (ji3).toNat) = ji7 := shr_small hji7
  obtain rfl := Option.some.inj H
  go_enter Try.func108, Try.ntmps108
  go_wp2
  go_ret
  exact ⟨by first | rfl | (simp; done) | (simp only [← hji3, ← hji5, ← hji7] <;> (first | rfl | simp)) | (simp [*]; done), by repeat (first | exact Drawn0.refl _ | apply Drawn0.step)⟩
 ·rw [if_neg c4] at H
  exact absurd H (by simp)

end Go.Proofs.Ytjnolbjaagmooaa.P
namespace Go.Proofs.Ytjnolbjaagmooaa.P
open Go.RowKit Go.Proofs.YtjnolbjaagmooaaW.PrintWords Go.Proofs.YtjnolbjaagmooaaW.PrintLast Go.Proofs.YtjnolbjaagmooaaW.PrintMore Go.Proofs.Ytjnolbjaagmooaa.Hof
attribute [local go_sem] max2_int min2_int max_two min_two max_three min_three max_four min_four   -- for this text's walks alone
set_option linter.unusedVariables false
set_option linter.unusedSimpArgs false

/-! ### impl_apply: function 91 -/
mutual
def impl_apply.j0 : Nat → Int → Int → Int → Int → Int → Int → Bool → Option (Int)
 | 0, _, _, _, _, _, _, _ => none
 | k + 1, x0, x1, x2, x3, x9, x10, x46 => if x46 = true then ((impl_mask.f x0).bind fun t380 => (some (Go.bits .and .u64 (Go.bits .and .u64 x2 x3) t380))) else (if x10 = 9 then (impl_apply.j1 k x0 x1 x2 x3 x9 x10 (x10 == 9)) else (impl_apply.j1 k x0 x1 x2 x3 x9 x10 (x10 == 18)))
def impl_apply.j1 : Nat → Int → Int → Int → Int → Int → Int → Bool → Option (Int)
 | 0, _, _, _, _, _, _, _ => none
 | k + 1, x0, x1, x2, x3, x9, x10, x52 => if x52 = true then ((impl_mask.f x0).bind fun t381 => (some (Go.bits .and .u64 (Go.bits .or .u64 x2 x3) t381))) else (if x10 = 10 then ((impl_mask.f x0).bind fun t382 => (some (Go.bits .and .u64 (Go.bits .xor .u64 x2 x3) t382))) else (if x10 = 11 then (impl_apply.j2 k x0 x1 x2 x3 x9 x10 (x10 == 11)) else (impl_apply.j2 k x0 x1 x2 x3 x9 x10 (x10 == 12))))
def impl_apply.j2 : Nat → Int → Int → Int → Int → Int → Int → Bool → Option (Int)
 | 0, _, _, _, _, _, _, _ => none
 | k + 1, x0, x1, x2, x3, x9, x10, x63 => if x63 = true then ((impl_shift.f x0 x2 x3 (x1 == 11)).bind fun t383 => ((impl_mask.f x0).bind fun t384 => (some (Go.bits .and .u64 t383 t384)))) else (if x10 = 14 then ((impl_truth.f (x2 == x3)).bind fun t385 => ((impl_mask.f x0).bind fun t386 => (some (Go.bits .and .u64 t385 t386)))) else (if x10 = 15 then ((impl_truth.f (decide (x2 < x3))).bind fun t387 => ((impl_mask.f x0).bind fun t388 => (some (Go.bits .and .u64 t387 t388)))) else (if x10 = 16 then ((impl_signed.f x0 x2).bind fun t389 => ((impl_signed.f x0 x3).bind fun t390 => ((impl_truth.f (decide (t389 < t390))).bind fun t391 => ((impl_mask.f x0).bind fun t392 => (some (Go.bits .and .u64 t391 t392)))))) else ((impl_mask.f x0).bind fun t393 => (some (Go.bits .and .u64 x9 t393))))))
end
def impl_apply.f (k : Nat) (a0 : Int) (a1 : Int) (a2 : Int) (a3 : Int) : Option (Int) := if a1 = 3 then ((impl_mask.f a0).bind fun t369 => (some (Go.bits .and .u64 (IntKind.u64.wrap (a2 + a3)) t369))) else (if a1 = 4 then ((impl_mask.f a0).bind fun t370 => (some (Go.bits .and .u64 (IntKind.u64.wrap (a2 - a3)) t370))) else (if a1 = 5 then ((impl_mask.f a0).bind fun t371 => (some (Go.bits .and .u64 (IntKind.u64.wrap (a2 * a3)) t371))) else (if a1 = 6 then ((impl_DivWord.f a0 a2 a3).bind fun bt372 => ((impl_mask.f a0).bind fun t375 => (some (Go.bits .and .u64 bt372.1 t375)))) else (if a1 = 7 then ((impl_DivWord.f a0 a2 a3).bind fun bt376 => ((impl_mask.f a0).bind fun t379 => (some (Go.bits .and .u64 bt376.2.1 t379)))) else (if a1 = 8 then (impl_apply.j0 k a0 a1 a2 a3 0 a1 (a1 == 8)) else (impl_apply.j0 k a0 a1 a2 a3 0 a1 (a1 == 17)))))))
theorem impl_apply.mono_l : ∀ k, (∀ y0 y1 y2 y3 y4 y5 y6, LeO (impl_apply.j0 k y0 y1 y2 y3 y4 y5 y6) (impl_apply.j0 (k + 1) y0 y1 y2 y3 y4 y5 y6)) ∧ (∀ y0 y1 y2 y3 y4 y5 y6, LeO (impl_apply.j1 k y0 y1 y2 y3 y4 y5 y6) (impl_apply.j1 (k + 1) y0 y1 y2 y3 y4 y5 y6)) ∧ (∀ y0 y1 y2 y3 y4 y5 y6, LeO (impl_apply.j2 k y0 y1 y2 y3 y4 y5 y6) (impl_apply.j2 (k + 1) y0 y1 y2 y3 y4 y5 y6))
 | 0 => ⟨fun _ _ _ _ _ _ _ r h => by simp [impl_apply.j0] at h, fun _ _ _ _ _ _ _ r h => by simp [impl_apply.j1] at h, fun _ _ _ _ _ _ _ r h => by simp [impl_apply.j2] at h⟩
 | k + 1 => by
  obtain ⟨ih0, ih1, ih2⟩ := impl_apply.mono_l k
  refine ⟨?_, ?_, ?_⟩
  ·intro y0 y1 y2 y3 y4 y5 y6
   unfold impl_apply.j0
   repeat' first
   | (with_reducible exact ih0 _ _ _ _ _ _ _)
   | (with_reducible exact ih1 _ _ _ _ _ _ _)
   | (with_reducible exact ih2 _ _ _ _ _ _ _)
   | (with_reducible exact LeO.refl _)
   | (with_reducible exact LeO.none _)
   | (with_reducible refine LeO.ite ?_ ?_)
   | (with_reducible refine LeO.bind ?_ (fun _ => ?_))
   | exact ih0 _ _ _ _ _ _ _
   | exact ih1 _ _ _ _ _ _ _
   | exact ih2 _ _ _ _ _ _ _
   | exact LeO.none _
   | refine LeO.ite ?_ ?_
   | refine LeO.bind ?_ (fun _ => ?_)
  ·intro y0 y1 y2 y3 y4 y5 y6
   unfold impl_apply.j1
   repeat' first
   | (with_reducible exact ih0 _ _ _ _ _ _ _)
   | (with_reducible exact ih1 _ _ _ _ _ _ _)
   | (with_reducible exact ih2 _ _ _ _ _ _ _)
   | (with_reducible exact LeO.refl _)
   | (with_reducible exact LeO.none _)
   | (with_reducible refine LeO.ite ?_ ?_)
   | (with_reducible refine LeO.bind ?_ (fun _ => ?_))
   | exact ih0 _ _ _ _ _ _ _
   | exact ih1 _ _ _ _ _ _ _
   | exact ih2 _ _ _ _ _ _ _
   | exact LeO.none _
   | refine LeO.ite ?_ ?_
   | refine LeO.bind ?_ (fun _ => ?_)
  ·intro y0 y1 y2 y3 y4 y5 y6
   unfold impl_apply.j2
   repeat' first
   | (with_reducible exact ih0 _ _ _ _ _ _ _)
   | (with_reducible exact ih1 _ _ _ _ _ _ _)
   | (with_reducible exact ih2 _ _ _ _ _ _ _)
   | (with_reducible exact LeO.refl _)
   | (with_reducible exact LeO.none _)
   | (with_reducible refine LeO.ite ?_ ?_)
   | (with_reducible refine LeO.bind ?_ (fun _ => ?_))
   | exact ih0 _ _ _ _ _ _ _
   | exact ih1 _ _ _ _ _ _ _
   | exact ih2 _ _ _ _ _ _ _
   | exact LeO.none _
   | refine LeO.ite ?_ ?_
   | refine LeO.bind ?_ (fun _ => ?_)
theorem impl_apply.mono : ∀ a0 a1 a2 a3 k, LeO (impl_apply.f k a0 a1 a2 a3) (impl_apply.f (k + 1) a0 a1 a2 a3) := by
 intro a0 a1 a2 a3 k
 obtain ⟨ih0, ih1, ih2⟩ := impl_apply.mono_l k
 unfold impl_apply.f
 repeat' first
   | (with_reducible exact ih0 _ _ _ _ _ _ _)
   | (with_reducible exact ih1 _ _ _ _ _ _ _)
   | (with_reducible exact ih2 _ _ _ _ _ _ _)
   | (with_reducible exact LeO.refl _)
   | (with_reducible exact LeO.none _)
   | (with_reducible refine LeO.ite ?_ ?_)
   | (with_reducible refine LeO.bind ?_ (fun _ => ?_))
   | exact ih0 _ _ _ _ _ _ _
   | exact ih1 _ _ _ _ _ _ _
   | exact ih2 _ _ _ _ _ _ _
   | exact LeO.none _
   | refine LeO.ite ?_ ?_
   | refine LeO.bind ?_ (fun _ => ?_)
set_option maxHeartbeats 8000000 in
set_option maxRecDepth 100000 in
theorem impl_apply.calls (k : Nat) (a0 : Int) (a1 : Int) (a2 : Int) (a3 : Int) (r : Int) (w : World) (h : impl_apply.f k a0 a1 a2 a3 = some r) :
  Calls Try.prog 91 #[.int .i64 a0, .int .i64 a1, .int .u64 a2, .int .u64 a3] w fun e w' => e = .returned (.int .u64 r) ∧ Drawn0 w w' := by
 have H : (if a1 = 3 then ((impl_mask.f a0).bind fun t369 => (some (Go.bits .and .u64 (IntKind.u64.wrap (a2 + a3)) t369))) else (if a1 = 4 then ((impl_mask.f a0).bind fun t370 => (some (Go.bits .and .u64 (IntKind.u64.wrap (a2 - a3)) t370))) else (if a1 = 5 then ((impl_mask.f a0).bind fun t371 => (some (Go.bits .and .u64 (IntKind.u64.wrap (a2 * a3)) t371))) else (if a1 = 6 then ((impl_DivWord.f a0 a2 a3).bind fun bt372 => ((impl_mask.f a0).bind fun t375 => (some (Go.bits .and .u64 bt372.1 t375)))) else (if a1 = 7 then ((impl_DivWord.f a0 a2 a3).bind fun bt376 => ((impl_mask.f a0).bind fun t379 => (some (Go.bits .and .u64 bt376.2.1 t379)))) else (if a1 = 8 then (impl_apply.j0 k a0 a1 a2 a3 0 a1 (a1 == 8)) else (impl_apply.j0 k a0 a1 a2 a3 0 a1 (a1 == 17)))))))) = some r := h
 clear h
 by_cases c5 : a1 = 3
 ·rw [if_pos c5] at H
  have c5b0 : (a1 == 3) = true := beq_iff_eq.mpr c5
  have c5b1 : (a1 != 3) = false := bne_eq_false_iff_eq.mpr c5
  clear c5
  replace H := Option.bind_eq_some_iff.mp H
  obtain ⟨t369, A60, H⟩ := H
  replace H : (some (Go.bits .and .u64 (IntKind.u64.wrap (a2 + a3)) t369)) = some r := H
  have A6 := am_ A60
  clear A60
  obtain rfl := Option.some.inj H
  go_enter Try.func91, Try.ntmps91
  go_wp2_with (first | ((with_reducible refine gate_callee (f := 75) rfl ?_); refine Sh.gL (some 96) Try.func75 #[.int .i64 a0] (h := ?_); (with_reducible refine (impl_mask.calls a0 t369 _ A6.out).mono ?_); rintro e w' ⟨rfl, ⟨nd, rfl⟩⟩; refine ⟨_, rfl, ?_⟩))
  go_ret
  exact ⟨by first | rfl | (simp; done) | (simp [*]; done), by repeat (first | exact Drawn0.refl _ | apply Drawn0.step)⟩
 ·rw [if_neg c5] at H
  have c5b0 : (a1 == 3) = false := beq_eq_false_iff_ne.mpr c5
  have c5b1 : (a1 != 3) = true := bne_iff_ne.mpr c5
  by_cases c7 : a1 = 4
  ·rw [if_pos c7] at H
   have c7b0 : (a1 == 4) = true := beq_iff_eq.mpr c7
   have c7b1 : (a1 != 4) = false := bne_eq_false_iff_eq.mpr c7
   clear c7
   replace H := Option.bind_eq_some_iff.mp H
   obtain ⟨t370, A80, H⟩ := H
   replace H : (some (Go.bits .and .u64 (IntKind.u64.wrap (a2 - a3)) t370)) = some r := H
   have A8 := am_ A80
   clear A80
   obtain rfl := Option.some.inj H
   go_enter Try.func91, Try.ntmps91
   go_wp2_with (first | ((with_reducible refine gate_callee (f := 75) rfl ?_); refine Sh.gL (some 96) Try.func75 #[.int .i64 a0] (h := ?_); (with_reducible refine (impl_mask.calls a0 t370 _ A8.out).mono ?_); rintro e w' ⟨rfl, ⟨nd, rfl⟩⟩; refine ⟨_, rfl, ?_⟩))
   go_ret
   exact ⟨by first | rfl | (simp; done) | (simp [*]; done), by repeat (first | exact Drawn0.refl _ | apply Drawn0.step)⟩
  ·rw [if_neg c7] at H
   have c7b0 : (a1 == 4) = false := beq_eq_false_iff_ne.mpr c7
   have c7b1 : (a1 != 4) = true := bne_iff_ne.mpr c7
   by_cases c9 : a1 = 5
   ·rw [if_pos c9] at H
    have c9b0 : (a1 == 5) = true := beq_iff_eq.mpr c9
    have c9b1 : (a1 != 5) = false := bne_eq_false_iff_eq.mpr c9
    clear c9
    replace H := Option.bind_eq_some_iff.mp H
    obtain ⟨t371, A100, H⟩ := H
    replace H : (some (Go.bits .and .u64 (IntKind.u64.wrap (a2 * a3)) t371)) = some r := H
    have A10 := am_ A100
    clear A100
    obtain rfl := Option.some.inj H
    go_enter Try.func91, Try.ntmps91
    go_wp2_with (first | ((with_reducible refine gate_callee (f := 75) rfl ?_); refine Sh.gL (some 96) Try.func75 #[.int .i64 a0] (h := ?_); (with_reducible refine (impl_mask.calls a0 t371 _ A10.out).mono ?_); rintro e w' ⟨rfl, ⟨nd, rfl⟩⟩; refine ⟨_, rfl, ?_⟩))
    go_ret
    exact ⟨by first | rfl | (simp; done) | (simp [*]; done), by repeat (first | exact Drawn0.refl _ | apply Drawn0.step)⟩
   ·rw [if_neg c9] at H
    have c9b0 : (a1 == 5) = false := beq_eq_false_iff_ne.mpr c9
    have c9b1 : (a1 != 5) = true := bne_iff_ne.mpr c9
    by_cases c11 : a1 = 6
    ·rw [if_pos c11] at H
     have c11b0 : (a1 == 6) = true := beq_iff_eq.mpr c11
     have c11b1 : (a1 != 6) = false := bne_eq_false_iff_eq.mpr c11
     clear c11
     replace H := Option.bind_eq_some_iff.mp H
     obtain ⟨⟨t372, t373, t374⟩, A120, H⟩ := H
     replace H : ((impl_mask.f a0).bind fun t375 => (some (Go.bits .and .u64 t372 t375))) = some r := H
     have A12 := am_ A120
     clear A120
     replace H := Option.bind_eq_some_iff.mp H
     obtain ⟨t375, A130, H⟩ := H
     replace H : (some (Go.bits .and .u64 t372 t375)) = some r := H
     have A13 := am_ A130
     clear A130
     obtain rfl := Option.some.inj H
     go_enter Try.func91, Try.ntmps91
     go_wp2_with (first | ((with_reducible refine gate_callee (f := 105) rfl ?_); refine Sh.gL (some 32) Try.func105 #[.int .i64 a0, .int .u64 a2, .int .u64 a3] (h := ?_); (with_reducible refine (impl_DivWord.calls a0 a2 a3 t372 t373 t374 _ A12.out).mono ?_); rintro e w' ⟨rfl, ⟨nd, rfl⟩⟩; refine ⟨_, rfl, ?_⟩) | ((with_reducible refine gate_callee (f := 75) rfl ?_); refine Sh.gL (some 96) Try.func75 #[.int .i64 a0] (h := ?_); (with_reducible refine (impl_mask.calls a0 t375 _ A13.out).mono ?_); rintro e w' ⟨rfl, ⟨nd, rfl⟩⟩; refine ⟨_, rfl, ?_⟩))
     go_ret
     exact ⟨by first | rfl | (simp; done) | (simp [*]; done), by repeat (first | exact Drawn0.refl _ | apply Drawn0.step)⟩
    ·rw [if_neg c11] at H
     have c11b0 : (a1 == 6) = false := beq_eq_false_iff_ne.mpr c11
     have c11b1 : (a1 != 6) = true := bne_iff_ne.mpr c11
     by_cases c14 : a1 = 7
     ·rw [if_pos c14] at H
      have c14b0 : (a1 == 7) = true := beq_iff_eq.mpr c14
      have c14b1 : (a1 != 7) = false := bne_eq_false_iff_eq.mpr c14
      clear c14
      replace H := Option.bind_eq_some_iff.mp H
      obtain ⟨⟨t376, t377, t378⟩, A150, H⟩ := H
      replace H : ((impl_mask.f a0).bind fun t379 => (some (Go.bits .and .u64 t377 t379))) = some r := H
      have A15 := am_ A150
      clear A150
      replace H := Option.bind_eq_some_iff.mp H
      obtain ⟨t379, A160, H⟩ := H
      replace H : (some (Go.bits .and .u64 t377 t379)) = some r := H
      have A16 := am_ A160
      clear A160
      obtain rfl := Option.some.inj H
      go_enter Try.func91, Try.ntmps91
      go_wp2_with (first | ((with_reducible refine gate_callee (f := 105) rfl ?_); refine Sh.gL (some 42) Try.func105 #[.int .i64 a0, .int .u64 a2, .int .u64 a3] (h := ?_); (with_reducible refine (impl_DivWord.calls a0 a2 a3 t376 t377 t378 _ A15.out).mono ?_); rintro e w' ⟨rfl, ⟨nd, rfl⟩⟩; refine ⟨_, rfl, ?_⟩) | ((with_reducible refine gate_callee (f := 75) rfl ?_); refine Sh.gL (some 96) Try.func75 #[.int .i64 a0] (h := ?_); (with_reducible refine (impl_mask.calls a0 t379 _ A16.out).mono ?_); rintro e w' ⟨rfl, ⟨nd, rfl⟩⟩; refine ⟨_, rfl, ?_⟩))
      go_ret
      exact ⟨by first | rfl | (simp; done) | (simp [*]; done), by repeat (first | exact Drawn0.refl _ | apply Drawn0.step)⟩
     ·rw [if_neg c14] at H
      have c14b0 : (a1 == 7) = false := beq_eq_false_iff_ne.mpr c14
      have c14b1 : (a1 != 7) = true := bne_iff_ne.mpr c14
      have HC17 := am_ H
      clear H
      go_enter Try.func91, Try.ntmps91
      go_upto_if 46 with (fail)
      go_cut [46] (fun v46 wc => ∃ (kq : Nat) (x46_16 : Bool), v46 = .bool x46_16 ∧ Aside0 (impl_apply.j0 kq a0 a1 a2 a3 0 a1 x46_16 = some r) ∧ Aside0 (kq ≤ k) ∧ Drawn0 w wc)
      case first =>
       have H := HC17.out
       clear HC17
       by_cases c18 : a1 = 8
       ·rw [if_pos c18] at H
        have c18b0 : (a1 == 8) = true := beq_iff_eq.mpr c18
        have c18b1 : (a1 != 8) = false := bne_eq_false_iff_eq.mpr c18
        clear c18
        (first | rw [c18b0] | (simp only [i64_w, i32_w]; rw [c18b0]) | skip)
        have H' := am_ H
        clear H
        go_wp2
        go_meet
        case rel => exact ⟨_, ((a1 == 8)), (by first | rfl | (simp; done) | (simp [*]; done)), H', ⟨by first | omega | exact Nat.le_refl _⟩, by repeat (first | exact Drawn0.refl _ | apply Drawn0.step)⟩
       ·rw [if_neg c18] at H
        have c18b0 : (a1 == 8) = false := beq_eq_false_iff_ne.mpr c18
        have c18b1 : (a1 != 8) = true := bne_iff_ne.mpr c18
        (first | rw [c18b0] | (simp only [i64_w, i32_w]; rw [c18b0]) | skip)
        have H' := am_ H
        clear H
        go_wp2
        go_meet
        case rel => exact ⟨_, ((a1 == 17)), (by first | rfl | (simp; done) | (simp [*]; done)), H', ⟨by first | omega | exact Nat.le_refl _⟩, by repeat (first | exact Drawn0.refl _ | apply Drawn0.step)⟩
      case rest =>
       clear HC17
       try clear c1
       try clear p2
       try clear c5
       try clear c5b0
       try clear c5b1
       try clear c7
       try clear c7b0
       try clear c7b1
       try clear c9
       try clear c9b0
       try clear c9b1
       try clear c10
       try clear c11
       try clear c11b0
       try clear c11b1
       try clear c14
       try clear c14b0
       try clear c14b1
       try clear c18
       try clear c18b0
       try clear c18b1
       obtain ⟨kq, x46_16, rfl, HA, HJ16, ⟨mc16, rfl⟩⟩ := hcut
       cases kq with
       | zero => exact absurd HA.out (by simp [impl_apply.j0])
       | succ kj16 =>
        have H := HA.out
        clear HA
        simp only [impl_apply.j0] at H
        by_cases c19 : x46_16 = true
        ·subst c19
         have H1 : ((impl_mask.f a0).bind fun t380 => (some (Go.bits .and .u64 (Go.bits .and .u64 a2 a3) t380))) = some r := by rw [if_pos rfl] at H; exact H
         clear H
         have H := H1
         clear H1
         replace H := Option.bind_eq_some_iff.mp H
         obtain ⟨t380, A200, H⟩ := H
         replace H : (some (Go.bits .and .u64 (Go.bits .and .u64 a2 a3) t380)) = some r := H
         have A20 := am_ A200
         clear A200
         obtain rfl := Option.some.inj H
         go_wp2_with (first | ((with_reducible refine gate_callee (f := 75) rfl ?_); refine Sh.gL (some 96) Try.func75 #[.int .i64 a0] (h := ?_); (with_reducible refine (impl_mask.calls a0 t380 _ A20.out).mono ?_); rintro e w' ⟨rfl, ⟨nd, rfl⟩⟩; refine ⟨_, rfl, ?_⟩))
         go_ret
         exact ⟨by first | rfl | (simp; done) | (simp [*]; done), by repeat (first | exact Drawn0.refl _ | apply Drawn0.step)⟩
        ·replace c19 := Bool.eq_false_iff.mpr c19
         subst c19
         have H1 : (if a1 = 9 then (impl_apply.j1 kj16 a0 a1 a2 a3 0 a1 (a1 == 9)) else (impl_apply.j1 kj16 a0 a1 a2 a3 0 a1 (a1 == 18))) = some r := by rw [if_neg (show ¬ (false = true) by decide)] at H; exact H
         clear H
         have H := H1
         clear H1
         have HC21 := am_ H
         clear H
         go_upto_if 52 with (fail)
         go_cut [52] (fun v52 wc => ∃ (kq : Nat) (x52_20 : Bool), v52 = .bool x52_20 ∧ Aside0 (impl_apply.j1 kq a0 a1 a2 a3 0 a1 x52_20 = some r) ∧ Aside0 (kq ≤ kj16) ∧ Drawn0 w wc)
         case first =>
          have H := HC21.out
          clear HC21
          by_cases c22 : a1 = 9
          ·rw [if_pos c22] at H
           have c22b0 : (a1 == 9) = true := beq_iff_eq.mpr c22
           have c22b1 : (a1 != 9) = false := bne_eq_false_iff_eq.mpr c22
           clear c22
           (first | rw [c22b0] | (simp only [i64_w, i32_w]; rw [c22b0]) | skip)
           have H' := am_ H
           clear H
           go_wp2
           go_meet
           case rel => exact ⟨_, ((a1 == 9)), (by first | rfl | (simp; done) | (simp [*]; done)), H', ⟨by have := HJ16.out; first | omega | exact Nat.le_refl _⟩, by repeat (first | exact Drawn0.refl _ | apply Drawn0.step)⟩
          ·rw [if_neg c22] at H
           have c22b0 : (a1 == 9) = false := beq_eq_false_iff_ne.mpr c22
           have c22b1 : (a1 != 9) = true := bne_iff_ne.mpr c22
           (first | rw [c22b0] | (simp only [i64_w, i32_w]; rw [c22b0]) | skip)
           have H' := am_ H
           clear H
           go_wp2
           go_meet
           case rel => exact ⟨_, ((a1 == 18)), (by first | rfl | (simp; done) | (simp [*]; done)), H', ⟨by have := HJ16.out; first | omega | exact Nat.le_refl _⟩, by repeat (first | exact Drawn0.refl _ | apply Drawn0.step)⟩
         case rest =>
          clear HC21
          try clear c1
          try clear c2
          try clear p2
          try clear c5
          try clear c5b0
          try clear c5b1
          try clear c7
          try clear c7b0
          try clear c7b1
          try clear c9
          try clear c9b0
          try clear c9b1
          try clear c10
          try clear c11
          try clear c11b0
          try clear c11b1
          try clear c14
          try clear c14b0
          try clear c14b1
          try clear c16
          try clear c18
          try clear c18b0
          try clear c18b1
          try clear c19
          try clear c22
          try clear c22b0
          try clear c22b1
          try clear p2
          obtain ⟨kq, x52_20, rfl, HA, HJ20, ⟨mc20, rfl⟩⟩ := hcut
          cases kq with
          | zero => exact absurd HA.out (by simp [impl_apply.j1])
          | succ kj20 =>
           have H := HA.out
           clear HA
           simp only [impl_apply.j1] at H
           by_cases c23 : x52_20 = true
           ·subst c23
            have H1 : ((impl_mask.f a0).bind fun t381 => (some (Go.bits .and .u64 (Go.bits .or .u64 a2 a3) t381))) = some r := by rw [if_pos rfl] at H; exact H
            clear H
            have H := H1
            clear H1
            replace H := Option.bind_eq_some_iff.mp H
            obtain ⟨t381, A240, H⟩ := H
            replace H : (some (Go.bits .and .u64 (Go.bits .or .u64 a2 a3) t381)) = some r := H
            have A24 := am_ A240
            clear A240
            obtain rfl := Option.some.inj H
            go_wp2_with (first | ((with_reducible refine gate_callee (f := 75) rfl ?_); refine Sh.gL (some 96) Try.func75 #[.int .i64 a0] (h := ?_); (with_reducible refine (impl_mask.calls a0 t381 _ A24.out).mono ?_); rintro e w' ⟨rfl, ⟨nd, rfl⟩⟩; refine ⟨_, rfl, ?_⟩))
            go_ret
            exact ⟨by first | rfl | (simp; done) | (simp [*]; done), by repeat (first | exact Drawn0.refl _ | apply Drawn0.step)⟩
           ·replace c23 := Bool.eq_false_iff.mpr c23
            subst c23
            have H1 : (if a1 = 10 then ((impl_mask.f a0).bind fun t382 => (some (Go.bits .and .u64 (Go.bits .xor .u64 a2 a3) t382))) else (if a1 = 11 then (impl_apply.j2 kj20 a0 a1 a2 a3 0 a1 (a1 == 11)) else (impl_apply.j2 kj20 a0 a1 a2 a3 0 a1 (a1 == 12)))) = some r := by rw [if_neg (show ¬ (false = true) by decide)] at H; exact H
            clear H
            have H := H1
            clear H1
            by_cases c25 : a1 = 10
            ·rw [if_pos c25] at H
             have c25b0 : (a1 == 10) = true := beq_iff_eq.mpr c25
             have c25b1 : (a1 != 10) = false := bne_eq_false_iff_eq.mpr c25
             clear c25
             replace H := Option.bind_eq_some_iff.mp H
             obtain ⟨t382, A260, H⟩ := H
             replace H : (some (Go.bits .and .u64 (Go.bits .xor .u64 a2 a3) t382)) = some r := H
             have A26 := am_ A260
             clear A260
             obtain rfl := Option.some.inj H
             go_wp2_with (first | ((with_reducible refine gate_callee (f := 75) rfl ?_); refine Sh.gL (some 96) Try.func75 #[.int .i64 a0] (h := ?_); (with_reducible refine (impl_mask.calls a0 t382 _ A26.out).mono ?_); rintro e w' ⟨rfl, ⟨nd, rfl⟩⟩; refine ⟨_, rfl, ?_⟩))
             go_ret
             exact ⟨by first | rfl | (simp; done) | (simp [*]; done), by repeat (first | exact Drawn0.refl _ | apply Drawn0.step)⟩
            ·rw [if_neg c25] at H
             have c25b0 : (a1 == 10) = false := beq_eq_false_iff_ne.mpr c25
             have c25b1 : (a1 != 10) = true := bne_iff_ne.mpr c25
             have HC27 := am_ H
             clear H
             go_upto_if 63 with (fail)
             go_cut [63] (fun v63 wc => ∃ (kq : Nat) (x63_26 : Bool), v63 = .bool x63_26 ∧ Aside0 (impl_apply.j2 kq a0 a1 a2 a3 0 a1 x63_26 = some r) ∧ Aside0 (kq ≤ kj20) ∧ Drawn0 w wc)
             case first =>
              have H := HC27.out
              clear HC27
              by_cases c28 : a1 = 11
              ·rw [if_pos c28] at H
               have c28b0 : (a1 == 11) = true := beq_iff_eq.mpr c28
               have c28b1 : (a1 != 11) = false := bne_eq_false_iff_eq.mpr c28
               clear c28
               (first | rw [c28b0] | (simp only [i64_w, i32_w]; rw [c28b0]) | skip)
               have H' := am_ H
               clear H
               go_wp2
               go_meet
               case rel => exact ⟨_, ((a1 == 11)), (by first | rfl | (simp; done) | (simp [*]; done)), H', ⟨by have := HJ16.out; have := HJ20.out; first | omega | exact Nat.le_refl _⟩, by repeat (first | exact Drawn0.refl _ | apply Drawn0.step)⟩
              ·rw [if_neg c28] at H
               have c28b0 : (a1 == 11) = false := beq_eq_false_iff_ne.mpr c28
               have c28b1 : (a1 != 11) = true := bne_iff_ne.mpr c28
               (first | rw [c28b0] | (simp only [i64_w, i32_w]; rw [c28b0]) | skip)
               have H' := am_ H
               clear H
               go_wp2
               go_meet
               case rel => exact ⟨_, ((a1 == 12)), (by first | rfl | (simp; done) | (simp [*]; done)), H', ⟨by have := HJ16.out; have := HJ20.out; first | omega | exact Nat.le_refl _⟩, by repeat (first | exact Drawn0.refl _ | apply Drawn0.step)⟩
             case rest =>
              clear HC27
              try clear c1
              try clear c2
              try clear p2
              try clear c5
              try clear c5b0
              try clear c5b1
              try clear c7
              try clear c7b0
              try clear c7b1
              try clear c9
              try clear c9b0
              try clear c9b1
              try clear c10
              try clear c11
              try clear c11b0
              try clear c11b1
              try clear c14
              try clear c14b0
              try clear c14b1
              try clear c16
              try clear c18
              try clear c18b0
              try clear c18b1
              try clear c19
              try clear c20
              try clear c22
              try clear c22b0
              try clear c22b1
              try clear c23
              try clear c25
              try clear c25b0
              try clear c25b1
              try clear c28
              try clear c28b0
              try clear c28b1
              try clear p2
              obtain ⟨kq, x63_26, rfl, HA, HJ26, ⟨mc26, rfl⟩⟩ := hcut
              cases kq with
              | zero => exact absurd HA.out (by simp [impl_apply.j2])
              | succ kj26 =>
               have H := HA.out
               clear HA
               simp only [impl_apply.j2] at H
               by_cases c29 : x63_26 = true
               ·subst c29
                have H1 : ((impl_shift.f a0 a2 a3 (a1 == 11)).bind fun t383 => ((impl_mask.f a0).bind fun t384 => (some (Go.bits .and .u64 t383 t384)))) = some r := by rw [if_pos rfl] at H; exact H
                clear H
                have H := H1
                clear H1
                replace H := Option.bind_eq_some_iff.mp H
                obtain ⟨t383, A300, H⟩ := H
                replace H : ((impl_mask.f a0).bind fun t384 => (some (Go.bits .and .u64 t383 t384))) = some r := H
                have A30 := am_ A300
                clear A300
                replace H := Option.bind_eq_some_iff.mp H
                obtain ⟨t384, A310, H⟩ := H
                replace H : (some (Go.bits .and .u64 t383 t384)) = some r := H
                have A31 := am_ A310
                clear A310
                obtain rfl := Option.some.inj H
                go_wp2_with (first | ((with_reducible refine gate_callee (f := 106) rfl ?_); refine Sh.gL (some 71) Try.func106 #[.int .i64 a0, .int .u64 a2, .int .u64 a3, .bool (a1 == 11)] (h := ?_); (with_reducible refine (impl_shift.calls a0 a2 a3 (a1 == 11) t383 _ A30.out).mono ?_); rintro e w' ⟨rfl, ⟨nd, rfl⟩⟩; refine ⟨_, rfl, ?_⟩) | ((with_reducible refine gate_callee (f := 75) rfl ?_); refine Sh.gL (some 96) Try.func75 #[.int .i64 a0] (h := ?_); (with_reducible refine (impl_mask.calls a0 t384 _ A31.out).mono ?_); rintro e w' ⟨rfl, ⟨nd, rfl⟩⟩; refine ⟨_, rfl, ?_⟩))
                go_ret
                exact ⟨by first | rfl | (simp; done) | (simp [*]; done), by repeat (first | exact Drawn0.refl _ | apply Drawn0.step)⟩
               ·replace c29 := Bool.eq_false_iff.mpr c29
                subst c29
                have H1 : (if a1 = 14 then ((impl_truth.f (a2 == a3)).bind fun t385 => ((impl_mask.f a0).bind fun t386 => (some (Go.bits .and .u64 t385 t386)))) else (if a1 = 15 then ((impl_truth.f (decide (a2 < a3))).bind fun t387 => ((impl_mask.f a0).bind fun t388 => (some (Go.bits .and .u64 t387 t388)))) else (if a1 = 16 then ((impl_signed.f a0 a2).bind fun t389 => ((impl_signed.f a0 a3).bind fun t390 => ((impl_truth.f (decide (t389 < t390))).bind fun t391 => ((impl_mask.f a0).bind fun t392 => (some (Go.bits .and .u64 t391 t392)))))) else ((impl_mask.f a0).bind fun t393 => (some (Go.bits .and .u64 0 t393)))))) = some r := by rw [if_neg (show ¬ (false = true) by decide)] at H; exact H
                clear H
                have H := H1
                clear H1
                by_cases c32 : a1 = 14
                ·rw [if_pos c32] at H
                 have c32b0 : (a1 == 14) = true := beq_iff_eq.mpr c32
                 have c32b1 : (a1 != 14) = false := bne_eq_false_iff_eq.mpr c32
                 clear c32
                 replace H := Option.bind_eq_some_iff.mp H
                 obtain ⟨t385, A330, H⟩ := H
                 replace H : ((impl_mask.f a0).bind fun t386 => (some (Go.bits .and .u64 t385 t386))) = some r := H
                 have A33 := am_ A330
                 clear A330
                 replace H := Option.bind_eq_some_iff.mp H
                 obtain ⟨t386, A340, H⟩ := H
                 replace H : (some (Go.bits .and .u64 t385 t386)) = some r := H
                 have A34 := am_ A340
                 clear A340
                 obtain rfl := Option.some.inj H
                 go_wp2_with (first | ((with_reducible refine gate_callee (f := 107) rfl ?_); refine Sh.gL (some 77) Try.func107 #[.bool (a2 == a3)] (h := ?_); (with_reducible refine (impl_truth.calls (a2 == a3) t385 _ A33.out).mono ?_); rintro e w' ⟨rfl, ⟨nd, rfl⟩⟩; refine ⟨_, rfl, ?_⟩) | ((with_reducible refine gate_callee (f := 75) rfl ?_); refine Sh.gL (some 96) Try.func75 #[.int .i64 a0] (h := ?_); (with_reducible refine (impl_mask.calls a0 t386 _ A34.out).mono ?_); rintro e w' ⟨rfl, ⟨nd, rfl⟩⟩; refine ⟨_, rfl, ?_⟩))
                 go_ret
                 exact ⟨by first | rfl | (simp; done) | (simp [*]; done), by repeat (first | exact Drawn0.refl _ | apply Drawn0.step)⟩
                ·rw [if_neg c32] at H
                 have c32b0 : (a1 == 14) = false := beq_eq_false_iff_ne.mpr c32
                 have c32b1 : (a1 != 14) = true := bne_iff_ne.mpr c32
                 by_cases c35 : a1 = 15
                 ·rw [if_pos c35] at H
                  have c35b0 : (a1 == 15) = true := beq_iff_eq.mpr c35
                  have c35b1 : (a1 != 15) = false := bne_eq_false_iff_eq.mpr c35
                  clear c35
                  replace H := Option.bind_eq_some_iff.mp H
                  obtain ⟨t387, A360, H⟩ := H
                  replace H : ((impl_mask.f a0).bind fun t388 => (some (Go.bits .and .u64 t387 t388))) = some r := H
                  have A36 := am_ A360
                  clear A360
                  replace H := Option.bind_eq_some_iff.mp H
                  obtain ⟨t388, A370, H⟩ := H
                  replace H : (some (Go.bits .and .u64 t387 t388)) = some r := H
                  have A37 := am_ A370
                  clear A370
                  obtain rfl := Option.some.inj H
                  go_wp2_with (first | ((with_reducible refine gate_callee (f := 107) rfl ?_); refine Sh.gL (some 83) Try.func107 #[.bool (decide (a2 < a3))] (h := ?_); (with_reducible refine (impl_truth.calls (decide (a2 < a3)) t387 _ A36.out).mono ?_); rintro e w' ⟨rfl, ⟨nd, rfl⟩⟩; refine ⟨_, rfl, ?_⟩) | ((with_reducible refine gate_callee (f := 75) rfl ?_); refine Sh.gL (some 96) Try.func75 #[.int .i64 a0] (h := ?_); (with_reducible refine (impl_mask.calls a0 t388 _ A37.out).mono ?_); rintro e w' ⟨rfl, ⟨nd, rfl⟩⟩; refine ⟨_, rfl, ?_⟩))
                  go_ret
                  exact ⟨by first | rfl | (simp; done) | (simp [*]; done), by repeat (first | exact Drawn0.refl _ | apply Drawn0.step)⟩
                 ·rw [if_neg c35] at H
                  have c35b0 : (a1 == 15) = false := beq_eq_false_iff_ne.mpr c35
                  have c35b1 : (a1 != 15) = true := bne_iff_ne.mpr c35
                  by_cases c38 : a1 = 16
                  ·rw [if_pos c38] at H
                   have c38b0 : (a1 == 16) = true := beq_iff_eq.mpr c38
                   have c38b1 : (a1 != 16) = false := bne_eq_false_iff_eq.mpr c38
                   clear c38
                   replace H := Option.bind_eq_some_iff.mp H
                   obtain ⟨t389, A390, H⟩ := H
                   replace H : ((impl_signed.f a0 a3).bind fun t390 => ((impl_truth.f (decide (t389 < t390))).bind fun t391 => ((impl_mask.f a0).bind fun t392 => (some (Go.bits .and .u64 t391 t392))))) = some r := H
                   have A39 := am_ A390
                   clear A390
                   replace H := Option.bind_eq_some_iff.mp H
                   obtain ⟨t390, A400, H⟩ := H
                   replace H : ((impl_truth.f (decide (t389 < t390))).bind fun t391 => ((impl_mask.f a0).bind fun t392 => (some (Go.bits .and .u64 t391 t392)))) = some r := H
                   have A40 := am_ A400
                   clear A400
                   replace H := Option.bind_eq_some_iff.mp H
                   obtain ⟨t391, A410, H⟩ := H
                   replace H : ((impl_mask.f a0).bind fun t392 => (some (Go.bits .and .u64 t391 t392))) = some r := H
                   have A41 := am_ A410
                   clear A410
                   replace H := Option.bind_eq_some_iff.mp H
                   obtain ⟨t392, A420, H⟩ := H
                   replace H : (some (Go.bits .and .u64 t391 t392)) = some r := H
                   have A42 := am_ A420
                   clear A420
                   obtain rfl := Option.some.inj H
                   go_wp2_with (first | ((with_reducible refine gate_callee (f := 108) rfl ?_); refine Sh.gL (some 88) Try.func108 #[.int .i64 a0, .int .u64 a2] (h := ?_); (with_reducible refine (impl_signed.calls a0 a2 t389 _ A39.out).mono ?_); rintro e w' ⟨rfl, ⟨nd, rfl⟩⟩; refine ⟨_, rfl, ?_⟩) | ((with_reducible refine gate_callee (f := 108) rfl ?_); refine Sh.gL (some 91) Try.func108 #[.int .i64 a0, .int .u64 a3] (h := ?_); (with_reducible refine (impl_signed.calls a0 a3 t390 _ A40.out).mono ?_); rintro e w' ⟨rfl, ⟨nd, rfl⟩⟩; refine ⟨_, rfl, ?_⟩) | ((with_reducible refine gate_callee (f := 107) rfl ?_); refine Sh.gL (some 93) Try.func107 #[.bool (decide (t389 < t390))] (h := ?_); (with_reducible refine (impl_truth.calls (decide (t389 < t390)) t391 _ A41.out).mono ?_); rintro e w' ⟨rfl, ⟨nd, rfl⟩⟩; refine ⟨_, rfl, ?_⟩) | ((with_reducible refine gate_callee (f := 75) rfl ?_); refine Sh.gL (some 96) Try.func75 #[.int .i64 a0] (h := ?_); (with_reducible refine (impl_mask.calls a0 t392 _ A42.out).mono ?_); rintro e w' ⟨rfl, ⟨nd, rfl⟩⟩; refine ⟨_, rfl, ?_⟩))
                   go_ret
                   exact ⟨by first | rfl | (simp; done) | (simp [*]; done), by repeat (first | exact Drawn0.refl _ | apply Drawn0.step)⟩
                  ·rw [if_neg c38] at H
                   have c38b0 : (a1 == 16) = false := beq_eq_false_iff_ne.mpr c38
                   have c38b1 : (a1 != 16) = true := bne_iff_ne.mpr c38
                   replace H := Option.bind_eq_some_iff.mp H
                   obtain ⟨t393, A430, H⟩ := H
                   replace H : (some (Go.bits .and .u64 0 t393)) = some r := H
                   have A43 := am_ A430
                   clear A430
                   obtain rfl := Option.some.inj H
                   go_wp2_with (first | ((with_reducible refine gate_callee (f := 75) rfl ?_); refine Sh.gL (some 96) Try.func75 #[.int .i64 a0] (h := ?_); (with_reducible refine (impl_mask.calls a0 t393 _ A43.out).mono ?_); rintro e w' ⟨rfl, ⟨nd, rfl⟩⟩; refine ⟨_, rfl, ?_⟩))
                   go_ret
                   exact ⟨by first | rfl | (simp; done) | (simp [*]; done), by repeat (first | exact Drawn0.refl _ | apply Drawn0.step)⟩

end Go.Proofs.Ytjnolbjaagmooaa.P
