/- Go functions of this seat as Lean functions, and the proofs that the calls come to what these say; printed by a program of this session. No condition. -/
import Derived.Test.YtbgbidgnlioomaaP0
import Derived.Test.YtbgbidgnlioomaaMFnExactShortPath2
import Derived.Test.YtbgbidgnlioomaaMFnExactShortPath1
namespace Go.Proofs.Ytbgbidgnlioomaa.P
open Go.RowKit Go.Proofs.YtbgbidgnlioomaaW.PrintWords Go.Proofs.YtbgbidgnlioomaaW.PrintLast Go.Proofs.YtbgbidgnlioomaaW.PrintMore Go.Proofs.Ytbgbidgnlioomaa.Hof
attribute [local go_sem] max2_int min2_int max_two min_two max_three min_three max_four min_four   -- for this text's walks alone
set_option linter.unusedVariables false
set_option linter.unusedSimpArgs false

/-! ### impl_leastWay: function 117 -/
mutual
def impl_leastWay.l0 : Nat → List (List Int) → Int → List Int → Int → Int → List Int → Option (List Int)
 | 0, _, _, _, _, _, _ => none
 | k + 1, x0, x8, x18, x19, x20, x896000 => if x20 < x19 then (if 0 ≤ x20 then (if x20 < (x18.length : Int) then (if 0 ≤ (rd x18 x20) then (if (rd x18 x20) < (x896000.length : Int) then (if (rd x896000 (rd x18 x20)) ≥ 0 then (if x8 < 0 then (impl_leastWay.l0 k x0 (rd x18 x20) x18 x19 (wrap64 (x20 + 1)) x896000) else (if 0 ≤ x8 then (if x8 < (x896000.length : Int) then (if (rd x896000 (rd x18 x20)) < (rd x896000 x8) then (impl_leastWay.l0 k x0 (rd x18 x20) x18 x19 (wrap64 (x20 + 1)) x896000) else (impl_leastWay.l0 k x0 x8 x18 x19 (wrap64 (x20 + 1)) x896000)) else (none)) else (none))) else (impl_leastWay.l0 k x0 x8 x18 x19 (wrap64 (x20 + 1)) x896000)) else (none)) else (none)) else (none)) else (none)) else (if x8 < 0 then (some ([] : List Int)) else (impl_leastWay.l1 k x0 (([x8] : List Int)) x896000 x8))
def impl_leastWay.l1 : Nat → List (List Int) → List Int → List Int → Int → Option (List Int)
 | 0, _, _, _, _ => none
 | k + 1, x0, x11, x896000, x904000 => if 0 ≤ x904000 then (if x904000 < (x896000.length : Int) then (if (rd x896000 x904000) > 0 then (if x904000 < (x0.length : Int) then ((slices_IndexFunc_int_int_146_by_impl_leastWay_1.f (rd_L1 x0 x904000) x896000 x904000).bind fun t906 => (if 0 ≤ t906 then (if t906 < ((rd_L1 x0 x904000).length : Int) then (if x11.length < 17592186044416 then (impl_leastWay.l1 k x0 (x11 ++ [rd (rd_L1 x0 x904000) t906]) x896000 (rd (rd_L1 x0 x904000) t906)) else (none)) else (none)) else (none))) else (none)) else (some x11)) else (none)) else (none)
end
def impl_leastWay.f (k : Nat) (l0 : List (List Int)) (l1 : List Int) (l2 : List Int) : Option (List Int) := (impl_turned.f k l0).bind fun t889 => ((impl_stepsFrom.f k t889 l2).bind fun t892 => (impl_leastWay.l0 k l0 (-1) l1 (l1.length : Int) 0 t892))
theorem impl_leastWay.mono_l : ∀ k, (∀ y0 y1 y2 y3 y4 y5, LeO (impl_leastWay.l0 k y0 y1 y2 y3 y4 y5) (impl_leastWay.l0 (k + 1) y0 y1 y2 y3 y4 y5)) ∧ (∀ y0 y1 y2 y3, LeO (impl_leastWay.l1 k y0 y1 y2 y3) (impl_leastWay.l1 (k + 1) y0 y1 y2 y3))
 | 0 => ⟨fun _ _ _ _ _ _ r h => by simp [impl_leastWay.l0] at h, fun _ _ _ _ r h => by simp [impl_leastWay.l1] at h⟩
 | k + 1 => by
  obtain ⟨ih0, ih1⟩ := impl_leastWay.mono_l k
  refine ⟨?_, ?_⟩
  ·intro y0 y1 y2 y3 y4 y5
   unfold impl_leastWay.l0
   repeat' first
   | (with_reducible exact ih0 _ _ _ _ _ _)
   | (with_reducible exact ih1 _ _ _ _)
   | (with_reducible exact impl_stepsFrom.mono _ _ _)
   | (with_reducible exact impl_turned.mono _ _)
   | (with_reducible exact LeO.refl _)
   | (with_reducible exact LeO.none _)
   | (with_reducible refine LeO.ite ?_ ?_)
   | (with_reducible refine LeO.bind ?_ (fun _ => ?_))
   | exact ih0 _ _ _ _ _ _
   | exact ih1 _ _ _ _
   | exact impl_stepsFrom.mono _ _ _
   | exact impl_turned.mono _ _
   | exact LeO.none _
   | refine LeO.ite ?_ ?_
   | refine LeO.bind ?_ (fun _ => ?_)
  ·intro y0 y1 y2 y3
   unfold impl_leastWay.l1
   repeat' first
   | (with_reducible exact ih0 _ _ _ _ _ _)
   | (with_reducible exact ih1 _ _ _ _)
   | (with_reducible exact impl_stepsFrom.mono _ _ _)
   | (with_reducible exact impl_turned.mono _ _)
   | (with_reducible exact LeO.refl _)
   | (with_reducible exact LeO.none _)
   | (with_reducible refine LeO.ite ?_ ?_)
   | (with_reducible refine LeO.bind ?_ (fun _ => ?_))
   | exact ih0 _ _ _ _ _ _
   | exact ih1 _ _ _ _
   | exact impl_stepsFrom.mono _ _ _
   | exact impl_turned.mono _ _
   | exact LeO.none _
   | refine LeO.ite ?_ ?_
   | refine LeO.bind ?_ (fun _ => ?_)
theorem impl_leastWay.mono : ∀ a0 a1 a2 k, LeO (impl_leastWay.f k a0 a1 a2) (impl_leastWay.f (k + 1) a0 a1 a2) := by
 intro a0 a1 a2 k
 obtain ⟨ih0, ih1⟩ := impl_leastWay.mono_l k
 unfold impl_leastWay.f
 repeat' first
   | (with_reducible exact ih0 _ _ _ _ _ _)
   | (with_reducible exact ih1 _ _ _ _)
   | (with_reducible exact impl_stepsFrom.mono _ _ _)
   | (with_reducible exact impl_turned.mono _ _)
   | (with_reducible exact LeO.refl _)
   | (with_reducible exact LeO.none _)
   | (with_reducible refine LeO.ite ?_ ?_)
   | (with_reducible refine LeO.bind ?_ (fun _ => ?_))
   | exact ih0 _ _ _ _ _ _
   | exact ih1 _ _ _ _
   | exact impl_stepsFrom.mono _ _ _
   | exact impl_turned.mono _ _
   | exact LeO.none _
   | refine LeO.ite ?_ ?_
   | refine LeO.bind ?_ (fun _ => ?_)
set_option maxHeartbeats 8000000 in
set_option maxRecDepth 100000 in
theorem impl_leastWay.calls2 (k : Nat) (A0 : Option Addr) (c0 : Nat) (l0 : List (List Int)) (A1 : Option Addr) (c1 : Nat) (l1 : List Int) (A2 : Option Addr) (c2 : Nat) (l2 : List Int) (r : List Int) (w : World) (hr0 : Kd.C (Kd.slice 3 (Kd.int .i64)) w A0 l0.length l0) (hc0 : l0.length ≤ c0) (hr1 : Kd.C (Kd.int .i64) w A1 l1.length l1) (hc1 : l1.length ≤ c1) (hr2 : Kd.C (Kd.int .i64) w A2 l2.length l2) (hc2 : l2.length ≤ c2) (h : impl_leastWay.f k l0 l1 l2 = some r) :
  Calls Try.prog 117 #[.slice A0 l0.length c0, .slice A1 l1.length c1, .slice A2 l2.length c2] w fun e w' => ∃ v0_ : Value, e = .returned (v0_) ∧ (r = [] → v0_ = .slice none 0 0) ∧ Kd.R (Kd.int .i64) 3 w' w.heap.size (fun _ => True) v0_ r ∧ Below w.heap.size w w' := by
 have HR0 := am_ hr0
 have HC0 := am_ hc0
 clear hr0 hc0
 have HR1 := am_ hr1
 have HC1 := am_ hc1
 clear hr1 hc1
 have HR2 := am_ hr2
 have HC2 := am_ hc2
 clear hr2 hc2
 have HB := am_ (Below.refl w.heap.size w)
 have H : ((impl_turned.f k l0).bind fun t889 => ((impl_stepsFrom.f k t889 l2).bind fun t892 => (impl_leastWay.l0 k l0 (-1) l1 (l1.length : Int) 0 t892))) = some r := h
 clear h
 replace H := Option.bind_eq_some_iff.mp H
 obtain ⟨t889, A40, H⟩ := H
 replace H : ((impl_stepsFrom.f k t889 l2).bind fun t892 => (impl_leastWay.l0 k l0 (-1) l1 (l1.length : Int) 0 t892)) = some r := H
 have A4 := am_ A40
 clear A40
 replace H := Option.bind_eq_some_iff.mp H
 obtain ⟨t892, A50, H⟩ := H
 replace H : (impl_leastWay.l0 k l0 (-1) l1 (l1.length : Int) 0 t892) = some r := H
 have A5 := am_ A50
 clear A50
 have H' := am_ H
 clear H
 go_enter Try.func117, Try.ntmps117
 go_wp2_with (first | (go_at_call 83; (with_reducible refine (impl_turned.calls k _ _ l0 t889 _ ?side1 ?side2 A4.out).mono ?_); (case side1 => repeat (first | exact HR0.out | (with_reducible first | refine Kd.C_alloc ?_ _ | refine Kd.C_drewN ?_ _ | refine Kd.C_drew ?_))); (case side2 => exact HC0.out); rintro e w6 ⟨v890, rfl, ho0, hb⟩; have n0_ := am_ (Kd.S_lower ho0 (below_size Sh.bw)); have n1_ := am_ (below_step Sh.bw hb); clear HB; have HO891 := n0_; have HB := n1_; clear n0_ n1_; (try clear hb); (try clear hb2); (try clear hk); (try clear hi); (try clear ho0); obtain ⟨Ao7, co7, eo7⟩ := Kd.S_slice HO891.out; subst eo7) | (go_at_call 139; (with_reducible refine (impl_stepsFrom.calls k _ _ t889 _ _ l2 t892 _ (Sh.cR (Kd.S_reads' HO891.out).2.2) (Kd.S_reads' HO891.out).2.1 (Sh.cB HR2.out) HC2.out A5.out).mono ?_); rintro e w8 ⟨v893, rfl, ho0, hb⟩; have n0_ := am_ (Kd.S_elder' (by (with_reducible repeat (first | apply Kd.S_alloc | apply Kd.S_drewN | apply Kd.S_drew)); exact HO891.out) (Kd.R_base ho0) hb); have n1_ := am_ (Kd.R_lower ho0 (below_size Sh.bw)); have n2_ := am_ (below_step Sh.bw hb); clear HO891; clear HB; have HO891 := n0_; have HO894 := n1_; have HB := n2_; clear n0_ n1_ n2_; (try clear hb); (try clear hb2); (try clear hk); (try clear hi); (try clear ho0)) | ((with_reducible refine gate_dst (N := 7) rfl ?_); refine Sh.bx (N := 7) (cs := #[.slice none 0 0]) (t := 31) (h := ?_); intro gb895 hg w9 hbox hb; have n0_ := am_ (Kd.S_below (Kd.S_elderB (by (with_reducible repeat (first | apply Kd.S_alloc | apply Kd.S_drewN | apply Kd.S_drew)); exact HO891.out) gb895 (Nat.le_of_eq hg.symm)) hb); have n1_ := am_ (Kd.R_below (by (with_reducible repeat (first | apply Kd.R_alloc | apply Kd.R_drewN | apply Kd.R_drew)); exact HO894.out) hb); have n2_ := am_ (below_step Sh.bw hb); have n3_ := am_ (hbox); have n4_ := am_ (Sh.gw (w := w) hg); have n5_ := am_ (Sh.gw (w := w) hg); clear HO891; clear HO894; clear HB; have HO891 := n0_; have HO894 := n1_; have HB := n2_; have BK895 := n3_; have GW895 := n4_; have GE895 := n5_; clear n0_ n1_ n2_ n3_ n4_ n5_; clear hb hbox hg; obtain ⟨Ao10, co10, eo10⟩ := Kd.R_slice HO894.out; subst eo10; have hcz11_0 := Sh.bc BK895.out 0; have hfz11_0 := blk_frozen BK895.out 0))
 repeat (go_quiet (first | (go_at_call 83; (with_reducible refine (impl_turned.calls k _ _ l0 t889 _ ?side1 ?side2 A4.out).mono ?_); (case side1 => repeat (first | exact HR0.out | (with_reducible first | refine Kd.C_alloc ?_ _ | refine Kd.C_drewN ?_ _ | refine Kd.C_drew ?_))); (case side2 => exact HC0.out); rintro e w6 ⟨v890, rfl, ho0, hb⟩; have n0_ := am_ (Kd.S_lower ho0 (below_size Sh.bw)); have n1_ := am_ (below_step Sh.bw hb); clear HB; have HO891 := n0_; have HB := n1_; clear n0_ n1_; (try clear hb); (try clear hb2); (try clear hk); (try clear hi); (try clear ho0); obtain ⟨Ao7, co7, eo7⟩ := Kd.S_slice HO891.out; subst eo7) | (go_at_call 139; (with_reducible refine (impl_stepsFrom.calls k _ _ t889 _ _ l2 t892 _ (Sh.cR (Kd.S_reads' HO891.out).2.2) (Kd.S_reads' HO891.out).2.1 (Sh.cB HR2.out) HC2.out A5.out).mono ?_); rintro e w8 ⟨v893, rfl, ho0, hb⟩; have n0_ := am_ (Kd.S_elder' (by (with_reducible repeat (first | apply Kd.S_alloc | apply Kd.S_drewN | apply Kd.S_drew)); exact HO891.out) (Kd.R_base ho0) hb); have n1_ := am_ (Kd.R_lower ho0 (below_size Sh.bw)); have n2_ := am_ (below_step Sh.bw hb); clear HO891; clear HB; have HO891 := n0_; have HO894 := n1_; have HB := n2_; clear n0_ n1_ n2_; (try clear hb); (try clear hb2); (try clear hk); (try clear hi); (try clear ho0)) | ((with_reducible refine gate_dst (N := 7) rfl ?_); refine Sh.bx (N := 7) (cs := #[.slice none 0 0]) (t := 31) (h := ?_); intro gb895 hg w9 hbox hb; have n0_ := am_ (Kd.S_below (Kd.S_elderB (by (with_reducible repeat (first | apply Kd.S_alloc | apply Kd.S_drewN | apply Kd.S_drew)); exact HO891.out) gb895 (Nat.le_of_eq hg.symm)) hb); have n1_ := am_ (Kd.R_below (by (with_reducible repeat (first | apply Kd.R_alloc | apply Kd.R_drewN | apply Kd.R_drew)); exact HO894.out) hb); have n2_ := am_ (below_step Sh.bw hb); have n3_ := am_ (hbox); have n4_ := am_ (Sh.gw (w := w) hg); have n5_ := am_ (Sh.gw (w := w) hg); clear HO891; clear HO894; clear HB; have HO891 := n0_; have HO894 := n1_; have HB := n2_; have BK895 := n3_; have GW895 := n4_; have GE895 := n5_; clear n0_ n1_ n2_ n3_ n4_ n5_; clear hb hbox hg; obtain ⟨Ao10, co10, eo10⟩ := Kd.R_slice HO894.out; subst eo10; have hcz11_0 := Sh.bc BK895.out 0; have hfz11_0 := blk_frozen BK895.out 0)); try go_wp2_with (first | (go_at_call 83; (with_reducible refine (impl_turned.calls k _ _ l0 t889 _ ?side1 ?side2 A4.out).mono ?_); (case side1 => repeat (first | exact HR0.out | (with_reducible first | refine Kd.C_alloc ?_ _ | refine Kd.C_drewN ?_ _ | refine Kd.C_drew ?_))); (case side2 => exact HC0.out); rintro e w6 ⟨v890, rfl, ho0, hb⟩; have n0_ := am_ (Kd.S_lower ho0 (below_size Sh.bw)); have n1_ := am_ (below_step Sh.bw hb); clear HB; have HO891 := n0_; have HB := n1_; clear n0_ n1_; (try clear hb); (try clear hb2); (try clear hk); (try clear hi); (try clear ho0); obtain ⟨Ao7, co7, eo7⟩ := Kd.S_slice HO891.out; subst eo7) | (go_at_call 139; (with_reducible refine (impl_stepsFrom.calls k _ _ t889 _ _ l2 t892 _ (Sh.cR (Kd.S_reads' HO891.out).2.2) (Kd.S_reads' HO891.out).2.1 (Sh.cB HR2.out) HC2.out A5.out).mono ?_); rintro e w8 ⟨v893, rfl, ho0, hb⟩; have n0_ := am_ (Kd.S_elder' (by (with_reducible repeat (first | apply Kd.S_alloc | apply Kd.S_drewN | apply Kd.S_drew)); exact HO891.out) (Kd.R_base ho0) hb); have n1_ := am_ (Kd.R_lower ho0 (below_size Sh.bw)); have n2_ := am_ (below_step Sh.bw hb); clear HO891; clear HB; have HO891 := n0_; have HO894 := n1_; have HB := n2_; clear n0_ n1_ n2_; (try clear hb); (try clear hb2); (try clear hk); (try clear hi); (try clear ho0)) | ((with_reducible refine gate_dst (N := 7) rfl ?_); refine Sh.bx (N := 7) (cs := #[.slice none 0 0]) (t := 31) (h := ?_); intro gb895 hg w9 hbox hb; have n0_ := am_ (Kd.S_below (Kd.S_elderB (by (with_reducible repeat (first | apply Kd.S_alloc | apply Kd.S_drewN | apply Kd.S_drew)); exact HO891.out) gb895 (Nat.le_of_eq hg.symm)) hb); have n1_ := am_ (Kd.R_below (by (with_reducible repeat (first | apply Kd.R_alloc | apply Kd.R_drewN | apply Kd.R_drew)); exact HO894.out) hb); have n2_ := am_ (below_step Sh.bw hb); have n3_ := am_ (hbox); have n4_ := am_ (Sh.gw (w := w) hg); have n5_ := am_ (Sh.gw (w := w) hg); clear HO891; clear HO894; clear HB; have HO891 := n0_; have HO894 := n1_; have HB := n2_; have BK895 := n3_; have GW895 := n4_; have GE895 := n5_; clear n0_ n1_ n2_ n3_ n4_ n5_; clear hb hbox hg; obtain ⟨Ao10, co10, eo10⟩ := Kd.R_slice HO894.out; subst eo10; have hcz11_0 := Sh.bc BK895.out 0; have hfz11_0 := blk_frozen BK895.out 0)))
 go_loopg [8, 20] k (fun kq v8 v20 w' => ∃ (x8_1 : Int) (x20_1 : Int), v8 = .int .i64 x8_1 ∧ v20 = .int .i64 x20_1 ∧ Aside0 (impl_leastWay.l0 kq l0 x8_1 l1 (l1.length : Int) x20_1 t892 = some r) ∧ Aside0 (kq ≤ k) ∧ Aside0 (Kd.R (Kd.int .i64) 3 w' w.heap.size (fun _ => True) (.slice Ao10 t892.length co10) t892) ∧ Aside0 (w'.heap[gb895]? = some (.cells #[(.slice Ao10 t892.length co10)] 31 (0, 0))) ∧ Aside0 (Below w.heap.size w w'))
 case atStart => exact ⟨((-1)), (0), (by first | rfl | (simp; done) | (simp [*]; done)), (by first | rfl | (simp; done) | (simp [*]; done)), H', ⟨Nat.le_refl _⟩, ⟨by (with_reducible repeat (first | apply Kd.R_alloc | apply Kd.R_drewN | apply Kd.R_drew)); exact Kd.R_mono (Kd.R_far (p := ⟨gb895, 0, none⟩) (Kd.R_types HO894.out BK895.out (by decide)) (fun _ hk => hk.2) (.slice Ao10 t892.length co10)) (fun _ hk => trivial)⟩, ⟨by (with_reducible repeat (first | refine blk_drewN ?_ _ | refine blk_drew ?_ | refine blk_alloc ?_ _)); refine blk_put (cs := #[.slice none 0 0]) ?_ 0 _ rfl; (with_reducible repeat (first | refine blk_drewN ?_ _ | refine blk_drew ?_ | refine blk_alloc ?_ _)); exact BK895.out⟩, ⟨by repeat (first | (with_reducible first | exact HB.out | apply below_alloc | apply pw_below_drewN | apply below_drew1 | refine below_set ?_ GE895.out) | exact HB.out)⟩⟩
 case round =>
  clear H'
  try clear c1
  try clear c2
  try clear p2
  try clear c11
  try clear hcz11_0
  try clear hfz11_0
  obtain ⟨x8_1, x20_1, rfl, rfl, HA, HK1, HO_896000, BK895, HB⟩ := hrel
  cases gk with
  | zero => exact absurd HA.out (by simp [impl_leastWay.l0])
  | succ k1 =>
   have H := HA.out
   clear HA
   simp only [impl_leastWay.l0] at H
   by_cases c12 : x20_1 < (l1.length : Int)
   ·rw [if_pos c12] at H
    have c12b0 : decide (x20_1 < (l1.length : Int)) = true := decide_eq_true c12
    clear c12
    by_cases c13 : 0 ≤ x20_1
    ·rw [if_pos c13] at H
     have c13b0 : decide (0 ≤ x20_1) = true := decide_eq_true c13
     clear c13
     by_cases c14 : x20_1 < (l1.length : Int)
     ·rw [if_pos c14] at H
      have c14b0 : decide (x20_1 < (l1.length : Int)) = true := decide_eq_true c14
      clear c14
      by_cases c15 : 0 ≤ (rd l1 x20_1)
      ·rw [if_pos c15] at H
       have c15b0 : decide (0 ≤ (rd l1 x20_1)) = true := decide_eq_true c15
       clear c15
       by_cases c16 : (rd l1 x20_1) < (t892.length : Int)
       ·rw [if_pos c16] at H
        have c16b0 : decide ((rd l1 x20_1) < (t892.length : Int)) = true := decide_eq_true c16
        clear c16
        by_cases c17 : (rd t892 (rd l1 x20_1)) ≥ 0
        ·rw [if_pos c17] at H
         have c17b0 : decide (0 ≤ (rd t892 (rd l1 x20_1))) = true := decide_eq_true c17
         clear c17
         by_cases c18 : x8_1 < 0
         ·rw [if_pos c18] at H
          have c18b0 : decide (x8_1 < 0) = true := decide_eq_true c18
          clear c18
          have H' := am_ H
          clear H
          have p896 : 0 ≤ (x20_1 : Int) := of_decide_eq_true (by first | (with_reducible assumption) | assumption)
          have q896 : x20_1 < (l1.length : Int) := of_decide_eq_true (by first | (with_reducible assumption) | assumption)
          obtain ⟨ad896, e896, hx896_0⟩ := Kd.at_int HR1.out x20_1 p896 q896
          cases e896
          (try replace hx896_0 := (HB.out.cell (World.block_lt_of_cell? w _ hx896_0)).trans hx896_0)
          replace p896 := eq_true p896
          replace q896 := eq_true q896
          have hcz19_0 := Sh.bc BK895.out 0
          have hfz19_0 := blk_frozen BK895.out 0
          have p897 : 0 ≤ ((rd l1 x20_1) : Int) := of_decide_eq_true (by first | (with_reducible assumption) | assumption)
          have q897 : (rd l1 x20_1) < (t892.length : Int) := of_decide_eq_true (by first | (with_reducible assumption) | assumption)
          obtain ⟨ad897, e897, hx897_0⟩ := Kd.at_int (Kd.R_reads' HO_896000.out).2.2 (rd l1 x20_1) p897 q897
          cases e897
          replace p897 := eq_true p897
          replace q897 := eq_true q897
          go_wp2
          repeat (go_quiet (fail); try go_wp2)
          go_roundg k1
          case measure => have := HK1.out; omega
          case rel => exact ⟨(rd l1 x20_1), (wrap64 (x20_1 + 1)), (by first | rfl | (simp; done) | (simp [*]; done)), (by first | rfl | (simp; done) | (simp [*]; done)), H', ⟨by have := HK1.out; omega⟩, ⟨by (with_reducible repeat (first | apply Kd.R_alloc | apply Kd.R_drewN | apply Kd.R_drew)); exact HO_896000.out⟩, ⟨by (with_reducible repeat (first | refine blk_drewN ?_ _ | refine blk_drew ?_ | refine blk_alloc ?_ _)); exact BK895.out⟩, ⟨by repeat (first | (with_reducible first | exact HB.out | apply below_alloc | apply pw_below_drewN | apply below_drew1 | refine below_set ?_ GE895.out) | exact HB.out)⟩⟩
         ·rw [if_neg c18] at H
          have c18b0 : decide (x8_1 < 0) = false := decide_eq_false c18
          clear c18
          by_cases c20 : 0 ≤ x8_1
          ·rw [if_pos c20] at H
           have c20b0 : decide (0 ≤ x8_1) = true := decide_eq_true c20
           clear c20
           by_cases c21 : x8_1 < (t892.length : Int)
           ·rw [if_pos c21] at H
            have c21b0 : decide (x8_1 < (t892.length : Int)) = true := decide_eq_true c21
            clear c21
            by_cases c22 : (rd t892 (rd l1 x20_1)) < (rd t892 x8_1)
            ·rw [if_pos c22] at H
             have c22b0 : decide ((rd t892 (rd l1 x20_1)) < (rd t892 x8_1)) = true := decide_eq_true c22
             clear c22
             have H' := am_ H
             clear H
             have p896 : 0 ≤ (x20_1 : Int) := of_decide_eq_true (by first | (with_reducible assumption) | assumption)
             have q896 : x20_1 < (l1.length : Int) := of_decide_eq_true (by first | (with_reducible assumption) | assumption)
             obtain ⟨ad896, e896, hx896_0⟩ := Kd.at_int HR1.out x20_1 p896 q896
             cases e896
             (try replace hx896_0 := (HB.out.cell (World.block_lt_of_cell? w _ hx896_0)).trans hx896_0)
             replace p896 := eq_true p896
             replace q896 := eq_true q896
             have hcz23_0 := Sh.bc BK895.out 0
             have hfz23_0 := blk_frozen BK895.out 0
             have p897 : 0 ≤ ((rd l1 x20_1) : Int) := of_decide_eq_true (by first | (with_reducible assumption) | assumption)
             have q897 : (rd l1 x20_1) < (t892.length : Int) := of_decide_eq_true (by first | (with_reducible assumption) | assumption)
             obtain ⟨ad897, e897, hx897_0⟩ := Kd.at_int (Kd.R_reads' HO_896000.out).2.2 (rd l1 x20_1) p897 q897
             cases e897
             replace p897 := eq_true p897
             replace q897 := eq_true q897
             have p898 : 0 ≤ ((rd l1 x20_1) : Int) := of_decide_eq_true (by first | (with_reducible assumption) | assumption)
             have q898 : (rd l1 x20_1) < (t892.length : Int) := of_decide_eq_true (by first | (with_reducible assumption) | assumption)
             obtain ⟨ad898, e898, hx898_0⟩ := Kd.at_int (Kd.R_reads' HO_896000.out).2.2 (rd l1 x20_1) p898 q898
             obtain rfl : ad897 = ad898 := (by injection e898)
             replace p898 := eq_true p898
             replace q898 := eq_true q898
             have p899 : 0 ≤ (x8_1 : Int) := of_decide_eq_true (by first | (with_reducible assumption) | assumption)
             have q899 : x8_1 < (t892.length : Int) := of_decide_eq_true (by first | (with_reducible assumption) | assumption)
             obtain ⟨ad899, e899, hx899_0⟩ := Kd.at_int (Kd.R_reads' HO_896000.out).2.2 x8_1 p899 q899
             obtain rfl : ad897 = ad899 := (by injection e899)
             replace p899 := eq_true p899
             replace q899 := eq_true q899
             go_wp2
             repeat (go_quiet (fail); try go_wp2)
             go_roundg k1
             case measure => have := HK1.out; omega
             case rel => exact ⟨(rd l1 x20_1), (wrap64 (x20_1 + 1)), (by first | rfl | (simp; done) | (simp [*]; done)), (by first | rfl | (simp; done) | (simp [*]; done)), H', ⟨by have := HK1.out; omega⟩, ⟨by (with_reducible repeat (first | apply Kd.R_alloc | apply Kd.R_drewN | apply Kd.R_drew)); exact HO_896000.out⟩, ⟨by (with_reducible repeat (first | refine blk_drewN ?_ _ | refine blk_drew ?_ | refine blk_alloc ?_ _)); exact BK895.out⟩, ⟨by repeat (first | (with_reducible first | exact HB.out | apply below_alloc | apply pw_below_drewN | apply below_drew1 | refine below_set ?_ GE895.out) | exact HB.out)⟩⟩
            ·rw [if_neg c22] at H
             have c22b0 : decide ((rd t892 (rd l1 x20_1)) < (rd t892 x8_1)) = false := decide_eq_false c22
             clear c22
             have H' := am_ H
             clear H
             have p896 : 0 ≤ (x20_1 : Int) := of_decide_eq_true (by first | (with_reducible assumption) | assumption)
             have q896 : x20_1 < (l1.length : Int) := of_decide_eq_true (by first | (with_reducible assumption) | assumption)
             obtain ⟨ad896, e896, hx896_0⟩ := Kd.at_int HR1.out x20_1 p896 q896
             cases e896
             (try replace hx896_0 := (HB.out.cell (World.block_lt_of_cell? w _ hx896_0)).trans hx896_0)
             replace p896 := eq_true p896
             replace q896 := eq_true q896
             have hcz24_0 := Sh.bc BK895.out 0
             have hfz24_0 := blk_frozen BK895.out 0
             have p897 : 0 ≤ ((rd l1 x20_1) : Int) := of_decide_eq_true (by first | (with_reducible assumption) | assumption)
             have q897 : (rd l1 x20_1) < (t892.length : Int) := of_decide_eq_true (by first | (with_reducible assumption) | assumption)
             obtain ⟨ad897, e897, hx897_0⟩ := Kd.at_int (Kd.R_reads' HO_896000.out).2.2 (rd l1 x20_1) p897 q897
             cases e897
             replace p897 := eq_true p897
             replace q897 := eq_true q897
             have p898 : 0 ≤ ((rd l1 x20_1) : Int) := of_decide_eq_true (by first | (with_reducible assumption) | assumption)
             have q898 : (rd l1 x20_1) < (t892.length : Int) := of_decide_eq_true (by first | (with_reducible assumption) | assumption)
             obtain ⟨ad898, e898, hx898_0⟩ := Kd.at_int (Kd.R_reads' HO_896000.out).2.2 (rd l1 x20_1) p898 q898
             obtain rfl : ad897 = ad898 := (by injection e898)
             replace p898 := eq_true p898
             replace q898 := eq_true q898
             have p899 : 0 ≤ (x8_1 : Int) := of_decide_eq_true (by first | (with_reducible assumption) | assumption)
             have q899 : x8_1 < (t892.length : Int) := of_decide_eq_true (by first | (with_reducible assumption) | assumption)
             obtain ⟨ad899, e899, hx899_0⟩ := Kd.at_int (Kd.R_reads' HO_896000.out).2.2 x8_1 p899 q899
             obtain rfl : ad897 = ad899 := (by injection e899)
             replace p899 := eq_true p899
             replace q899 := eq_true q899
             go_wp2
             repeat (go_quiet (fail); try go_wp2)
             go_roundg k1
             case measure => have := HK1.out; omega
             case rel => exact ⟨(x8_1), (wrap64 (x20_1 + 1)), (by first | rfl | (simp; done) | (simp [*]; done)), (by first | rfl | (simp; done) | (simp [*]; done)), H', ⟨by have := HK1.out; omega⟩, ⟨by (with_reducible repeat (first | apply Kd.R_alloc | apply Kd.R_drewN | apply Kd.R_drew)); exact HO_896000.out⟩, ⟨by (with_reducible repeat (first | refine blk_drewN ?_ _ | refine blk_drew ?_ | refine blk_alloc ?_ _)); exact BK895.out⟩, ⟨by repeat (first | (with_reducible first | exact HB.out | apply below_alloc | apply pw_below_drewN | apply below_drew1 | refine below_set ?_ GE895.out) | exact HB.out)⟩⟩
           ·rw [if_neg c21] at H
            exact absurd H (by simp)
          ·rw [if_neg c20] at H
           exact absurd H (by simp)
        ·rw [if_neg c17] at H
         have c17b0 : decide (0 ≤ (rd t892 (rd l1 x20_1))) = false := decide_eq_false c17
         clear c17
         have H' := am_ H
         clear H
         have p896 : 0 ≤ (x20_1 : Int) := of_decide_eq_true (by first | (with_reducible assumption) | assumption)
         have q896 : x20_1 < (l1.length : Int) := of_decide_eq_true (by first | (with_reducible assumption) | assumption)
         obtain ⟨ad896, e896, hx896_0⟩ := Kd.at_int HR1.out x20_1 p896 q896
         cases e896
         (try replace hx896_0 := (HB.out.cell (World.block_lt_of_cell? w _ hx896_0)).trans hx896_0)
         replace p896 := eq_true p896
         replace q896 := eq_true q896
         have hcz25_0 := Sh.bc BK895.out 0
         have hfz25_0 := blk_frozen BK895.out 0
         have p897 : 0 ≤ ((rd l1 x20_1) : Int) := of_decide_eq_true (by first | (with_reducible assumption) | assumption)
         have q897 : (rd l1 x20_1) < (t892.length : Int) := of_decide_eq_true (by first | (with_reducible assumption) | assumption)
         obtain ⟨ad897, e897, hx897_0⟩ := Kd.at_int (Kd.R_reads' HO_896000.out).2.2 (rd l1 x20_1) p897 q897
         cases e897
         replace p897 := eq_true p897
         replace q897 := eq_true q897
         go_wp2
         repeat (go_quiet (fail); try go_wp2)
         go_roundg k1
         case measure => have := HK1.out; omega
         case rel => exact ⟨(x8_1), (wrap64 (x20_1 + 1)), (by first | rfl | (simp; done) | (simp [*]; done)), (by first | rfl | (simp; done) | (simp [*]; done)), H', ⟨by have := HK1.out; omega⟩, ⟨by (with_reducible repeat (first | apply Kd.R_alloc | apply Kd.R_drewN | apply Kd.R_drew)); exact HO_896000.out⟩, ⟨by (with_reducible repeat (first | refine blk_drewN ?_ _ | refine blk_drew ?_ | refine blk_alloc ?_ _)); exact BK895.out⟩, ⟨by repeat (first | (with_reducible first | exact HB.out | apply below_alloc | apply pw_below_drewN | apply below_drew1 | refine below_set ?_ GE895.out) | exact HB.out)⟩⟩
       ·rw [if_neg c16] at H
        exact absurd H (by simp)
      ·rw [if_neg c15] at H
       exact absurd H (by simp)
     ·rw [if_neg c14] at H
      exact absurd H (by simp)
    ·rw [if_neg c13] at H
     exact absurd H (by simp)
   ·rw [if_neg c12] at H
    have c12b0 : decide (x20_1 < (l1.length : Int)) = false := decide_eq_false c12
    clear c12
    by_cases c26 : x8_1 < 0
    ·rw [if_pos c26] at H
     have c26b0 : decide (x8_1 < 0) = true := decide_eq_true c26
     clear c26
     obtain rfl := Option.some.inj H
     go_wp2
     repeat (go_quiet (fail); try go_wp2)
     go_ret
     exact ⟨_, Sh.eR, (by first | exact rfl | exact fun _ => rfl), by first | exact Kd.R_nil _ _ _ _ _ | exact Kd.N_nil _ _ _ _ _ | exact Kd.V_nil _ _ _ _ _ | exact Kd.Q_nil _ _ _ _ _ | exact Kd.S_nil _ _ _ _ _, Sh.bw⟩
    ·rw [if_neg c26] at H
     have c26b0 : decide (x8_1 < 0) = false := decide_eq_false c26
     clear c26
     obtain ⟨y900, hy900⟩ : ∃ y_ : List Int, y_ = (([x8_1] : List Int)) := ⟨_, rfl⟩
     replace H : (impl_leastWay.l1 k1 l0 y900 t892 x8_1) = some r := by first | (rw [hy900]; with_reducible exact H) | (have H2_ := (Option.bind_some _ _).symm.trans H; rw [hy900]; with_reducible exact H2_) | (have H2_ := (Option.bind_some _ _).symm.trans H; with_reducible exact H2_) | with_reducible exact H | (rw [hy900]; exact H) | exact H
     have Ny900 := am_ hy900
     clear hy900
     have H' := am_ H
     clear H
     go_wp2_with (first | ((with_reducible refine gate_dst (N := 49) rfl ?_); refine Kd.R_lit (Kd.int .i64) _ 3 ?hg (N := 49) ?hd (xs := ([x8_1] : List Int)) (inner := [.int .i64 x8_1]) (ok := fun _ => True) (okp := fun _ => True) ?hr ?hp (fun _ hk => hk) trivial (Below.refl _ _) (Nat.le_refl _) (by simp) ?_; (case hd => rfl); (case hg => rfl); (case hr => first | (go_simp; done) | (go_simp; rfl)); (case hp => exact (Reps.one (show Kd.M (Kd.int .i64) _ _ _ x8_1 [.int .i64 x8_1] from rfl) (Reps.none _ _))); intro v901 w27 ho28 hb hg_ hnew_; clear hg_ hnew_; (first | rw [← Ny900.out] at ho28 | (simp only [Int.reduceToNat] at ho28; rw [← Ny900.out] at ho28)); have n0_ := am_ (Kd.R_elder' (by (with_reducible repeat (first | apply Kd.R_alloc | apply Kd.R_drewN | apply Kd.R_drew)); exact HO_896000.out) (Kd.R_base ho28) hb); have n1_ := am_ (Kd.R_lower (Kd.R_new' ho28 (Kd.R_lt (by (with_reducible repeat (first | apply Kd.R_alloc | apply Kd.R_drewN | apply Kd.R_drew)); exact HO_896000.out))) (below_size Sh.bw)); have n2_ := am_ (Sh.bb BK895.out hb); have n3_ := am_ (below_step Sh.bw hb); clear HO_896000; clear BK895; clear HB; have HO_896000 := n0_; have HO902 := n1_; have BK895 := n2_; have HB := n3_; clear n0_ n1_ n2_ n3_; clear hb ho28) | ((with_reducible refine gate_dst (N := 12) rfl ?_); refine Sh.bx (N := 12) (cs := #[.int .i64 0]) (t := 3) (h := ?_); intro gb903 hg w29 hbox hb; have n0_ := am_ (Kd.R_below (Kd.R_elderB (by (with_reducible repeat (first | apply Kd.R_alloc | apply Kd.R_drewN | apply Kd.R_drew)); exact HO_896000.out) gb903 (Nat.le_of_eq hg.symm)) hb); have n1_ := am_ (Kd.R_below (Kd.R_elderB (by (with_reducible repeat (first | apply Kd.R_alloc | apply Kd.R_drewN | apply Kd.R_drew)); exact HO902.out) gb903 (Nat.le_of_eq hg.symm)) hb); have n2_ := am_ (Sh.bb BK895.out hb); have n3_ := am_ (below_step Sh.bw hb); have n4_ := am_ (hbox); have n5_ := am_ (Sh.gw (w := w) hg); have n6_ := am_ (Sh.gw (w := w) hg); have n7_ := am_ (Sh.nl hg BK895.out); have n8_ := am_ (Sh.ng hg BK895.out); clear HO_896000; clear HO902; clear BK895; clear HB; have HO_896000 := n0_; have HO902 := n1_; have BK895 := n2_; have HB := n3_; have BK903 := n4_; have GW903 := n5_; have GE903 := n6_; have NB895_903 := n7_; have NB903_895 := n8_; clear n0_ n1_ n2_ n3_ n4_ n5_ n6_ n7_ n8_; clear hb hbox hg; have hnb30 := NB903_895.out; have hnc30 := NB895_903.out; have hcz31_0 := Sh.bc BK903.out 0; have hfz31_0 := blk_frozen BK903.out 0))
     repeat (go_quiet (first | ((with_reducible refine gate_dst (N := 49) rfl ?_); refine Kd.R_lit (Kd.int .i64) _ 3 ?hg (N := 49) ?hd (xs := ([x8_1] : List Int)) (inner := [.int .i64 x8_1]) (ok := fun _ => True) (okp := fun _ => True) ?hr ?hp (fun _ hk => hk) trivial (Below.refl _ _) (Nat.le_refl _) (by simp) ?_; (case hd => rfl); (case hg => rfl); (case hr => first | (go_simp; done) | (go_simp; rfl)); (case hp => exact (Reps.one (show Kd.M (Kd.int .i64) _ _ _ x8_1 [.int .i64 x8_1] from rfl) (Reps.none _ _))); intro v901 w27 ho28 hb hg_ hnew_; clear hg_ hnew_; (first | rw [← Ny900.out] at ho28 | (simp only [Int.reduceToNat] at ho28; rw [← Ny900.out] at ho28)); have n0_ := am_ (Kd.R_elder' (by (with_reducible repeat (first | apply Kd.R_alloc | apply Kd.R_drewN | apply Kd.R_drew)); exact HO_896000.out) (Kd.R_base ho28) hb); have n1_ := am_ (Kd.R_lower (Kd.R_new' ho28 (Kd.R_lt (by (with_reducible repeat (first | apply Kd.R_alloc | apply Kd.R_drewN | apply Kd.R_drew)); exact HO_896000.out))) (below_size Sh.bw)); have n2_ := am_ (Sh.bb BK895.out hb); have n3_ := am_ (below_step Sh.bw hb); clear HO_896000; clear BK895; clear HB; have HO_896000 := n0_; have HO902 := n1_; have BK895 := n2_; have HB := n3_; clear n0_ n1_ n2_ n3_; clear hb ho28) | ((with_reducible refine gate_dst (N := 12) rfl ?_); refine Sh.bx (N := 12) (cs := #[.int .i64 0]) (t := 3) (h := ?_); intro gb903 hg w29 hbox hb; have n0_ := am_ (Kd.R_below (Kd.R_elderB (by (with_reducible repeat (first | apply Kd.R_alloc | apply Kd.R_drewN | apply Kd.R_drew)); exact HO_896000.out) gb903 (Nat.le_of_eq hg.symm)) hb); have n1_ := am_ (Kd.R_below (Kd.R_elderB (by (with_reducible repeat (first | apply Kd.R_alloc | apply Kd.R_drewN | apply Kd.R_drew)); exact HO902.out) gb903 (Nat.le_of_eq hg.symm)) hb); have n2_ := am_ (Sh.bb BK895.out hb); have n3_ := am_ (below_step Sh.bw hb); have n4_ := am_ (hbox); have n5_ := am_ (Sh.gw (w := w) hg); have n6_ := am_ (Sh.gw (w := w) hg); have n7_ := am_ (Sh.nl hg BK895.out); have n8_ := am_ (Sh.ng hg BK895.out); clear HO_896000; clear HO902; clear BK895; clear HB; have HO_896000 := n0_; have HO902 := n1_; have BK895 := n2_; have HB := n3_; have BK903 := n4_; have GW903 := n5_; have GE903 := n6_; have NB895_903 := n7_; have NB903_895 := n8_; clear n0_ n1_ n2_ n3_ n4_ n5_ n6_ n7_ n8_; clear hb hbox hg; have hnb30 := NB903_895.out; have hnc30 := NB895_903.out; have hcz31_0 := Sh.bc BK903.out 0; have hfz31_0 := blk_frozen BK903.out 0)); try go_wp2_with (first | ((with_reducible refine gate_dst (N := 49) rfl ?_); refine Kd.R_lit (Kd.int .i64) _ 3 ?hg (N := 49) ?hd (xs := ([x8_1] : List Int)) (inner := [.int .i64 x8_1]) (ok := fun _ => True) (okp := fun _ => True) ?hr ?hp (fun _ hk => hk) trivial (Below.refl _ _) (Nat.le_refl _) (by simp) ?_; (case hd => rfl); (case hg => rfl); (case hr => first | (go_simp; done) | (go_simp; rfl)); (case hp => exact (Reps.one (show Kd.M (Kd.int .i64) _ _ _ x8_1 [.int .i64 x8_1] from rfl) (Reps.none _ _))); intro v901 w27 ho28 hb hg_ hnew_; clear hg_ hnew_; (first | rw [← Ny900.out] at ho28 | (simp only [Int.reduceToNat] at ho28; rw [← Ny900.out] at ho28)); have n0_ := am_ (Kd.R_elder' (by (with_reducible repeat (first | apply Kd.R_alloc | apply Kd.R_drewN | apply Kd.R_drew)); exact HO_896000.out) (Kd.R_base ho28) hb); have n1_ := am_ (Kd.R_lower (Kd.R_new' ho28 (Kd.R_lt (by (with_reducible repeat (first | apply Kd.R_alloc | apply Kd.R_drewN | apply Kd.R_drew)); exact HO_896000.out))) (below_size Sh.bw)); have n2_ := am_ (Sh.bb BK895.out hb); have n3_ := am_ (below_step Sh.bw hb); clear HO_896000; clear BK895; clear HB; have HO_896000 := n0_; have HO902 := n1_; have BK895 := n2_; have HB := n3_; clear n0_ n1_ n2_ n3_; clear hb ho28) | ((with_reducible refine gate_dst (N := 12) rfl ?_); refine Sh.bx (N := 12) (cs := #[.int .i64 0]) (t := 3) (h := ?_); intro gb903 hg w29 hbox hb; have n0_ := am_ (Kd.R_below (Kd.R_elderB (by (with_reducible repeat (first | apply Kd.R_alloc | apply Kd.R_drewN | apply Kd.R_drew)); exact HO_896000.out) gb903 (Nat.le_of_eq hg.symm)) hb); have n1_ := am_ (Kd.R_below (Kd.R_elderB (by (with_reducible repeat (first | apply Kd.R_alloc | apply Kd.R_drewN | apply Kd.R_drew)); exact HO902.out) gb903 (Nat.le_of_eq hg.symm)) hb); have n2_ := am_ (Sh.bb BK895.out hb); have n3_ := am_ (below_step Sh.bw hb); have n4_ := am_ (hbox); have n5_ := am_ (Sh.gw (w := w) hg); have n6_ := am_ (Sh.gw (w := w) hg); have n7_ := am_ (Sh.nl hg BK895.out); have n8_ := am_ (Sh.ng hg BK895.out); clear HO_896000; clear HO902; clear BK895; clear HB; have HO_896000 := n0_; have HO902 := n1_; have BK895 := n2_; have HB := n3_; have BK903 := n4_; have GW903 := n5_; have GE903 := n6_; have NB895_903 := n7_; have NB903_895 := n8_; clear n0_ n1_ n2_ n3_ n4_ n5_ n6_ n7_ n8_; clear hb hbox hg; have hnb30 := NB903_895.out; have hnc30 := NB895_903.out; have hcz31_0 := Sh.bc BK903.out 0; have hfz31_0 := blk_frozen BK903.out 0)))
     go_loopg [11, 12] k1 (fun kq v11 v12 w' => ∃ (gb903 : Nat) (x8_1 : Int) (x11_2 : List Int), v12 = .pointer (some ⟨gb903, 0, none⟩) ∧ Aside0 (impl_leastWay.l1 kq l0 x11_2 t892 x8_1 = some r) ∧ Aside0 (kq ≤ k1) ∧ Aside0 (Kd.R (Kd.int .i64) 3 w' w.heap.size (fun k_ => some k_ ≠ ((.slice Ao10 t892.length co10) : Value).ownBlock ∧ k_ ≠ gb903) v11 x11_2) ∧ Aside0 (Kd.R (Kd.int .i64) 3 w' w.heap.size (fun k_ => some k_ ≠ (v11 : Value).ownBlock ∧ k_ ≠ gb903) (.slice Ao10 t892.length co10) t892) ∧ Aside0 (w'.heap[gb895]? = some (.cells #[(.slice Ao10 t892.length co10)] 31 (0, 0))) ∧ Aside0 (w'.heap[gb903]? = some (.cells #[.int .i64 x8_1] 3 (0, 0))) ∧ Aside0 (Below w.heap.size w w') ∧ Aside0 (gb895 ≠ gb903) ∧ Aside0 (gb903 ≠ gb895) ∧ Aside0 (w.heap.size ≤ gb903) ∧ Aside0 (0 < x11_2.length))
     case atStart => exact ⟨gb903, x8_1, (y900), rfl, H', ⟨Nat.le_refl _⟩, ⟨by (with_reducible repeat (first | apply Kd.R_alloc | apply Kd.R_drewN | apply Kd.R_drew)); exact Kd.R_mono (Kd.R_far (p := ⟨gb903, 0, none⟩) (Kd.R_mono HO902.out (fun k_ hk => (⟨hk, hk.2⟩ : _ ∧ k_ ≠ gb903))) (fun _ hk => hk.2) (.int .i64 x8_1)) (fun _ h => ⟨h.1.1.2, h.1.2⟩)⟩, ⟨by (with_reducible repeat (first | apply Kd.R_alloc | apply Kd.R_drewN | apply Kd.R_drew)); exact Kd.R_mono (Kd.R_far (p := ⟨gb903, 0, none⟩) (Kd.R_mono HO_896000.out (fun k_ hk => (⟨hk, hk.2⟩ : _ ∧ k_ ≠ gb903))) (fun _ hk => hk.2) (.int .i64 x8_1)) (fun _ h => ⟨h.1.1.2, h.1.2⟩)⟩, ⟨by (with_reducible repeat (first | refine blk_drewN ?_ _ | refine blk_drew ?_ | refine blk_alloc ?_ _)); refine blk_far ?_ NB895_903.out _; (with_reducible repeat (first | refine blk_drewN ?_ _ | refine blk_drew ?_ | refine blk_alloc ?_ _)); exact BK895.out⟩, ⟨by (with_reducible repeat (first | refine blk_drewN ?_ _ | refine blk_drew ?_ | refine blk_alloc ?_ _)); refine blk_put (cs := #[.int .i64 0]) ?_ 0 _ rfl; (with_reducible repeat (first | refine blk_drewN ?_ _ | refine blk_drew ?_ | refine blk_alloc ?_ _)); exact BK903.out⟩, ⟨by repeat (first | (with_reducible first | exact HB.out | apply below_alloc | apply pw_below_drewN | apply below_drew1 | refine below_set ?_ GE895.out | refine below_set ?_ GE903.out) | exact HB.out)⟩, NB895_903, NB903_895, GE903, ⟨by rw [Ny900.out]; exact Nat.succ_pos _⟩⟩
     case round =>
      clear H'
      try clear c1
      try clear c2
      try clear p2
      try clear c3
      try clear p6
      try clear p8
      try clear q8
      try clear hx8
      try clear c11
      try clear c12
      try clear c12b0
      try clear c13
      try clear c13b0
      try clear c14
      try clear c14b0
      try clear c15
      try clear c15b0
      try clear c16
      try clear c16b0
      try clear c17
      try clear c17b0
      try clear c18
      try clear c18b0
      try clear c20
      try clear c20b0
      try clear c21
      try clear c21b0
      try clear c22
      try clear c22b0
      try clear c26
      try clear c26b0
      try clear c30
      try clear hcz11_0
      try clear hcz19_0
      try clear hcz23_0
      try clear hcz24_0
      try clear hcz25_0
      try clear hcz31_0
      try clear hfz11_0
      try clear hfz19_0
      try clear hfz23_0
      try clear hfz24_0
      try clear hfz25_0
      try clear hfz31_0
      try clear hx896_0
      try clear hx897_0
      try clear hx898_0
      try clear hx899_0
      try clear p2
      try clear p896
      try clear p897
      try clear p898
      try clear p899
      try clear q896
      try clear q897
      try clear q898
      try clear q899
      try clear NB895_903
      try clear NB903_895
      try clear GE903
      try clear GW903
      obtain ⟨gb903, x8_1, x11_2, rfl, HA, HK2, HO_11, HO_896000, BK895, BK903, HB, NB895_903, NB903_895, GE903, LE11⟩ := hrel
      cases gk with
      | zero => exact absurd HA.out (by simp [impl_leastWay.l1])
      | succ k2 =>
       have H := HA.out
       clear HA
       simp only [impl_leastWay.l1] at H
       by_cases c32 : 0 ≤ x8_1
       ·rw [if_pos c32] at H
        have c32b0 : decide (0 ≤ x8_1) = true := decide_eq_true c32
        clear c32
        by_cases c33 : x8_1 < (t892.length : Int)
        ·rw [if_pos c33] at H
         have c33b0 : decide (x8_1 < (t892.length : Int)) = true := decide_eq_true c33
         clear c33
         by_cases c34 : (rd t892 x8_1) > 0
         ·rw [if_pos c34] at H
          have c34b0 : decide (0 < (rd t892 x8_1)) = true := decide_eq_true c34
          clear c34
          by_cases c35 : x8_1 < (l0.length : Int)
          ·rw [if_pos c35] at H
           have c35b0 : decide (x8_1 < (l0.length : Int)) = true := decide_eq_true c35
           clear c35
           replace H := Option.bind_eq_some_iff.mp H
           obtain ⟨t906, A360, H⟩ := H
           replace H : (if 0 ≤ t906 then (if t906 < ((rd_L1 l0 x8_1).length : Int) then (if x11_2.length < 17592186044416 then (impl_leastWay.l1 k2 l0 (x11_2 ++ [rd (rd_L1 l0 x8_1) t906]) t892 (rd (rd_L1 l0 x8_1) t906)) else (none)) else (none)) else (none)) = some r := H
           have A36 := am_ A360
           clear A360
           by_cases c37 : 0 ≤ t906
           ·rw [if_pos c37] at H
            have c37b0 : decide (0 ≤ t906) = true := decide_eq_true c37
            clear c37
            by_cases c38 : t906 < ((rd_L1 l0 x8_1).length : Int)
            ·rw [if_pos c38] at H
             have c38b0 : decide (t906 < ((rd_L1 l0 x8_1).length : Int)) = true := decide_eq_true c38
             clear c38
             by_cases c39 : x11_2.length < 17592186044416
             ·rw [if_pos c39] at H
              have LMc39 := am_ c39
              clear c39
              obtain ⟨y909, hy909⟩ : ∃ y_ : List Int, y_ = (x11_2 ++ [rd (rd_L1 l0 x8_1) t906]) := ⟨_, rfl⟩
              replace H : (impl_leastWay.l1 k2 l0 y909 t892 (rd (rd_L1 l0 x8_1) t906)) = some r := by first | (rw [hy909]; with_reducible exact H) | (have H2_ := (Option.bind_some _ _).symm.trans H; rw [hy909]; with_reducible exact H2_) | (have H2_ := (Option.bind_some _ _).symm.trans H; with_reducible exact H2_) | with_reducible exact H | (rw [hy909]; exact H) | exact H
              have Ny909 := am_ hy909
              clear hy909
              have H' := am_ H
              clear H
              have hnb40 := NB895_903.out
              have hnc40 := NB903_895.out
              have hcz41_0 := Sh.bc BK895.out 0
              have hfz41_0 := blk_frozen BK895.out 0
              have hcz42_0 := Sh.bc BK903.out 0
              have hfz42_0 := blk_frozen BK903.out 0
              have p904 : 0 ≤ (x8_1 : Int) := of_decide_eq_true (by first | (with_reducible assumption) | assumption)
              have q904 : x8_1 < (t892.length : Int) := of_decide_eq_true (by first | (with_reducible assumption) | assumption)
              obtain ⟨ad904, e904, hx904_0⟩ := Kd.at_int (Kd.R_reads' HO_896000.out).2.2 x8_1 p904 q904
              cases e904
              replace p904 := eq_true p904
              replace q904 := eq_true q904
              have p905 : 0 ≤ (x8_1 : Int) := of_decide_eq_true (by first | (with_reducible assumption) | assumption)
              have q905 : x8_1 < (l0.length : Int) := of_decide_eq_true (by first | (with_reducible assumption) | assumption)
              obtain ⟨ad905, A905_0, c905_0, e905, hx905_0, hl905_0, hi905_0⟩ := at_L1 HR0.out x8_1 p905 q905
              cases e905
              (try replace hx905_0 := (HB.out.cell (World.block_lt_of_cell? w _ hx905_0)).trans hx905_0)
              have HR905_0 := am_ hi905_0
              have HC905_0 := am_ hl905_0
              clear hi905_0 hl905_0
              replace p905 := eq_true p905
              replace q905 := eq_true q905
              go_wp2_with (first | (go_at_call 146; (with_reducible refine (slices_IndexFunc_int_int_146_by_impl_leastWay_1.calls _ _ (rd_L1 l0 x8_1) gb895 (some ad904) co10 t892 gb903 x8_1 t906 _ (Sh.cB HR905_0.out) HC905_0.out (Sh.cR (Kd.R_reads' HO_896000.out).2.2) (Kd.R_reads' HO_896000.out).2.1 ?side5 ?side6 ?side7 A36.out).mono ?_); (case side5 => (with_reducible repeat (first | refine blk_drewN ?_ _ | refine blk_drew ?_ | refine blk_alloc ?_ _)); exact BK895.out); (case side6 => (with_reducible repeat (first | refine blk_drewN ?_ _ | refine blk_drew ?_ | refine blk_alloc ?_ _)); exact BK903.out); (case side7 => exact NB895_903.out); rintro e w43 ⟨rfl, hb⟩; have n0_ := am_ (Kd.R_below (by (with_reducible repeat (first | apply Kd.R_alloc | apply Kd.R_drewN | apply Kd.R_drew)); exact HO_11.out) hb); have n1_ := am_ (Kd.R_below (by (with_reducible repeat (first | apply Kd.R_alloc | apply Kd.R_drewN | apply Kd.R_drew)); exact HO_896000.out) hb); have n2_ := am_ (Sh.bb BK895.out hb); have n3_ := am_ (Sh.bb BK903.out hb); have n4_ := am_ (below_step Sh.bw hb); clear HO_11; clear HO_896000; clear BK895; clear BK903; clear HB; have HO_11 := n0_; have HO_896000 := n1_; have BK895 := n2_; have BK903 := n3_; have HB := n4_; clear n0_ n1_ n2_ n3_ n4_; (try clear hb); (try clear hb2); (try clear hk); (try clear hi); have hcz44_0 := Sh.bc BK903.out 0; have hfz44_0 := blk_frozen BK903.out 0; have p907 : 0 ≤ (x8_1 : Int) := of_decide_eq_true (by first | (with_reducible assumption) | assumption); have q907 : x8_1 < (l0.length : Int) := of_decide_eq_true (by first | (with_reducible assumption) | assumption); obtain ⟨ad907, A907_0, c907_0, e907, hx907_0, hl907_0, hi907_0⟩ := at_L1 HR0.out x8_1 p907 q907; obtain rfl : ad905 = ad907 := (by injection e907); replace hx907_0 := (HB.out.cell (World.block_lt_of_cell? w _ hx907_0)).trans hx907_0; have HR907_0 := am_ hi907_0; have HC907_0 := am_ hl907_0; clear hi907_0 hl907_0; replace p907 := eq_true p907; replace q907 := eq_true q907; have p908 : 0 ≤ (t906 : Int) := of_decide_eq_true (by first | (with_reducible assumption) | assumption); have q908 : t906 < ((rd_L1 l0 x8_1).length : Int) := of_decide_eq_true (by first | (with_reducible assumption) | assumption); obtain ⟨ad908, e908, hx908_0⟩ := Kd.at_int HR907_0.out t906 p908 q908; cases e908; replace hx908_0 := (HB.out.cell (World.block_lt_of_cell? w _ hx908_0)).trans hx908_0; replace p908 := eq_true p908; replace q908 := eq_true q908) | ((with_reducible refine gate_builtin (b := .append) (xs := #[.tmp 69, .tmp 71]) rfl ?_); at_builtin; refine Kd.R_append (Kd.int .i64) (w0 := w) w.heap.size rfl (.tmp 69) (.tmp 71) 31 3 (.int .i64 0) 8 rfl Try.underlying31 info3 rfl (by decide) (by omega) u11 x11_2 (rd (rd_L1 l0 x8_1) t906) [.int .i64 (rd (rd_L1 l0 x8_1) t906)] (fun k_ => some k_ ≠ (.slice (some ad904) t892.length co10 : Value).ownBlock ∧ k_ ≠ gb903) (fun _ => False) rfl (by first | (go_simp; done) | (go_simp; rfl)) ?aP (fun _ hk => hk.elim) ?aF ?aO ?aB ?aS ?aL ?_; (case aP => exact rfl); (case aB => exact Sh.bw); (case aF => exact (fun k_ hk => ⟨Kd.fresh' (Kd.R_lt (by (with_reducible repeat (first | apply Kd.R_alloc | apply Kd.R_drewN | apply Kd.R_drew)); exact (Kd.R_mono (Kd.R_far (p := ⟨gb903, 0, none⟩) (Kd.R_mono HO_896000.out (fun k_ hk => (⟨hk, hk.2⟩ : _ ∧ k_ ≠ gb903))) (fun _ hk => hk.2) (.int .i64 (rd (rd_L1 l0 x8_1) t906))) (fun _ h_ => h_.1)))) k_ hk, Kd.freshB (g := gb903) (o := .cells #[.int .i64 (rd (rd_L1 l0 x8_1) t906)] 3 (0, 0)) (by (with_reducible repeat (first | refine blk_drewN ?_ _ | refine blk_drew ?_ | refine blk_alloc ?_ _)); refine blk_put (cs := #[.int .i64 x8_1]) ?_ 0 _ rfl; (with_reducible repeat (first | refine blk_drewN ?_ _ | refine blk_drew ?_ | refine blk_alloc ?_ _)); exact BK903.out) k_ hk⟩)); (case aO => exact (by (with_reducible repeat (first | apply Kd.R_alloc | apply Kd.R_drewN | apply Kd.R_drew)); exact Kd.R_mono (Kd.R_far (p := ⟨gb903, 0, none⟩) (Kd.R_mono HO_11.out (fun k_ hk => (⟨hk, hk.2⟩ : _ ∧ k_ ≠ gb903))) (fun _ hk => hk.2) (.int .i64 (rd (rd_L1 l0 x8_1) t906))) (fun _ h => ⟨h.1.1, h.1.2⟩))); (case aS => exact (below_size Sh.bw)); (case aL => have := LMc39.out; omega); intro v910 w45 ho hb hg hat; rw [← Ny909.out] at ho; have n0_ := am_ (Kd.R_after (ok := (fun k_ => k_ ≠ gb903)) (by (with_reducible repeat (first | apply Kd.R_alloc | apply Kd.R_drewN | apply Kd.R_drew)); exact Kd.R_mono (Kd.R_far (p := ⟨gb903, 0, none⟩) (Kd.R_mono HO_896000.out (fun k_ hk => (⟨hk, hk.2⟩ : _ ∧ k_ ≠ gb903))) (fun _ hk => hk.2) (.int .i64 (rd (rd_L1 l0 x8_1) t906))) (fun _ h => ⟨h.1.2, h.1.1⟩)) hg hat); have n1_ := am_ (blk_grown (g := gb895) (o := .cells #[.slice (some ad904) t892.length co10] 31 (0, 0)) (by (with_reducible repeat (first | refine blk_drewN ?_ _ | refine blk_drew ?_ | refine blk_alloc ?_ _)); refine blk_far ?_ NB895_903.out _; (with_reducible repeat (first | refine blk_drewN ?_ _ | refine blk_drew ?_ | refine blk_alloc ?_ _)); exact BK895.out) hg (Kd.R_ne HO_11.out BK895.out (by decide))); have n2_ := am_ (blk_grown (g := gb903) (o := .cells #[.int .i64 (rd (rd_L1 l0 x8_1) t906)] 3 (0, 0)) (by (with_reducible repeat (first | refine blk_drewN ?_ _ | refine blk_drew ?_ | refine blk_alloc ?_ _)); refine blk_put (cs := #[.int .i64 x8_1]) ?_ 0 _ rfl; (with_reducible repeat (first | refine blk_drewN ?_ _ | refine blk_drew ?_ | refine blk_alloc ?_ _)); exact BK903.out) hg (Kd.R_away HO_11.out (fun _ hk => hk.2))); have n3_ := am_ (hb); have n4_ := am_ (ho); clear HO_896000; clear BK895; clear BK903; clear HB; clear HO_11; have HO_896000 := n0_; have BK895 := n1_; have BK903 := n2_; have HB := n3_; have HO911 := n4_; clear n0_ n1_ n2_ n3_ n4_; clear ho hb hg hat; have hcz46_0 := Sh.bc BK903.out 0; have hfz46_0 := blk_frozen BK903.out 0) | ((with_reducible refine gate_dst (N := 12) rfl ?_); refine Sh.bx (N := 12) (cs := #[.int .i64 0]) (t := 3) (h := ?_); intro gb912 hg w47 hbox hb; have n0_ := am_ (Kd.R_below (Kd.R_elderB (by (with_reducible repeat (first | apply Kd.R_alloc | apply Kd.R_drewN | apply Kd.R_drew)); exact HO_896000.out) gb912 (Nat.le_of_eq hg.symm)) hb); have n1_ := am_ (Kd.R_below (Kd.R_elderB (by (with_reducible repeat (first | apply Kd.R_alloc | apply Kd.R_drewN | apply Kd.R_drew)); exact HO911.out) gb912 (Nat.le_of_eq hg.symm)) hb); have n2_ := am_ (Sh.bb BK895.out hb); have n3_ := am_ (Sh.bb BK903.out hb); have n4_ := am_ (below_step Sh.bw hb); have n5_ := am_ (hbox); have n6_ := am_ (Sh.gw (w := w) hg); have n7_ := am_ (Sh.gw (w := w) hg); have n8_ := am_ (Sh.nl hg BK895.out); have n9_ := am_ (Sh.ng hg BK895.out); have n10_ := am_ (Sh.nl hg BK903.out); have n11_ := am_ (Sh.ng hg BK903.out); clear HO_896000; clear HO911; clear BK895; clear BK903; clear HB; have HO_896000 := n0_; have HO911 := n1_; have BK895 := n2_; have BK903 := n3_; have HB := n4_; have BK912 := n5_; have GW912 := n6_; have GE912 := n7_; have NB895_912 := n8_; have NB912_895 := n9_; have NB903_912 := n10_; have NB912_903 := n11_; clear n0_ n1_ n2_ n3_ n4_ n5_ n6_ n7_ n8_ n9_ n10_ n11_; clear hb hbox hg; have hnb48 := NB912_895.out; have hnc48 := NB895_912.out; have hnb49 := NB912_903.out; have hnc49 := NB903_912.out; have hcz50_0 := Sh.bc BK912.out 0; have hfz50_0 := blk_frozen BK912.out 0))
              repeat (go_quiet (first | (go_at_call 146; (with_reducible refine (slices_IndexFunc_int_int_146_by_impl_leastWay_1.calls _ _ (rd_L1 l0 x8_1) gb895 (some ad904) co10 t892 gb903 x8_1 t906 _ (Sh.cB HR905_0.out) HC905_0.out (Sh.cR (Kd.R_reads' HO_896000.out).2.2) (Kd.R_reads' HO_896000.out).2.1 ?side5 ?side6 ?side7 A36.out).mono ?_); (case side5 => (with_reducible repeat (first | refine blk_drewN ?_ _ | refine blk_drew ?_ | refine blk_alloc ?_ _)); exact BK895.out); (case side6 => (with_reducible repeat (first | refine blk_drewN ?_ _ | refine blk_drew ?_ | refine blk_alloc ?_ _)); exact BK903.out); (case side7 => exact NB895_903.out); rintro e w43 ⟨rfl, hb⟩; have n0_ := am_ (Kd.R_below (by (with_reducible repeat (first | apply Kd.R_alloc | apply Kd.R_drewN | apply Kd.R_drew)); exact HO_11.out) hb); have n1_ := am_ (Kd.R_below (by (with_reducible repeat (first | apply Kd.R_alloc | apply Kd.R_drewN | apply Kd.R_drew)); exact HO_896000.out) hb); have n2_ := am_ (Sh.bb BK895.out hb); have n3_ := am_ (Sh.bb BK903.out hb); have n4_ := am_ (below_step Sh.bw hb); clear HO_11; clear HO_896000; clear BK895; clear BK903; clear HB; have HO_11 := n0_; have HO_896000 := n1_; have BK895 := n2_; have BK903 := n3_; have HB := n4_; clear n0_ n1_ n2_ n3_ n4_; (try clear hb); (try clear hb2); (try clear hk); (try clear hi); have hcz44_0 := Sh.bc BK903.out 0; have hfz44_0 := blk_frozen BK903.out 0; have p907 : 0 ≤ (x8_1 : Int) := of_decide_eq_true (by first | (with_reducible assumption) | assumption); have q907 : x8_1 < (l0.length : Int) := of_decide_eq_true (by first | (with_reducible assumption) | assumption); obtain ⟨ad907, A907_0, c907_0, e907, hx907_0, hl907_0, hi907_0⟩ := at_L1 HR0.out x8_1 p907 q907; obtain rfl : ad905 = ad907 := (by injection e907); replace hx907_0 := (HB.out.cell (World.block_lt_of_cell? w _ hx907_0)).trans hx907_0; have HR907_0 := am_ hi907_0; have HC907_0 := am_ hl907_0; clear hi907_0 hl907_0; replace p907 := eq_true p907; replace q907 := eq_true q907; have p908 : 0 ≤ (t906 : Int) := of_decide_eq_true (by first | (with_reducible assumption) | assumption); have q908 : t906 < ((rd_L1 l0 x8_1).length : Int) := of_decide_eq_true (by first | (with_reducible assumption) | assumption); obtain ⟨ad908, e908, hx908_0⟩ := Kd.at_int HR907_0.out t906 p908 q908; cases e908; replace hx908_0 := (HB.out.cell (World.block_lt_of_cell? w _ hx908_0)).trans hx908_0; replace p908 := eq_true p908; replace q908 := eq_true q908) | ((with_reducible refine gate_builtin (b := .append) (xs := #[.tmp 69, .tmp 71]) rfl ?_); at_builtin; refine Kd.R_append (Kd.int .i64) (w0 := w) w.heap.size rfl (.tmp 69) (.tmp 71) 31 3 (.int .i64 0) 8 rfl Try.underlying31 info3 rfl (by decide) (by omega) u11 x11_2 (rd (rd_L1 l0 x8_1) t906) [.int .i64 (rd (rd_L1 l0 x8_1) t906)] (fun k_ => some k_ ≠ (.slice (some ad904) t892.length co10 : Value).ownBlock ∧ k_ ≠ gb903) (fun _ => False) rfl (by first | (go_simp; done) | (go_simp; rfl)) ?aP (fun _ hk => hk.elim) ?aF ?aO ?aB ?aS ?aL ?_; (case aP => exact rfl); (case aB => exact Sh.bw); (case aF => exact (fun k_ hk => ⟨Kd.fresh' (Kd.R_lt (by (with_reducible repeat (first | apply Kd.R_alloc | apply Kd.R_drewN | apply Kd.R_drew)); exact (Kd.R_mono (Kd.R_far (p := ⟨gb903, 0, none⟩) (Kd.R_mono HO_896000.out (fun k_ hk => (⟨hk, hk.2⟩ : _ ∧ k_ ≠ gb903))) (fun _ hk => hk.2) (.int .i64 (rd (rd_L1 l0 x8_1) t906))) (fun _ h_ => h_.1)))) k_ hk, Kd.freshB (g := gb903) (o := .cells #[.int .i64 (rd (rd_L1 l0 x8_1) t906)] 3 (0, 0)) (by (with_reducible repeat (first | refine blk_drewN ?_ _ | refine blk_drew ?_ | refine blk_alloc ?_ _)); refine blk_put (cs := #[.int .i64 x8_1]) ?_ 0 _ rfl; (with_reducible repeat (first | refine blk_drewN ?_ _ | refine blk_drew ?_ | refine blk_alloc ?_ _)); exact BK903.out) k_ hk⟩)); (case aO => exact (by (with_reducible repeat (first | apply Kd.R_alloc | apply Kd.R_drewN | apply Kd.R_drew)); exact Kd.R_mono (Kd.R_far (p := ⟨gb903, 0, none⟩) (Kd.R_mono HO_11.out (fun k_ hk => (⟨hk, hk.2⟩ : _ ∧ k_ ≠ gb903))) (fun _ hk => hk.2) (.int .i64 (rd (rd_L1 l0 x8_1) t906))) (fun _ h => ⟨h.1.1, h.1.2⟩))); (case aS => exact (below_size Sh.bw)); (case aL => have := LMc39.out; omega); intro v910 w45 ho hb hg hat; rw [← Ny909.out] at ho; have n0_ := am_ (Kd.R_after (ok := (fun k_ => k_ ≠ gb903)) (by (with_reducible repeat (first | apply Kd.R_alloc | apply Kd.R_drewN | apply Kd.R_drew)); exact Kd.R_mono (Kd.R_far (p := ⟨gb903, 0, none⟩) (Kd.R_mono HO_896000.out (fun k_ hk => (⟨hk, hk.2⟩ : _ ∧ k_ ≠ gb903))) (fun _ hk => hk.2) (.int .i64 (rd (rd_L1 l0 x8_1) t906))) (fun _ h => ⟨h.1.2, h.1.1⟩)) hg hat); have n1_ := am_ (blk_grown (g := gb895) (o := .cells #[.slice (some ad904) t892.length co10] 31 (0, 0)) (by (with_reducible repeat (first | refine blk_drewN ?_ _ | refine blk_drew ?_ | refine blk_alloc ?_ _)); refine blk_far ?_ NB895_903.out _; (with_reducible repeat (first | refine blk_drewN ?_ _ | refine blk_drew ?_ | refine blk_alloc ?_ _)); exact BK895.out) hg (Kd.R_ne HO_11.out BK895.out (by decide))); have n2_ := am_ (blk_grown (g := gb903) (o := .cells #[.int .i64 (rd (rd_L1 l0 x8_1) t906)] 3 (0, 0)) (by (with_reducible repeat (first | refine blk_drewN ?_ _ | refine blk_drew ?_ | refine blk_alloc ?_ _)); refine blk_put (cs := #[.int .i64 x8_1]) ?_ 0 _ rfl; (with_reducible repeat (first | refine blk_drewN ?_ _ | refine blk_drew ?_ | refine blk_alloc ?_ _)); exact BK903.out) hg (Kd.R_away HO_11.out (fun _ hk => hk.2))); have n3_ := am_ (hb); have n4_ := am_ (ho); clear HO_896000; clear BK895; clear BK903; clear HB; clear HO_11; have HO_896000 := n0_; have BK895 := n1_; have BK903 := n2_; have HB := n3_; have HO911 := n4_; clear n0_ n1_ n2_ n3_ n4_; clear ho hb hg hat; have hcz46_0 := Sh.bc BK903.out 0; have hfz46_0 := blk_frozen BK903.out 0) | ((with_reducible refine gate_dst (N := 12) rfl ?_); refine Sh.bx (N := 12) (cs := #[.int .i64 0]) (t := 3) (h := ?_); intro gb912 hg w47 hbox hb; have n0_ := am_ (Kd.R_below (Kd.R_elderB (by (with_reducible repeat (first | apply Kd.R_alloc | apply Kd.R_drewN | apply Kd.R_drew)); exact HO_896000.out) gb912 (Nat.le_of_eq hg.symm)) hb); have n1_ := am_ (Kd.R_below (Kd.R_elderB (by (with_reducible repeat (first | apply Kd.R_alloc | apply Kd.R_drewN | apply Kd.R_drew)); exact HO911.out) gb912 (Nat.le_of_eq hg.symm)) hb); have n2_ := am_ (Sh.bb BK895.out hb); have n3_ := am_ (Sh.bb BK903.out hb); have n4_ := am_ (below_step Sh.bw hb); have n5_ := am_ (hbox); have n6_ := am_ (Sh.gw (w := w) hg); have n7_ := am_ (Sh.gw (w := w) hg); have n8_ := am_ (Sh.nl hg BK895.out); have n9_ := am_ (Sh.ng hg BK895.out); have n10_ := am_ (Sh.nl hg BK903.out); have n11_ := am_ (Sh.ng hg BK903.out); clear HO_896000; clear HO911; clear BK895; clear BK903; clear HB; have HO_896000 := n0_; have HO911 := n1_; have BK895 := n2_; have BK903 := n3_; have HB := n4_; have BK912 := n5_; have GW912 := n6_; have GE912 := n7_; have NB895_912 := n8_; have NB912_895 := n9_; have NB903_912 := n10_; have NB912_903 := n11_; clear n0_ n1_ n2_ n3_ n4_ n5_ n6_ n7_ n8_ n9_ n10_ n11_; clear hb hbox hg; have hnb48 := NB912_895.out; have hnc48 := NB895_912.out; have hnb49 := NB912_903.out; have hnc49 := NB903_912.out; have hcz50_0 := Sh.bc BK912.out 0; have hfz50_0 := blk_frozen BK912.out 0)); try go_wp2_with (first | (go_at_call 146; (with_reducible refine (slices_IndexFunc_int_int_146_by_impl_leastWay_1.calls _ _ (rd_L1 l0 x8_1) gb895 (some ad904) co10 t892 gb903 x8_1 t906 _ (Sh.cB HR905_0.out) HC905_0.out (Sh.cR (Kd.R_reads' HO_896000.out).2.2) (Kd.R_reads' HO_896000.out).2.1 ?side5 ?side6 ?side7 A36.out).mono ?_); (case side5 => (with_reducible repeat (first | refine blk_drewN ?_ _ | refine blk_drew ?_ | refine blk_alloc ?_ _)); exact BK895.out); (case side6 => (with_reducible repeat (first | refine blk_drewN ?_ _ | refine blk_drew ?_ | refine blk_alloc ?_ _)); exact BK903.out); (case side7 => exact NB895_903.out); rintro e w43 ⟨rfl, hb⟩; have n0_ := am_ (Kd.R_below (by (with_reducible repeat (first | apply Kd.R_alloc | apply Kd.R_drewN | apply Kd.R_drew)); exact HO_11.out) hb); have n1_ := am_ (Kd.R_below (by (with_reducible repeat (first | apply Kd.R_alloc | apply Kd.R_drewN | apply Kd.R_drew)); exact HO_896000.out) hb); have n2_ := am_ (Sh.bb BK895.out hb); have n3_ := am_ (Sh.bb BK903.out hb); have n4_ := am_ (below_step Sh.bw hb); clear HO_11; clear HO_896000; clear BK895; clear BK903; clear HB; have HO_11 := n0_; have HO_896000 := n1_; have BK895 := n2_; have BK903 := n3_; have HB := n4_; clear n0_ n1_ n2_ n3_ n4_; (try clear hb); (try clear hb2); (try clear hk); (try clear hi); have hcz44_0 := Sh.bc BK903.out 0; have hfz44_0 := blk_frozen BK903.out 0; have p907 : 0 ≤ (x8_1 : Int) := of_decide_eq_true (by first | (with_reducible assumption) | assumption); have q907 : x8_1 < (l0.length : Int) := of_decide_eq_true (by first | (with_reducible assumption) | assumption); obtain ⟨ad907, A907_0, c907_0, e907, hx907_0, hl907_0, hi907_0⟩ := at_L1 HR0.out x8_1 p907 q907; obtain rfl : ad905 = ad907 := (by injection e907); replace hx907_0 := (HB.out.cell (World.block_lt_of_cell? w _ hx907_0)).trans hx907_0; have HR907_0 := am_ hi907_0; have HC907_0 := am_ hl907_0; clear hi907_0 hl907_0; replace p907 := eq_true p907; replace q907 := eq_true q907; have p908 : 0 ≤ (t906 : Int) := of_decide_eq_true (by first | (with_reducible assumption) | assumption); have q908 : t906 < ((rd_L1 l0 x8_1).length : Int) := of_decide_eq_true (by first | (with_reducible assumption) | assumption); obtain ⟨ad908, e908, hx908_0⟩ := Kd.at_int HR907_0.out t906 p908 q908; cases e908; replace hx908_0 := (HB.out.cell (World.block_lt_of_cell? w _ hx908_0)).trans hx908_0; replace p908 := eq_true p908; replace q908 := eq_true q908) | ((with_reducible refine gate_builtin (b := .append) (xs := #[.tmp 69, .tmp 71]) rfl ?_); at_builtin; refine Kd.R_append (Kd.int .i64) (w0 := w) w.heap.size rfl (.tmp 69) (.tmp 71) 31 3 (.int .i64 0) 8 rfl Try.underlying31 info3 rfl (by decide) (by omega) u11 x11_2 (rd (rd_L1 l0 x8_1) t906) [.int .i64 (rd (rd_L1 l0 x8_1) t906)] (fun k_ => some k_ ≠ (.slice (some ad904) t892.length co10 : Value).ownBlock ∧ k_ ≠ gb903) (fun _ => False) rfl (by first | (go_simp; done) | (go_simp; rfl)) ?aP (fun _ hk => hk.elim) ?aF ?aO ?aB ?aS ?aL ?_; (case aP => exact rfl); (case aB => exact Sh.bw); (case aF => exact (fun k_ hk => ⟨Kd.fresh' (Kd.R_lt (by (with_reducible repeat (first | apply Kd.R_alloc | apply Kd.R_drewN | apply Kd.R_drew)); exact (Kd.R_mono (Kd.R_far (p := ⟨gb903, 0, none⟩) (Kd.R_mono HO_896000.out (fun k_ hk => (⟨hk, hk.2⟩ : _ ∧ k_ ≠ gb903))) (fun _ hk => hk.2) (.int .i64 (rd (rd_L1 l0 x8_1) t906))) (fun _ h_ => h_.1)))) k_ hk, Kd.freshB (g := gb903) (o := .cells #[.int .i64 (rd (rd_L1 l0 x8_1) t906)] 3 (0, 0)) (by (with_reducible repeat (first | refine blk_drewN ?_ _ | refine blk_drew ?_ | refine blk_alloc ?_ _)); refine blk_put (cs := #[.int .i64 x8_1]) ?_ 0 _ rfl; (with_reducible repeat (first | refine blk_drewN ?_ _ | refine blk_drew ?_ | refine blk_alloc ?_ _)); exact BK903.out) k_ hk⟩)); (case aO => exact (by (with_reducible repeat (first | apply Kd.R_alloc | apply Kd.R_drewN | apply Kd.R_drew)); exact Kd.R_mono (Kd.R_far (p := ⟨gb903, 0, none⟩) (Kd.R_mono HO_11.out (fun k_ hk => (⟨hk, hk.2⟩ : _ ∧ k_ ≠ gb903))) (fun _ hk => hk.2) (.int .i64 (rd (rd_L1 l0 x8_1) t906))) (fun _ h => ⟨h.1.1, h.1.2⟩))); (case aS => exact (below_size Sh.bw)); (case aL => have := LMc39.out; omega); intro v910 w45 ho hb hg hat; rw [← Ny909.out] at ho; have n0_ := am_ (Kd.R_after (ok := (fun k_ => k_ ≠ gb903)) (by (with_reducible repeat (first | apply Kd.R_alloc | apply Kd.R_drewN | apply Kd.R_drew)); exact Kd.R_mono (Kd.R_far (p := ⟨gb903, 0, none⟩) (Kd.R_mono HO_896000.out (fun k_ hk => (⟨hk, hk.2⟩ : _ ∧ k_ ≠ gb903))) (fun _ hk => hk.2) (.int .i64 (rd (rd_L1 l0 x8_1) t906))) (fun _ h => ⟨h.1.2, h.1.1⟩)) hg hat); have n1_ := am_ (blk_grown (g := gb895) (o := .cells #[.slice (some ad904) t892.length co10] 31 (0, 0)) (by (with_reducible repeat (first | refine blk_drewN ?_ _ | refine blk_drew ?_ | refine blk_alloc ?_ _)); refine blk_far ?_ NB895_903.out _; (with_reducible repeat (first | refine blk_drewN ?_ _ | refine blk_drew ?_ | refine blk_alloc ?_ _)); exact BK895.out) hg (Kd.R_ne HO_11.out BK895.out (by decide))); have n2_ := am_ (blk_grown (g := gb903) (o := .cells #[.int .i64 (rd (rd_L1 l0 x8_1) t906)] 3 (0, 0)) (by (with_reducible repeat (first | refine blk_drewN ?_ _ | refine blk_drew ?_ | refine blk_alloc ?_ _)); refine blk_put (cs := #[.int .i64 x8_1]) ?_ 0 _ rfl; (with_reducible repeat (first | refine blk_drewN ?_ _ | refine blk_drew ?_ | refine blk_alloc ?_ _)); exact BK903.out) hg (Kd.R_away HO_11.out (fun _ hk => hk.2))); have n3_ := am_ (hb); have n4_ := am_ (ho); clear HO_896000; clear BK895; clear BK903; clear HB; clear HO_11; have HO_896000 := n0_; have BK895 := n1_; have BK903 := n2_; have HB := n3_; have HO911 := n4_; clear n0_ n1_ n2_ n3_ n4_; clear ho hb hg hat; have hcz46_0 := Sh.bc BK903.out 0; have hfz46_0 := blk_frozen BK903.out 0) | ((with_reducible refine gate_dst (N := 12) rfl ?_); refine Sh.bx (N := 12) (cs := #[.int .i64 0]) (t := 3) (h := ?_); intro gb912 hg w47 hbox hb; have n0_ := am_ (Kd.R_below (Kd.R_elderB (by (with_reducible repeat (first | apply Kd.R_alloc | apply Kd.R_drewN | apply Kd.R_drew)); exact HO_896000.out) gb912 (Nat.le_of_eq hg.symm)) hb); have n1_ := am_ (Kd.R_below (Kd.R_elderB (by (with_reducible repeat (first | apply Kd.R_alloc | apply Kd.R_drewN | apply Kd.R_drew)); exact HO911.out) gb912 (Nat.le_of_eq hg.symm)) hb); have n2_ := am_ (Sh.bb BK895.out hb); have n3_ := am_ (Sh.bb BK903.out hb); have n4_ := am_ (below_step Sh.bw hb); have n5_ := am_ (hbox); have n6_ := am_ (Sh.gw (w := w) hg); have n7_ := am_ (Sh.gw (w := w) hg); have n8_ := am_ (Sh.nl hg BK895.out); have n9_ := am_ (Sh.ng hg BK895.out); have n10_ := am_ (Sh.nl hg BK903.out); have n11_ := am_ (Sh.ng hg BK903.out); clear HO_896000; clear HO911; clear BK895; clear BK903; clear HB; have HO_896000 := n0_; have HO911 := n1_; have BK895 := n2_; have BK903 := n3_; have HB := n4_; have BK912 := n5_; have GW912 := n6_; have GE912 := n7_; have NB895_912 := n8_; have NB912_895 := n9_; have NB903_912 := n10_; have NB912_903 := n11_; clear n0_ n1_ n2_ n3_ n4_ n5_ n6_ n7_ n8_ n9_ n10_ n11_; clear hb hbox hg; have hnb48 := NB912_895.out; have hnc48 := NB895_912.out; have hnb49 := NB912_903.out; have hnc49 := NB903_912.out; have hcz50_0 := Sh.bc BK912.out 0; have hfz50_0 := blk_frozen BK912.out 0)))
              go_roundg k2
              case measure => have := HK1.out; have := HK2.out; omega
              case rel => exact ⟨gb912, (rd (rd_L1 l0 x8_1) t906), (y909), rfl, H', ⟨by have := HK1.out; have := HK2.out; omega⟩, ⟨by (with_reducible repeat (first | apply Kd.R_alloc | apply Kd.R_drewN | apply Kd.R_drew)); exact Kd.R_mono (Kd.R_far (p := ⟨gb912, 0, none⟩) (Kd.R_mono HO911.out (fun k_ hk => (⟨hk, hk.2⟩ : _ ∧ k_ ≠ gb912))) (fun _ hk => hk.2) (.int .i64 (rd (rd_L1 l0 x8_1) t906))) (fun _ h => ⟨h.1.1.1, h.2⟩)⟩, ⟨by (with_reducible repeat (first | apply Kd.R_alloc | apply Kd.R_drewN | apply Kd.R_drew)); exact Kd.R_mono (Kd.R_far (p := ⟨gb912, 0, none⟩) (Kd.R_mono HO_896000.out (fun k_ hk => (⟨hk, hk.2⟩ : _ ∧ k_ ≠ gb912))) (fun _ hk => hk.2) (.int .i64 (rd (rd_L1 l0 x8_1) t906))) (fun _ h => ⟨h.1.1.2, h.2⟩)⟩, ⟨by (with_reducible repeat (first | refine blk_drewN ?_ _ | refine blk_drew ?_ | refine blk_alloc ?_ _)); refine blk_far ?_ NB895_912.out _; (with_reducible repeat (first | refine blk_drewN ?_ _ | refine blk_drew ?_ | refine blk_alloc ?_ _)); exact BK895.out⟩, ⟨by (with_reducible repeat (first | refine blk_drewN ?_ _ | refine blk_drew ?_ | refine blk_alloc ?_ _)); refine blk_put (cs := #[.int .i64 0]) ?_ 0 _ rfl; (with_reducible repeat (first | refine blk_drewN ?_ _ | refine blk_drew ?_ | refine blk_alloc ?_ _)); exact BK912.out⟩, ⟨by repeat (first | (with_reducible first | exact HB.out | apply below_alloc | apply pw_below_drewN | apply below_drew1 | refine below_set ?_ GE895.out | refine below_set ?_ GE903.out | refine below_set ?_ GE912.out) | exact HB.out)⟩, NB895_912, NB912_895, GE912, ⟨by rw [Ny909.out]; simp⟩⟩
             ·rw [if_neg c39] at H
              exact absurd H (by simp)
            ·rw [if_neg c38] at H
             exact absurd H (by simp)
           ·rw [if_neg c37] at H
            exact absurd H (by simp)
          ·rw [if_neg c35] at H
           exact absurd H (by simp)
         ·rw [if_neg c34] at H
          have c34b0 : decide (0 < (rd t892 x8_1)) = false := decide_eq_false c34
          clear c34
          obtain rfl := Option.some.inj H
          have hnb51 := NB895_903.out
          have hnc51 := NB903_895.out
          have hcz52_0 := Sh.bc BK895.out 0
          have hfz52_0 := blk_frozen BK895.out 0
          have hcz53_0 := Sh.bc BK903.out 0
          have hfz53_0 := blk_frozen BK903.out 0
          have p904 : 0 ≤ (x8_1 : Int) := of_decide_eq_true (by first | (with_reducible assumption) | assumption)
          have q904 : x8_1 < (t892.length : Int) := of_decide_eq_true (by first | (with_reducible assumption) | assumption)
          obtain ⟨ad904, e904, hx904_0⟩ := Kd.at_int (Kd.R_reads' HO_896000.out).2.2 x8_1 p904 q904
          cases e904
          replace p904 := eq_true p904
          replace q904 := eq_true q904
          go_wp2
          repeat (go_quiet (fail); try go_wp2)
          go_ret
          exact ⟨_, Sh.eR, fun h_ => by have h1_ := LE11.out; rw [h_] at h1_; exact absurd h1_ (by simp), by (with_reducible repeat (first | apply Kd.R_alloc | apply Kd.R_drewN | apply Kd.R_drew)); exact Kd.R_mono HO_11.out (fun _ hk => trivial), Sh.bw⟩
        ·rw [if_neg c33] at H
         exact absurd H (by simp)
       ·rw [if_neg c32] at H
        exact absurd H (by simp)

theorem impl_leastWay.calls (k : Nat) (A0 : Option Addr) (c0 : Nat) (l0 : List (List Int)) (A1 : Option Addr) (c1 : Nat) (l1 : List Int) (A2 : Option Addr) (c2 : Nat) (l2 : List Int) (r : List Int) (w : World) (hr0 : Kd.C (Kd.slice 3 (Kd.int .i64)) w A0 l0.length l0) (hc0 : l0.length ≤ c0) (hr1 : Kd.C (Kd.int .i64) w A1 l1.length l1) (hc1 : l1.length ≤ c1) (hr2 : Kd.C (Kd.int .i64) w A2 l2.length l2) (hc2 : l2.length ≤ c2) (h : impl_leastWay.f k l0 l1 l2 = some r) :
  Calls Try.prog 117 #[.slice A0 l0.length c0, .slice A1 l1.length c1, .slice A2 l2.length c2] w fun e w' => ∃ v0_ : Value, e = .returned (v0_) ∧ Kd.R (Kd.int .i64) 3 w' w.heap.size (fun _ => True) v0_ r ∧ Below w.heap.size w w' := by
 refine (impl_leastWay.calls2 k A0 c0 l0 A1 c1 l1 A2 c2 l2 r w hr0 hc0 hr1 hc1 hr2 hc2 h).mono fun e w' h_ => ?_
 obtain ⟨v, h1, _, h2⟩ := h_
 exact ⟨v, h1, h2⟩

end Go.Proofs.Ytbgbidgnlioomaa.P
namespace Go.Proofs.Ytbgbidgnlioomaa.P
open Go.RowKit Go.Proofs.YtbgbidgnlioomaaW.PrintWords Go.Proofs.YtbgbidgnlioomaaW.PrintLast Go.Proofs.YtbgbidgnlioomaaW.PrintMore Go.Proofs.Ytbgbidgnlioomaa.Hof
attribute [local go_sem] max2_int min2_int max_two min_two max_three min_three max_four min_four   -- for this text's walks alone
set_option linter.unusedVariables false
set_option linter.unusedSimpArgs false

/-! ### impl_ShortPath: function 60 -/
def impl_ShortPath.f (k : Nat) (l0_0 : List (List Int)) (l1 : List Int) (l2 : List Int) : Option (List Int × Bool) := (impl_isGraphFrom.f k l0_0 l1).bind fun t1 => (if t1 = true then ((impl_isIncreasing.f k l2 (l0_0.length : Int)).bind fun t2 => (if t2 = true then ((impl_leastWay.f k l0_0 l1 l2).bind fun r => some (r, !r.isEmpty)) else (some (([] : List Int), false)))) else (some (([] : List Int), false)))
theorem impl_ShortPath.mono : ∀ a0 a1 a2 k, LeO (impl_ShortPath.f k a0 a1 a2) (impl_ShortPath.f (k + 1) a0 a1 a2) := by
 intro a0 a1 a2 k
 unfold impl_ShortPath.f
 refine LeO.bind (impl_isGraphFrom.mono _ _ _) (fun t1 => LeO.ite (LeO.bind (impl_isIncreasing.mono _ _ _) (fun t2 => LeO.ite (LeO.bind (impl_leastWay.mono _ _ _ _) (fun _ => LeO.refl _)) (LeO.refl _))) (LeO.refl _))
set_option maxHeartbeats 8000000 in
set_option maxRecDepth 100000 in
theorem impl_ShortPath.calls (k : Nat) (A0_0 : Option Addr) (c0_0 : Nat) (l0_0 : List (List Int)) (A1 : Option Addr) (c1 : Nat) (l1 : List Int) (A2 : Option Addr) (c2 : Nat) (l2 : List Int) (r1 : List Int) (r2 : Bool) (w : World) (hr0_0 : Kd.C (Kd.slice 3 (Kd.int .i64)) w A0_0 l0_0.length l0_0) (hc0_0 : l0_0.length ≤ c0_0) (hr1 : Kd.C (Kd.int .i64) w A1 l1.length l1) (hc1 : l1.length ≤ c1) (hr2 : Kd.C (Kd.int .i64) w A2 l2.length l2) (hc2 : l2.length ≤ c2) (h : impl_ShortPath.f k l0_0 l1 l2 = some (r1, r2)) :
  Calls Try.prog 60 #[.agg #[.slice A0_0 l0_0.length c0_0], .slice A1 l1.length c1, .slice A2 l2.length c2] w fun e w' => ∃ v0_ : Value, e = .returned (.tuple #[v0_, .bool r2]) ∧ Kd.R (Kd.int .i64) 3 w' w.heap.size (fun _ => True) v0_ r1 ∧ Below w.heap.size w w' := by
 have hu := Try.underlying46
 have HR0_0 := am_ hr0_0
 have HC0_0 := am_ hc0_0
 have HR1 := am_ hr1
 have HC1 := am_ hc1
 have HR2 := am_ hr2
 have HC2 := am_ hc2
 clear hr0_0 hc0_0 hr1 hc1 hr2 hc2
 have HB := am_ (Below.refl w.heap.size w)
 have hsome : ∀ (w : World) (a : Addr) (n c : Nat), (binOp .neq 31 (.slice (some a) n c) (.slice none 0 0)).run Try.prog w = .ok (.bool true) w := fun _ _ _ _ => rfl
 have hnone : ∀ (w : World) (n c : Nat), (binOp .neq 31 (.slice none n c) (.slice none 0 0)).run Try.prog w = .ok (.bool false) w := fun _ _ _ => rfl
 unfold impl_ShortPath.f at h
 obtain ⟨t1, h1, h⟩ := Option.bind_eq_some_iff.mp h
 have E1 := am_ h1
 clear h1
 cases t1 with
 | false =>
  rw [if_neg (by simp)] at h
  simp only [Option.some.injEq, Prod.mk.injEq] at h
  obtain ⟨rfl, rfl⟩ := h
  go_enter Try.func60, Try.ntmps60
  go_wp2_with (first | ((with_reducible refine gate_dst (N := 3) rfl ?_); refine Sh.bx (N := 3) (cs := #[.slice A0_0 l0_0.length c0_0]) (t := 46) (h := ?_); intro g hg w1 hbox hb; have BK := am_ hbox; replace HB := am_ (below_step HB.out hb); clear hb hbox hg; have hczw1 : w1.cell? ⟨g, 0, none⟩ = some (.slice A0_0 l0_0.length c0_0) := (blk_cell BK.out 0).trans rfl; have hfzw1 := blk_frozen BK.out 0) | ((with_reducible refine gate_callee (f := 106) rfl ?_); refine Sh.gL (some 11) Try.func106 #[.agg #[.slice A0_0 l0_0.length c0_0], .slice A1 l1.length c1] (h := ?_); (with_reducible refine (impl_isGraphFrom.calls k _ _ l0_0 _ _ l1 false _ (Kd.C_below HR0_0.out HB.out) HC0_0.out (Kd.C_below HR1.out HB.out) HC1.out E1.out).mono ?_); rintro e w2 ⟨rfl, hb⟩; refine ⟨_, rfl, ?_⟩; replace BK := am_ (blk_below BK.out hb); replace HB := am_ (below_step HB.out hb); clear hb; have hczw2 : w2.cell? ⟨g, 0, none⟩ = some (.slice A0_0 l0_0.length c0_0) := (blk_cell BK.out 0).trans rfl; have hfzw2 := blk_frozen BK.out 0))
  go_ret2
  exact ⟨_, rfl, Kd.R_nil _ _ _ _ _, HB.out⟩
 | true =>
  rw [if_pos rfl] at h
  obtain ⟨t2, h2, h⟩ := Option.bind_eq_some_iff.mp h
  have E2 := am_ h2
  clear h2
  cases t2 with
  | false =>
   rw [if_neg (by simp)] at h
   simp only [Option.some.injEq, Prod.mk.injEq] at h
   obtain ⟨rfl, rfl⟩ := h
   go_enter Try.func60, Try.ntmps60
   go_wp2_with (first | ((with_reducible refine gate_dst (N := 3) rfl ?_); refine Sh.bx (N := 3) (cs := #[.slice A0_0 l0_0.length c0_0]) (t := 46) (h := ?_); intro g hg w1 hbox hb; have BK := am_ hbox; replace HB := am_ (below_step HB.out hb); clear hb hbox hg; have hczw1 : w1.cell? ⟨g, 0, none⟩ = some (.slice A0_0 l0_0.length c0_0) := (blk_cell BK.out 0).trans rfl; have hfzw1 := blk_frozen BK.out 0) | ((with_reducible refine gate_callee (f := 106) rfl ?_); refine Sh.gL (some 11) Try.func106 #[.agg #[.slice A0_0 l0_0.length c0_0], .slice A1 l1.length c1] (h := ?_); (with_reducible refine (impl_isGraphFrom.calls k _ _ l0_0 _ _ l1 true _ (Kd.C_below HR0_0.out HB.out) HC0_0.out (Kd.C_below HR1.out HB.out) HC1.out E1.out).mono ?_); rintro e w2 ⟨rfl, hb⟩; refine ⟨_, rfl, ?_⟩; replace BK := am_ (blk_below BK.out hb); replace HB := am_ (below_step HB.out hb); clear hb; have hczw2 : w2.cell? ⟨g, 0, none⟩ = some (.slice A0_0 l0_0.length c0_0) := (blk_cell BK.out 0).trans rfl; have hfzw2 := blk_frozen BK.out 0) | ((with_reducible refine gate_callee (f := 100) rfl ?_); (with_reducible refine gate_dst (N := 18) rfl ?_); refine gate_guard (by rfl) ?_; dsimp only; refine Sh.gL (some 18) Try.func100 #[.slice A2 l2.length c2, .int .i64 (l0_0.length : Int)] (h := ?_); (with_reducible refine (impl_isIncreasing.calls k _ _ l2 (l0_0.length : Int) false _ (Kd.C_below HR2.out HB.out) HC2.out E2.out).mono ?_); rintro e w3 ⟨rfl, hb0⟩; replace hb0 := hb0.below; have hb := hb0; clear hb0; refine ⟨_, rfl, ?_⟩; replace BK := am_ (blk_below BK.out hb); replace HB := am_ (below_step HB.out hb); clear hb; have hczw3 : w3.cell? ⟨g, 0, none⟩ = some (.slice A0_0 l0_0.length c0_0) := (blk_cell BK.out 0).trans rfl; have hfzw3 := blk_frozen BK.out 0))
   go_ret2
   exact ⟨_, rfl, Kd.R_nil _ _ _ _ _, HB.out⟩
  | true =>
   rw [if_pos rfl] at h
   obtain ⟨r, h3, h⟩ := Option.bind_eq_some_iff.mp h
   simp only [Option.some.injEq, Prod.mk.injEq] at h
   obtain ⟨rfl, rfl⟩ := h
   have E3 := am_ h3
   clear h3
   cases r with
   | nil =>
    go_enter Try.func60, Try.ntmps60
    go_wp2_with (first | ((with_reducible refine gate_dst (N := 3) rfl ?_); refine Sh.bx (N := 3) (cs := #[.slice A0_0 l0_0.length c0_0]) (t := 46) (h := ?_); intro g hg w1 hbox hb; have BK := am_ hbox; replace HB := am_ (below_step HB.out hb); clear hb hbox hg; have hczw1 : w1.cell? ⟨g, 0, none⟩ = some (.slice A0_0 l0_0.length c0_0) := (blk_cell BK.out 0).trans rfl; have hfzw1 := blk_frozen BK.out 0) | ((with_reducible refine gate_callee (f := 106) rfl ?_); refine Sh.gL (some 11) Try.func106 #[.agg #[.slice A0_0 l0_0.length c0_0], .slice A1 l1.length c1] (h := ?_); (with_reducible refine (impl_isGraphFrom.calls k _ _ l0_0 _ _ l1 true _ (Kd.C_below HR0_0.out HB.out) HC0_0.out (Kd.C_below HR1.out HB.out) HC1.out E1.out).mono ?_); rintro e w2 ⟨rfl, hb⟩; refine ⟨_, rfl, ?_⟩; replace BK := am_ (blk_below BK.out hb); replace HB := am_ (below_step HB.out hb); clear hb; have hczw2 : w2.cell? ⟨g, 0, none⟩ = some (.slice A0_0 l0_0.length c0_0) := (blk_cell BK.out 0).trans rfl; have hfzw2 := blk_frozen BK.out 0) | ((with_reducible refine gate_callee (f := 100) rfl ?_); (with_reducible refine gate_dst (N := 18) rfl ?_); refine gate_guard (by rfl) ?_; dsimp only; refine Sh.gL (some 18) Try.func100 #[.slice A2 l2.length c2, .int .i64 (l0_0.length : Int)] (h := ?_); (with_reducible refine (impl_isIncreasing.calls k _ _ l2 (l0_0.length : Int) true _ (Kd.C_below HR2.out HB.out) HC2.out E2.out).mono ?_); rintro e w3 ⟨rfl, hb0⟩; replace hb0 := hb0.below; have hb := hb0; clear hb0; refine ⟨_, rfl, ?_⟩; replace BK := am_ (blk_below BK.out hb); replace HB := am_ (below_step HB.out hb); clear hb; have hczw3 : w3.cell? ⟨g, 0, none⟩ = some (.slice A0_0 l0_0.length c0_0) := (blk_cell BK.out 0).trans rfl; have hfzw3 := blk_frozen BK.out 0) | ((with_reducible refine gate_callee (f := 117) rfl ?_); refine Sh.gL (some 25) Try.func117 #[.slice A0_0 l0_0.length c0_0, .slice A1 l1.length c1, .slice A2 l2.length c2] (h := ?_); (with_reducible refine (impl_leastWay.calls2 k _ _ l0_0 _ _ l1 _ _ l2 [] _ (Kd.C_below HR0_0.out HB.out) HC0_0.out (Kd.C_below HR1.out HB.out) HC1.out (Kd.C_below HR2.out HB.out) HC2.out E3.out).mono ?_); rintro e w4 ⟨v, rfl, hn, hR, hb⟩; have hv := hn rfl; subst hv; refine ⟨_, rfl, ?_⟩; replace HB := am_ (below_step HB.out hb); clear hb hR hn))
    go_ret2
    exact ⟨_, rfl, Kd.R_nil _ _ _ _ _, HB.out⟩
   | cons x t =>
    go_enter Try.func60, Try.ntmps60
    go_wp2_with (first | ((with_reducible refine gate_dst (N := 3) rfl ?_); refine Sh.bx (N := 3) (cs := #[.slice A0_0 l0_0.length c0_0]) (t := 46) (h := ?_); intro g hg w1 hbox hb; have BK := am_ hbox; replace HB := am_ (below_step HB.out hb); clear hb hbox hg; have hczw1 : w1.cell? ⟨g, 0, none⟩ = some (.slice A0_0 l0_0.length c0_0) := (blk_cell BK.out 0).trans rfl; have hfzw1 := blk_frozen BK.out 0) | ((with_reducible refine gate_callee (f := 106) rfl ?_); refine Sh.gL (some 11) Try.func106 #[.agg #[.slice A0_0 l0_0.length c0_0], .slice A1 l1.length c1] (h := ?_); (with_reducible refine (impl_isGraphFrom.calls k _ _ l0_0 _ _ l1 true _ (Kd.C_below HR0_0.out HB.out) HC0_0.out (Kd.C_below HR1.out HB.out) HC1.out E1.out).mono ?_); rintro e w2 ⟨rfl, hb⟩; refine ⟨_, rfl, ?_⟩; replace BK := am_ (blk_below BK.out hb); replace HB := am_ (below_step HB.out hb); clear hb; have hczw2 : w2.cell? ⟨g, 0, none⟩ = some (.slice A0_0 l0_0.length c0_0) := (blk_cell BK.out 0).trans rfl; have hfzw2 := blk_frozen BK.out 0) | ((with_reducible refine gate_callee (f := 100) rfl ?_); (with_reducible refine gate_dst (N := 18) rfl ?_); refine gate_guard (by rfl) ?_; dsimp only; refine Sh.gL (some 18) Try.func100 #[.slice A2 l2.length c2, .int .i64 (l0_0.length : Int)] (h := ?_); (with_reducible refine (impl_isIncreasing.calls k _ _ l2 (l0_0.length : Int) true _ (Kd.C_below HR2.out HB.out) HC2.out E2.out).mono ?_); rintro e w3 ⟨rfl, hb0⟩; replace hb0 := hb0.below; have hb := hb0; clear hb0; refine ⟨_, rfl, ?_⟩; replace BK := am_ (blk_below BK.out hb); replace HB := am_ (below_step HB.out hb); clear hb; have hczw3 : w3.cell? ⟨g, 0, none⟩ = some (.slice A0_0 l0_0.length c0_0) := (blk_cell BK.out 0).trans rfl; have hfzw3 := blk_frozen BK.out 0) | ((with_reducible refine gate_callee (f := 117) rfl ?_); refine Sh.gL (some 25) Try.func117 #[.slice A0_0 l0_0.length c0_0, .slice A1 l1.length c1, .slice A2 l2.length c2] (h := ?_); (with_reducible refine (impl_leastWay.calls2 k _ _ l0_0 _ _ l1 _ _ l2 (x :: t) _ (Kd.C_below HR0_0.out HB.out) HC0_0.out (Kd.C_below HR1.out HB.out) HC1.out (Kd.C_below HR2.out HB.out) HC2.out E3.out).mono ?_); rintro e w4 ⟨v, rfl, hn, hR, hb⟩; obtain ⟨g2, cap2, e2, _⟩ := Kd.R_form hR (Nat.succ_pos _); subst e2; refine ⟨_, rfl, ?_⟩; have HO := am_ (Kd.R_lower hR HB.out.size); replace HB := am_ (below_step HB.out hb); clear hb hR hn))
    go_ret2
    exact ⟨_, rfl, HO.out, HB.out⟩

end Go.Proofs.Ytbgbidgnlioomaa.P
namespace Go.Proofs.Ytbgbidgnlioomaa.P
open Go.RowKit Go.Proofs.YtbgbidgnlioomaaW.PrintWords Go.Proofs.YtbgbidgnlioomaaW.PrintLast Go.Proofs.YtbgbidgnlioomaaW.PrintMore Go.Proofs.Ytbgbidgnlioomaa.Hof
attribute [local go_sem] max2_int min2_int max_two min_two max_three min_three max_four min_four   -- for this text's walks alone
set_option linter.unusedVariables false
set_option linter.unusedSimpArgs false

/-! ### laws_FnExactShortPath: function 14, on its one way -/
open Go.Proofs.Ytbgbidgnlioomaa.Lw
def laws_FnExactShortPath.Holds (k : Nat) (l0_0 : List (List Int)) (l1 : List Int) (l2 : List Int) : Prop :=
 (1048576 < (l1.length : Int)) ∨ (¬ (1048576 < (l1.length : Int))) ∧ ((1048576 < (l2.length : Int)) ∨ (¬ (1048576 < (l2.length : Int))) ∧ (∃ s6 : Int, laws_szGraph.f k l0_0 1048576 = some s6 ∧ ((s6 < 0) ∨ (¬ (s6 < 0)) ∧ (∃ (y36 : List Int) (y37 : Bool) (m123 : Int) (y124 : List (List Int)) (m126 : Int) (y127 : List Int) (m129 : Int) (y130 : List Int) (m133 : Int) (y134 : List Int), laws_toGraph.f k l0_0 = some l0_0 ∧ laws_toIntS.f k l1 = some l1 ∧ laws_toIntS.f k l2 = some l2 ∧ spec_ShortPath.f k l0_0 l1 l2 = some (y36, y37) ∧ impl_ShortPath.f k l0_0 l1 l2 = some (y36, y37) ∧ laws_eqIntS.f k y36 y36 = some true ∧ laws_eqGraph.f k l0_0 l0_0 = some true ∧ laws_eqIntS.f k l1 l1 = some true ∧ laws_eqIntS.f k l2 l2 = some true ∧ laws_markGraph.f k l0_0 1 = some (m123, y124) ∧ laws_markIntS.f k l1 m123 = some (m126, y127) ∧ laws_markIntS.f k l2 m126 = some (m129, y130) ∧ laws_markIntS.f k y36 1 = some (m133, y134) ∧ laws_heldIntS.f k y134 1 = some m133 ∧ ¬ m129 < 0 ∧ ¬ m133 < 0))))
set_option maxHeartbeats 40000000 in
set_option maxRecDepth 100000 in
theorem laws_FnExactShortPath.calls (k : Nat) (A0_0 : Option Addr) (c0_0 : Nat) (l0_0 : List (List Int)) (A1 : Option Addr) (c1 : Nat) (l1 : List Int) (A2 : Option Addr) (c2 : Nat) (l2 : List Int) (w : World) (hr0_0 : Kd.C (Kd.slice 3 (Kd.int .i64)) w A0_0 l0_0.length l0_0) (hc0_0 : l0_0.length ≤ c0_0) (hr1 : Kd.C (Kd.int .i64) w A1 l1.length l1) (hc1 : l1.length ≤ c1) (hr2 : Kd.C (Kd.int .i64) w A2 l2.length l2) (hc2 : l2.length ≤ c2) (h : laws_FnExactShortPath.Holds k l0_0 l1 l2) :
  Calls Try.prog 14 #[.agg #[.slice A0_0 l0_0.length c0_0], .slice A1 l1.length c1, .slice A2 l2.length c2] w fun e w' => e = .returned (.bool true) ∧ Below w.heap.size w w' := by
 have hu44 := Try.underlying44
 have hu46 := Try.underlying46
 have HR0_0 := am_ hr0_0
 have HC0_0 := am_ hc0_0
 clear hr0_0 hc0_0
 have HR1 := am_ hr1
 have HC1 := am_ hc1
 clear hr1 hc1
 have HR2 := am_ hr2
 have HC2 := am_ hc2
 clear hr2 hc2
 have HB := am_ (Below.refl w.heap.size w)
 have NW : 0 ≤ w.heap.size := Nat.zero_le _
 rcases h with c | ⟨c, h⟩
 ·have cb : decide (1048576 < (l1.length : Int)) = true := decide_eq_true c
  clear c
  go_enter Try.func14, Try.ntmps14
  go_wp2_with (first | ((with_reducible refine gate_dst (N := 3) rfl ?_); refine Sh.bx (N := 3) (cs := #[.slice A0_0 l0_0.length c0_0]) (t := 44) (h := ?_); intro g1 hg w3 hbox hb; have BK2 := box_new (w := w) (W := w) HB.out hg hbox; have oa4 := new_g (W := w) hg NW; replace HB := am_ (below_step HB.out hb); replace NW := Nat.le_trans NW hb.size; replace NW := BK2.lt; clear hb hbox hg; have hczq5_0 : w3.cell? ⟨g1, 0, none⟩ = some (.slice A0_0 l0_0.length c0_0) := (blk_cell BK2.b 0).trans rfl; have hfzq5_0 := blk_frozen BK2.b 0))
  go_ret
  exact ⟨rfl, HB.out⟩
 have cb0 : decide (1048576 < (l1.length : Int)) = false := decide_eq_false c
 clear c
 rcases h with c | ⟨c, h⟩
 ·have cb : decide (1048576 < (l2.length : Int)) = true := decide_eq_true c
  clear c
  go_enter Try.func14, Try.ntmps14
  go_wp2_with (first | ((with_reducible refine gate_dst (N := 3) rfl ?_); refine Sh.bx (N := 3) (cs := #[.slice A0_0 l0_0.length c0_0]) (t := 44) (h := ?_); intro g1 hg w3 hbox hb; have BK2 := box_new (w := w) (W := w) HB.out hg hbox; have oa4 := new_g (W := w) hg NW; replace HB := am_ (below_step HB.out hb); replace NW := Nat.le_trans NW hb.size; replace NW := BK2.lt; clear hb hbox hg; have hczq5_0 : w3.cell? ⟨g1, 0, none⟩ = some (.slice A0_0 l0_0.length c0_0) := (blk_cell BK2.b 0).trans rfl; have hfzq5_0 := blk_frozen BK2.b 0))
  go_ret
  exact ⟨rfl, HB.out⟩
 have cb1 : decide (1048576 < (l2.length : Int)) = false := decide_eq_false c
 clear c
 obtain ⟨s6, ESs6, h⟩ := h
 replace ESs6 := am_ ESs6
 rcases h with c | ⟨c, h⟩
 ·have cb : decide (s6 < 0) = true := decide_eq_true c
  clear c
  go_enter Try.func14, Try.ntmps14
  go_wp2_with (first | ((with_reducible refine gate_dst (N := 3) rfl ?_); refine Sh.bx (N := 3) (cs := #[.slice A0_0 l0_0.length c0_0]) (t := 44) (h := ?_); intro g1 hg w3 hbox hb; have BK2 := box_new (w := w) (W := w) HB.out hg hbox; have oa4 := new_g (W := w) hg NW; replace HB := am_ (below_step HB.out hb); replace NW := Nat.le_trans NW hb.size; replace NW := BK2.lt; clear hb hbox hg; have hczq5_0 : w3.cell? ⟨g1, 0, none⟩ = some (.slice A0_0 l0_0.length c0_0) := (blk_cell BK2.b 0).trans rfl; have hfzq5_0 := blk_frozen BK2.b 0) | ((with_reducible refine gate_callee (f := 29) rfl ?_); refine Sh.gL (some 28) Try.func29 #[.agg #[.slice A0_0 l0_0.length c0_0], .int .i64 1048576] (h := ?_); (with_reducible refine (laws_szGraph.calls k _ _ l0_0 1048576 s6 _ (Kd.C_below HR0_0.out HB.out) HC0_0.out ESs6.out).mono ?_); rintro e w7 ⟨rfl, hb⟩; refine ⟨_, rfl, ?_⟩; replace BK2 := BK2.same hb; replace HB := am_ (below_step HB.out hb); replace NW := Nat.le_trans NW hb.size; clear hb; have hczq8_0 : w7.cell? ⟨g1, 0, none⟩ = some (.slice A0_0 l0_0.length c0_0) := (blk_cell BK2.b 0).trans rfl; have hfzq8_0 := blk_frozen BK2.b 0))
  go_ret
  exact ⟨rfl, HB.out⟩
 have cb2 : decide (s6 < 0) = false := decide_eq_false c
 clear c
 obtain ⟨y36, y37, m123, y124, m126, y127, m129, y130, m133, y134, E1, E2, E3, E4, E5, E6, E7, E8, E9, E10, E11, E12, E13, E14, cd0, cd1⟩ := h
 replace E1 := am_ E1
 replace E2 := am_ E2
 replace E3 := am_ E3
 replace E4 := am_ E4
 replace E5 := am_ E5
 replace E6 := am_ E6
 replace E7 := am_ E7
 replace E8 := am_ E8
 replace E9 := am_ E9
 replace E10 := am_ E10
 replace E11 := am_ E11
 replace E12 := am_ E12
 replace E13 := am_ E13
 replace E14 := am_ E14
 have ce0 : decide (m129 < 0) = false := decide_eq_false cd0
 clear cd0
 have ce1 : decide (m133 < 0) = false := decide_eq_false cd1
 clear cd1
 have cr0 : (y37 != y37) = false := bne_self_eq_false _
 go_enter Try.func14, Try.ntmps14
 go_upto_region 16 with (first | ((with_reducible refine gate_dst (N := 3) rfl ?_); refine Sh.bx (N := 3) (cs := #[.slice A0_0 l0_0.length c0_0]) (t := 44) (h := ?_); intro g1 hg w3 hbox hb; have BK2 := box_new (w := w) (W := w) HB.out hg hbox; have oa4 := new_g (W := w) hg NW; replace HB := am_ (below_step HB.out hb); replace NW := Nat.le_trans NW hb.size; replace NW := BK2.lt; clear hb hbox hg; have hczq5_0 : w3.cell? ⟨g1, 0, none⟩ = some (.slice A0_0 l0_0.length c0_0) := (blk_cell BK2.b 0).trans rfl; have hfzq5_0 := blk_frozen BK2.b 0) | ((with_reducible refine gate_callee (f := 29) rfl ?_); refine Sh.gL (some 28) Try.func29 #[.agg #[.slice A0_0 l0_0.length c0_0], .int .i64 1048576] (h := ?_); (with_reducible refine (laws_szGraph.calls k _ _ l0_0 1048576 s6 _ (Kd.C_below HR0_0.out HB.out) HC0_0.out ESs6.out).mono ?_); rintro e w7 ⟨rfl, hb⟩; refine ⟨_, rfl, ?_⟩; replace BK2 := BK2.same hb; replace HB := am_ (below_step HB.out hb); replace NW := Nat.le_trans NW hb.size; clear hb; have hczq8_0 : w7.cell? ⟨g1, 0, none⟩ = some (.slice A0_0 l0_0.length c0_0) := (blk_cell BK2.b 0).trans rfl; have hfzq8_0 := blk_frozen BK2.b 0) | ((with_reducible refine gate_callee (f := 31) rfl ?_); refine Sh.gL (some 33) Try.func31 #[.agg #[.slice A0_0 l0_0.length c0_0]] (h := ?_); (with_reducible refine (laws_toGraph.calls k _ _ l0_0 l0_0 _ (Kd.C_below HR0_0.out HB.out) HC0_0.out E1.out).mono ?_); rintro e w9 ⟨v0_, rfl, ho0, hb⟩; refine ⟨_, rfl, ?_⟩; obtain ⟨lo11, hi12, HO10, oa13, ob14, NW2⟩ := new1 (F := fun lo_ hi_ => HeldS (Kd.slice 3 (Kd.int .i64)) 31 w9 w.heap.size lo_ hi_ v0_ l0_0) (heldS_new ho0 hb HB.out) hb NW; replace BK2 := BK2.same hb; replace HB := am_ (below_step HB.out hb); replace NW := Nat.le_trans NW hb.size; replace NW := NW2; skip; obtain ⟨A15, c16, e17⟩ := HO10.slice; subst e17; clear hb ho0) | ((with_reducible refine gate_callee (f := 50) rfl ?_); refine Sh.gL (some 35) Try.func50 #[.slice A1 l1.length c1] (h := ?_); (with_reducible refine (laws_toIntS.calls k _ _ l1 l1 _ (Kd.C_below HR1.out HB.out) HC1.out E2.out).mono ?_); rintro e w18 ⟨v0_, rfl, ho0, hb⟩; refine ⟨_, rfl, ?_⟩; obtain ⟨lo20, hi21, HO19, oa22, ob23, NW2⟩ := new1 (F := fun lo_ hi_ => Held (Kd.int .i64) 3 w18 w.heap.size lo_ hi_ v0_ l1) (held_new ho0 hb HB.out) hb NW; replace BK2 := BK2.same hb; replace HO10 := HO10.same hb; replace HB := am_ (below_step HB.out hb); replace NW := Nat.le_trans NW hb.size; replace NW := NW2; skip; obtain ⟨A24, c25, e26⟩ := HO19.slice; subst e26; clear hb ho0) | ((with_reducible refine gate_callee (f := 50) rfl ?_); refine Sh.gL (some 37) Try.func50 #[.slice A2 l2.length c2] (h := ?_); (with_reducible refine (laws_toIntS.calls k _ _ l2 l2 _ (Kd.C_below HR2.out HB.out) HC2.out E3.out).mono ?_); rintro e w27 ⟨v0_, rfl, ho0, hb⟩; refine ⟨_, rfl, ?_⟩; obtain ⟨lo29, hi30, HO28, oa31, ob32, NW2⟩ := new1 (F := fun lo_ hi_ => Held (Kd.int .i64) 3 w27 w.heap.size lo_ hi_ v0_ l2) (held_new ho0 hb HB.out) hb NW; replace BK2 := BK2.same hb; replace HO10 := HO10.same hb; replace HO19 := HO19.same hb; replace HB := am_ (below_step HB.out hb); replace NW := Nat.le_trans NW hb.size; replace NW := NW2; skip; obtain ⟨A33, c34, e35⟩ := HO28.slice; subst e35; clear hb ho0) | ((with_reducible refine gate_callee (f := 59) rfl ?_); refine Sh.gL (some 38) Try.func59 #[.agg #[.slice A15 l0_0.length c16], .slice A24 l1.length c25, .slice A33 l2.length c34] (h := ?_); (with_reducible refine (spec_ShortPath.calls k _ _ l0_0 _ _ l1 _ _ l2 y36 y37 _ HO10.C HO10.c HO19.C HO19.c HO28.C HO28.c E4.out).mono ?_); rintro e w38 ⟨v0_, rfl, ho0, hb⟩; refine ⟨_, rfl, ?_⟩; obtain ⟨lo40, hi41, HO39, oa42, ob43, NW2⟩ := new1 (F := fun lo_ hi_ => Held (Kd.int .i64) 3 w38 w.heap.size lo_ hi_ v0_ y36) (held_new ho0 hb HB.out) hb NW; replace BK2 := BK2.same hb; replace HO10 := HO10.same hb; replace HO19 := HO19.same hb; replace HO28 := HO28.same hb; replace HB := am_ (below_step HB.out hb); replace NW := Nat.le_trans NW hb.size; replace NW := NW2; skip; obtain ⟨A44, c45, e46⟩ := HO39.slice; subst e46; clear hb ho0; have hczq47_0 : w38.cell? ⟨g1, 0, none⟩ = some (.slice A0_0 l0_0.length c0_0) := (blk_cell BK2.b 0).trans rfl; have hfzq47_0 := blk_frozen BK2.b 0) | ((with_reducible refine gate_callee (f := 31) rfl ?_); refine Sh.gL (some 42) Try.func31 #[.agg #[.slice A0_0 l0_0.length c0_0]] (h := ?_); (with_reducible refine (laws_toGraph.calls k _ _ l0_0 l0_0 _ (Kd.C_below HR0_0.out HB.out) HC0_0.out E1.out).mono ?_); rintro e w48 ⟨v0_, rfl, ho0, hb⟩; refine ⟨_, rfl, ?_⟩; obtain ⟨lo50, hi51, HO49, oa52, ob53, NW2⟩ := new1 (F := fun lo_ hi_ => HeldS (Kd.slice 3 (Kd.int .i64)) 31 w48 w.heap.size lo_ hi_ v0_ l0_0) (heldS_new ho0 hb HB.out) hb NW; replace BK2 := BK2.same hb; replace HO10 := HO10.same hb; replace HO19 := HO19.same hb; replace HO28 := HO28.same hb; replace HO39 := HO39.same hb; replace HB := am_ (below_step HB.out hb); replace NW := Nat.le_trans NW hb.size; replace NW := NW2; skip; obtain ⟨A54, c55, e56⟩ := HO49.slice; subst e56; clear hb ho0) | ((with_reducible refine gate_dst (N := 10) rfl ?_); refine Sh.bx (N := 10) (cs := #[.slice none 0 0]) (t := 46) (h := ?_); intro g57 hg w59 hbox hb; have BK58 := box_new (w := w) (W := w48) HB.out hg hbox; have oa60 := new_g (W := w48) hg NW; replace BK2 := BK2.same hb; replace HO10 := HO10.same hb; replace HO19 := HO19.same hb; replace HO28 := HO28.same hb; replace HO39 := HO39.same hb; replace HO49 := HO49.same hb; replace HB := am_ (below_step HB.out hb); replace NW := Nat.le_trans NW hb.size; replace NW := BK58.lt; clear hb hbox hg) | ((with_reducible refine gate_ (.store 46 (.tmp 10) (.tmp 42)) rfl ?_); refine store_event 10 (.tmp 42) rfl rfl rfl BK58 rfl [.slice A54 l0_0.length c55] rfl rfl ?hs rfl ?h1 ?_; (case hs => kernel_rfl); (case h1 => (simp only [List.mem_cons, List.not_mem_nil, or_false]; (repeat' (first | (rintro _ (rfl | h_); rfl; revert h_) | rintro _ rfl)); all_goals rfl)); intro w61 hbx hb hk; replace BK2 := BK2.move hk (by omega); replace HO10 := HO10.move hk (by omega); replace HO19 := HO19.move hk (by omega); replace HO28 := HO28.move hk (by omega); replace HO39 := HO39.move hk (by omega); replace HO49 := HO49.move hk (by omega); replace BK58 := hbx; replace NW := Nat.le_trans NW hk.1; replace HB := am_ (HB.out.trans hb); clear hk hb) | ((with_reducible refine gate_callee (f := 50) rfl ?_); refine Sh.gL (some 44) Try.func50 #[.slice A1 l1.length c1] (h := ?_); (with_reducible refine (laws_toIntS.calls k _ _ l1 l1 _ (Kd.C_below HR1.out HB.out) HC1.out E2.out).mono ?_); rintro e w62 ⟨v0_, rfl, ho0, hb⟩; refine ⟨_, rfl, ?_⟩; obtain ⟨lo64, hi65, HO63, oa66, ob67, NW2⟩ := new1 (F := fun lo_ hi_ => Held (Kd.int .i64) 3 w62 w.heap.size lo_ hi_ v0_ l1) (held_new ho0 hb HB.out) hb NW; replace BK2 := BK2.same hb; replace HO10 := HO10.same hb; replace HO19 := HO19.same hb; replace HO28 := HO28.same hb; replace HO39 := HO39.same hb; replace HO49 := HO49.same hb; replace BK58 := BK58.same hb; replace HB := am_ (below_step HB.out hb); replace NW := Nat.le_trans NW hb.size; replace NW := NW2; skip; obtain ⟨A68, c69, e70⟩ := HO63.slice; subst e70; clear hb ho0) | ((with_reducible refine gate_callee (f := 50) rfl ?_); refine Sh.gL (some 46) Try.func50 #[.slice A2 l2.length c2] (h := ?_); (with_reducible refine (laws_toIntS.calls k _ _ l2 l2 _ (Kd.C_below HR2.out HB.out) HC2.out E3.out).mono ?_); rintro e w71 ⟨v0_, rfl, ho0, hb⟩; refine ⟨_, rfl, ?_⟩; obtain ⟨lo73, hi74, HO72, oa75, ob76, NW2⟩ := new1 (F := fun lo_ hi_ => Held (Kd.int .i64) 3 w71 w.heap.size lo_ hi_ v0_ l2) (held_new ho0 hb HB.out) hb NW; replace BK2 := BK2.same hb; replace HO10 := HO10.same hb; replace HO19 := HO19.same hb; replace HO28 := HO28.same hb; replace HO39 := HO39.same hb; replace HO49 := HO49.same hb; replace BK58 := BK58.same hb; replace HO63 := HO63.same hb; replace HB := am_ (below_step HB.out hb); replace NW := Nat.le_trans NW hb.size; replace NW := NW2; skip; obtain ⟨A77, c78, e79⟩ := HO72.slice; subst e79; clear hb ho0; have hczq80_0 : w71.cell? ⟨g57, 0, none⟩ = some (.slice A54 l0_0.length c55) := (blk_cell BK58.b 0).trans rfl; have hfzq80_0 := blk_frozen BK58.b 0) | ((with_reducible refine gate_callee (f := 60) rfl ?_); refine Sh.gL (some 51) Try.func60 #[.agg #[.slice A54 l0_0.length c55], .slice A68 l1.length c69, .slice A77 l2.length c78] (h := ?_); (with_reducible refine (impl_ShortPath.calls k _ _ l0_0 _ _ l1 _ _ l2 y36 y37 _ HO49.C HO49.c HO63.C HO63.c HO72.C HO72.c E5.out).mono ?_); rintro e w81 ⟨v0_, rfl, ho0, hb⟩; refine ⟨_, rfl, ?_⟩; obtain ⟨lo83, hi84, HO82, oa85, ob86, NW2⟩ := new1 (F := fun lo_ hi_ => Held (Kd.int .i64) 3 w81 w.heap.size lo_ hi_ v0_ y36) (held_new ho0 hb HB.out) hb NW; replace BK2 := BK2.same hb; replace HO10 := HO10.same hb; replace HO19 := HO19.same hb; replace HO28 := HO28.same hb; replace HO39 := HO39.same hb; replace HO49 := HO49.same hb; replace BK58 := BK58.same hb; replace HO63 := HO63.same hb; replace HO72 := HO72.same hb; replace HB := am_ (below_step HB.out hb); replace NW := Nat.le_trans NW hb.size; replace NW := NW2; skip; obtain ⟨A87, c88, e89⟩ := HO82.slice; subst e89; clear hb ho0) | ((with_reducible refine gate_callee (f := 52) rfl ?_); refine Sh.gL (some 56) Try.func52 #[.slice A87 y36.length c88, .slice A44 y36.length c45] (h := ?_); (with_reducible refine (laws_eqIntS.calls k _ _ y36 _ _ y36 true _ HO82.C HO82.c HO39.C HO39.c E6.out).mono ?_); rintro e w90 ⟨rfl, hb⟩; refine ⟨_, rfl, ?_⟩; replace hb := hb.below; replace BK2 := BK2.same hb; replace HO10 := HO10.same hb; replace HO19 := HO19.same hb; replace HO28 := HO28.same hb; replace HO39 := HO39.same hb; replace HO49 := HO49.same hb; replace BK58 := BK58.same hb; replace HO63 := HO63.same hb; replace HO72 := HO72.same hb; replace HO82 := HO82.same hb; replace HB := am_ (below_step HB.out hb); replace NW := Nat.le_trans NW hb.size; clear hb))
 (try simp only [Act.put, List.setIfInBounds_toArray, List.set_cons_zero, List.set_cons_succ])
 try go_wp2
 have hb : Below w90.heap.size w90 w90.drew := below_drew (Below.refl _ _)
 replace BK2 := BK2.same hb
 replace HO10 := HO10.same hb
 replace HO19 := HO19.same hb
 replace HO28 := HO28.same hb
 replace HO39 := HO39.same hb
 replace HO49 := HO49.same hb
 replace BK58 := BK58.same hb
 replace HO63 := HO63.same hb
 replace HO72 := HO72.same hb
 replace HO82 := HO82.same hb
 replace HB := am_ (below_step HB.out hb)
 replace NW := Nat.le_trans NW hb.size
 clear hb
 have hL_ : 0 ≤ 0 := Nat.le_refl 0
 refine start_ (n := 5) (S := fun w' => w'.cell? ⟨g57, 0, none⟩ = some (.slice A54 l0_0.length c55) ∧ w'.cell? ⟨g1, 0, none⟩ = some (.slice A0_0 l0_0.length c0_0)) (ds := []) #[false, false, false, false, false] (by kernel_rfl) rfl rfl ⟨(blk_cell BK58.b 0).trans rfl, (blk_cell BK2.b 0).trans rfl⟩ (fun hHeld => ?_)
 generalize w90.drew = w91 at BK2 HO10 HO19 HO28 HO39 HO49 BK58 HO63 HO72 HO82 HB NW hHeld ⊢
 clear hL_
 refine Sh.tA 0 63 #[true, false, false, false, false] (by kernel_rfl) hHeld ?_ (hy := by rintro w' ⟨s0, s1⟩; go_simp; with_reducible rfl)
 refine Sh.tA 1 64 #[true, true, false, false, false] (by kernel_rfl) hHeld ?_ (hy := by rintro w' ⟨s0, s1⟩; go_simp; with_reducible rfl)
 refine one_ (i := 2) (N := some 65) #[true, true, true, false, false] rfl rfl (by kernel_rfl) (by decide) (fun K hK => ?_)
 refine goes_ Try.func31 (by kernel_rfl) rfl #[.agg #[.slice A0_0 l0_0.length c0_0]] (by rfl) rfl rfl (by (try simp only [List.map_toArray, List.map_cons, List.map_nil]); first | done | rfl | (simp only [List.length_drop, List.length_take]; rfl)) ?_
 with_reducible refine (laws_toGraph.calls k _ _ l0_0 l0_0 _ (Kd.C_below HR0_0.out HB.out) HC0_0.out E1.out).mono ?_
 rintro e w92 ⟨v0_, rfl, ho0, hb⟩
 refine ⟨_, rfl, ?_⟩
 obtain ⟨lo94, hi95, HO93, oa96, ob97, NW2⟩ := new1 (F := fun lo_ hi_ => HeldS (Kd.slice 3 (Kd.int .i64)) 31 w92 w.heap.size lo_ hi_ v0_ l0_0) (heldS_new ho0 hb HB.out) hb NW
 replace BK2 := BK2.same hb
 replace HO10 := HO10.same hb
 replace HO19 := HO19.same hb
 replace HO28 := HO28.same hb
 replace HO39 := HO39.same hb
 replace HO49 := HO49.same hb
 replace BK58 := BK58.same hb
 replace HO63 := HO63.same hb
 replace HO72 := HO72.same hb
 replace HO82 := HO82.same hb
 replace HB := am_ (below_step HB.out hb)
 replace NW := Nat.le_trans NW hb.size
 replace NW := NW2
 skip
 obtain ⟨A98, c99, e100⟩ := HO93.slice
 subst e100
 clear hb ho0
 refine hK.out _ _ ⟨(blk_cell BK58.b 0).trans rfl, (blk_cell BK2.b 0).trans rfl⟩ (fun hHeld => ?_)
 clear hK K
 refine norm_ (a' := ?_) ?_ ?_
 rotate_left
 ·show Act.put _ (some 65) _ = _
  simp only [Act.put, List.setIfInBounds_toArray, List.set_cons_zero, List.set_cons_succ, i64_w, i32_w]
  rfl
 refine one_ (i := 3) (N := some 66) #[true, true, true, true, false] rfl rfl (by kernel_rfl) (by decide) (fun K hK => ?_)
 refine goes_ Try.func33 (by kernel_rfl) rfl #[.agg #[.slice A54 l0_0.length c55], .agg #[.slice A98 l0_0.length c99]] (by rfl) rfl rfl (by (try simp only [List.map_toArray, List.map_cons, List.map_nil]); first | done | rfl | (simp only [List.length_drop, List.length_take]; rfl)) ?_
 with_reducible refine (laws_eqGraph.calls k _ _ l0_0 _ _ l0_0 true _ HO49.C HO49.c HO93.C HO93.c E7.out).mono ?_
 rintro e w101 ⟨rfl, hb⟩
 refine ⟨_, rfl, ?_⟩
 replace BK2 := BK2.same hb
 replace HO10 := HO10.same hb
 replace HO19 := HO19.same hb
 replace HO28 := HO28.same hb
 replace HO39 := HO39.same hb
 replace HO49 := HO49.same hb
 replace BK58 := BK58.same hb
 replace HO63 := HO63.same hb
 replace HO72 := HO72.same hb
 replace HO82 := HO82.same hb
 replace HO93 := HO93.same hb
 replace HB := am_ (below_step HB.out hb)
 replace NW := Nat.le_trans NW hb.size
 clear hb
 refine hK.out _ _ ⟨(blk_cell BK58.b 0).trans rfl, (blk_cell BK2.b 0).trans rfl⟩ (fun hHeld => ?_)
 clear hK K
 refine norm_ (a' := ?_) ?_ ?_
 rotate_left
 ·show Act.put _ (some 66) _ = _
  simp only [Act.put, List.setIfInBounds_toArray, List.set_cons_zero, List.set_cons_succ, i64_w, i32_w]
  rfl
 refine Sh.pA 4 67 #[true, true, true, true, true] (by kernel_rfl) ?_
 refine done_ (by kernel_rfl) ?_
 go_wp2_with (first | ((with_reducible refine gate_callee (f := 50) rfl ?_); refine Sh.gL (some 70) Try.func50 #[.slice A1 l1.length c1] (h := ?_); (with_reducible refine (laws_toIntS.calls k _ _ l1 l1 _ (Kd.C_below HR1.out HB.out) HC1.out E2.out).mono ?_); rintro e w102 ⟨v0_, rfl, ho0, hb⟩; refine ⟨_, rfl, ?_⟩; obtain ⟨lo104, hi105, HO103, oa106, ob107, NW2⟩ := new1 (F := fun lo_ hi_ => Held (Kd.int .i64) 3 w102 w.heap.size lo_ hi_ v0_ l1) (held_new ho0 hb HB.out) hb NW; replace BK2 := BK2.same hb; replace HO10 := HO10.same hb; replace HO19 := HO19.same hb; replace HO28 := HO28.same hb; replace HO39 := HO39.same hb; replace HO49 := HO49.same hb; replace BK58 := BK58.same hb; replace HO63 := HO63.same hb; replace HO72 := HO72.same hb; replace HO82 := HO82.same hb; replace HO93 := HO93.same hb; replace HB := am_ (below_step HB.out hb); replace NW := Nat.le_trans NW hb.size; replace NW := NW2; skip; obtain ⟨A108, c109, e110⟩ := HO103.slice; subst e110; clear hb ho0) | ((with_reducible refine gate_callee (f := 52) rfl ?_); refine Sh.gL (some 71) Try.func52 #[.slice A68 l1.length c69, .slice A108 l1.length c109] (h := ?_); (with_reducible refine (laws_eqIntS.calls k _ _ l1 _ _ l1 true _ HO63.C HO63.c HO103.C HO103.c E8.out).mono ?_); rintro e w111 ⟨rfl, hb⟩; refine ⟨_, rfl, ?_⟩; replace hb := hb.below; replace BK2 := BK2.same hb; replace HO10 := HO10.same hb; replace HO19 := HO19.same hb; replace HO28 := HO28.same hb; replace HO39 := HO39.same hb; replace HO49 := HO49.same hb; replace BK58 := BK58.same hb; replace HO63 := HO63.same hb; replace HO72 := HO72.same hb; replace HO82 := HO82.same hb; replace HO93 := HO93.same hb; replace HO103 := HO103.same hb; replace HB := am_ (below_step HB.out hb); replace NW := Nat.le_trans NW hb.size; clear hb) | ((with_reducible refine gate_callee (f := 50) rfl ?_); refine Sh.gL (some 75) Try.func50 #[.slice A2 l2.length c2] (h := ?_); (with_reducible refine (laws_toIntS.calls k _ _ l2 l2 _ (Kd.C_below HR2.out HB.out) HC2.out E3.out).mono ?_); rintro e w112 ⟨v0_, rfl, ho0, hb⟩; refine ⟨_, rfl, ?_⟩; obtain ⟨lo114, hi115, HO113, oa116, ob117, NW2⟩ := new1 (F := fun lo_ hi_ => Held (Kd.int .i64) 3 w112 w.heap.size lo_ hi_ v0_ l2) (held_new ho0 hb HB.out) hb NW; replace BK2 := BK2.same hb; replace HO10 := HO10.same hb; replace HO19 := HO19.same hb; replace HO28 := HO28.same hb; replace HO39 := HO39.same hb; replace HO49 := HO49.same hb; replace BK58 := BK58.same hb; replace HO63 := HO63.same hb; replace HO72 := HO72.same hb; replace HO82 := HO82.same hb; replace HO93 := HO93.same hb; replace HO103 := HO103.same hb; replace HB := am_ (below_step HB.out hb); replace NW := Nat.le_trans NW hb.size; replace NW := NW2; skip; obtain ⟨A118, c119, e120⟩ := HO113.slice; subst e120; clear hb ho0) | ((with_reducible refine gate_callee (f := 52) rfl ?_); refine Sh.gL (some 76) Try.func52 #[.slice A77 l2.length c78, .slice A118 l2.length c119] (h := ?_); (with_reducible refine (laws_eqIntS.calls k _ _ l2 _ _ l2 true _ HO72.C HO72.c HO113.C HO113.c E9.out).mono ?_); rintro e w121 ⟨rfl, hb⟩; refine ⟨_, rfl, ?_⟩; replace hb := hb.below; replace BK2 := BK2.same hb; replace HO10 := HO10.same hb; replace HO19 := HO19.same hb; replace HO28 := HO28.same hb; replace HO39 := HO39.same hb; replace HO49 := HO49.same hb; replace BK58 := BK58.same hb; replace HO63 := HO63.same hb; replace HO72 := HO72.same hb; replace HO82 := HO82.same hb; replace HO93 := HO93.same hb; replace HO103 := HO103.same hb; replace HO113 := HO113.same hb; replace HB := am_ (below_step HB.out hb); replace NW := Nat.le_trans NW hb.size; clear hb; have hczq122_0 : w121.cell? ⟨g57, 0, none⟩ = some (.slice A54 l0_0.length c55) := (blk_cell BK58.b 0).trans rfl; have hfzq122_0 := blk_frozen BK58.b 0) | ((with_reducible refine gate_callee (f := 34) rfl ?_); refine Sh.gL (some 80) Try.func34 #[.agg #[.slice A54 l0_0.length c55], .int .i64 1] (h := ?_); (with_reducible refine (laws_markGraph.calls k (fun k_ => lo50 ≤ k_ ∧ k_ < hi51) _ l0_0 1 m123 y124 w _ HB.out HO49.r E10.out).mono ?_); rintro e w125 ⟨rfl, hm0, hb, hk⟩; refine ⟨_, rfl, ?_⟩; replace hk : Kept w121 w125 (fun k_ => lo50 ≤ k_ ∧ k_ < hi51) := hk; replace BK2 := BK2.move hk (by omega); replace HO10 := HO10.move hk (by omega); replace HO19 := HO19.move hk (by omega); replace HO28 := HO28.move hk (by omega); replace HO39 := HO39.move hk (by omega); replace BK58 := BK58.move hk (by omega); replace HO63 := HO63.move hk (by omega); replace HO72 := HO72.move hk (by omega); replace HO82 := HO82.move hk (by omega); replace HO93 := HO93.move hk (by omega); replace HO103 := HO103.move hk (by omega); replace HO113 := HO113.move hk (by omega); replace HO49 := HO49.marked hm0 hk; replace NW := Nat.le_trans NW hk.1; replace HB := am_ hb; clear hk hb hm0) | ((with_reducible refine gate_callee (f := 53) rfl ?_); refine Sh.gL (some 83) Try.func53 #[.slice A68 l1.length c69, .int .i64 m123] (h := ?_); (with_reducible refine (laws_markIntS.calls k (fun k_ => lo64 ≤ k_ ∧ k_ < hi65) _ l1 m123 m126 y127 w _ HB.out HO63.r E11.out).mono ?_); rintro e w128 ⟨rfl, hm0, hb, hk⟩; refine ⟨_, rfl, ?_⟩; replace hk : Kept w125 w128 (fun k_ => lo64 ≤ k_ ∧ k_ < hi65) := hk; replace BK2 := BK2.move hk (by omega); replace HO10 := HO10.move hk (by omega); replace HO19 := HO19.move hk (by omega); replace HO28 := HO28.move hk (by omega); replace HO39 := HO39.move hk (by omega); replace HO49 := HO49.move hk (by omega); replace BK58 := BK58.move hk (by omega); replace HO72 := HO72.move hk (by omega); replace HO82 := HO82.move hk (by omega); replace HO93 := HO93.move hk (by omega); replace HO103 := HO103.move hk (by omega); replace HO113 := HO113.move hk (by omega); replace HO63 := HO63.marked rfl hm0 hk; replace NW := Nat.le_trans NW hk.1; replace HB := am_ hb; clear hk hb hm0) | ((with_reducible refine gate_callee (f := 53) rfl ?_); refine Sh.gL (some 86) Try.func53 #[.slice A77 l2.length c78, .int .i64 m126] (h := ?_); (with_reducible refine (laws_markIntS.calls k (fun k_ => lo73 ≤ k_ ∧ k_ < hi74) _ l2 m126 m129 y130 w _ HB.out HO72.r E12.out).mono ?_); rintro e w131 ⟨rfl, hm0, hb, hk⟩; refine ⟨_, rfl, ?_⟩; replace hk : Kept w128 w131 (fun k_ => lo73 ≤ k_ ∧ k_ < hi74) := hk; replace BK2 := BK2.move hk (by omega); replace HO10 := HO10.move hk (by omega); replace HO19 := HO19.move hk (by omega); replace HO28 := HO28.move hk (by omega); replace HO39 := HO39.move hk (by omega); replace HO49 := HO49.move hk (by omega); replace BK58 := BK58.move hk (by omega); replace HO63 := HO63.move hk (by omega); replace HO82 := HO82.move hk (by omega); replace HO93 := HO93.move hk (by omega); replace HO103 := HO103.move hk (by omega); replace HO113 := HO113.move hk (by omega); replace HO72 := HO72.marked rfl hm0 hk; replace NW := Nat.le_trans NW hk.1; replace HB := am_ hb; clear hk hb hm0) | ((with_reducible refine gate_callee (f := 52) rfl ?_); (with_reducible refine gate_dst (N := 92) rfl ?_); (try simp only [ce0, ce1, cr0]); refine gate_guard (by rfl) ?_; dsimp only; refine Sh.gL (some 92) Try.func52 #[.slice A87 y36.length c88, .slice A44 y36.length c45] (h := ?_); (with_reducible refine (laws_eqIntS.calls k _ _ y36 _ _ y36 true _ HO82.C HO82.c HO39.C HO39.c E6.out).mono ?_); rintro e w132 ⟨rfl, hb⟩; refine ⟨_, rfl, ?_⟩; replace hb := hb.below; replace BK2 := BK2.same hb; replace HO10 := HO10.same hb; replace HO19 := HO19.same hb; replace HO28 := HO28.same hb; replace HO39 := HO39.same hb; replace HO49 := HO49.same hb; replace BK58 := BK58.same hb; replace HO63 := HO63.same hb; replace HO72 := HO72.same hb; replace HO82 := HO82.same hb; replace HO93 := HO93.same hb; replace HO103 := HO103.same hb; replace HO113 := HO113.same hb; replace HB := am_ (below_step HB.out hb); replace NW := Nat.le_trans NW hb.size; clear hb) | ((with_reducible refine gate_callee (f := 53) rfl ?_); refine Sh.gL (some 102) Try.func53 #[.slice A87 y36.length c88, .int .i64 1] (h := ?_); (with_reducible refine (laws_markIntS.calls k (fun k_ => lo83 ≤ k_ ∧ k_ < hi84) _ y36 1 m133 y134 w _ HB.out HO82.r E13.out).mono ?_); rintro e w135 ⟨rfl, hm0, hb, hk⟩; refine ⟨_, rfl, ?_⟩; replace hk : Kept w132 w135 (fun k_ => lo83 ≤ k_ ∧ k_ < hi84) := hk; replace BK2 := BK2.move hk (by omega); replace HO10 := HO10.move hk (by omega); replace HO19 := HO19.move hk (by omega); replace HO28 := HO28.move hk (by omega); replace HO39 := HO39.move hk (by omega); replace HO49 := HO49.move hk (by omega); replace BK58 := BK58.move hk (by omega); replace HO63 := HO63.move hk (by omega); replace HO72 := HO72.move hk (by omega); replace HO93 := HO93.move hk (by omega); replace HO103 := HO103.move hk (by omega); replace HO113 := HO113.move hk (by omega); replace HO82 := HO82.marked rfl hm0 hk; replace NW := Nat.le_trans NW hk.1; replace HB := am_ hb; clear hk hb hm0) | ((with_reducible refine gate_callee (f := 54) rfl ?_); refine Sh.gL (some 105) Try.func54 #[.slice A87 y36.length c88, .int .i64 1] (h := ?_); refine calls_of_args (args' := #[.slice A87 y134.length c88, .int .i64 1]) (by rw [← HO82.n]) ?_; (with_reducible refine (laws_heldIntS.calls k _ _ y134 1 m133 _ HO82.C HO82.c E14.out).mono ?_); rintro e w136 ⟨rfl, hb⟩; refine ⟨_, rfl, ?_⟩; replace hb := hb.below; replace BK2 := BK2.same hb; replace HO10 := HO10.same hb; replace HO19 := HO19.same hb; replace HO28 := HO28.same hb; replace HO39 := HO39.same hb; replace HO49 := HO49.same hb; replace BK58 := BK58.same hb; replace HO63 := HO63.same hb; replace HO72 := HO72.same hb; replace HO82 := HO82.same hb; replace HO93 := HO93.same hb; replace HO103 := HO103.same hb; replace HO113 := HO113.same hb; replace HB := am_ (below_step HB.out hb); replace NW := Nat.le_trans NW hb.size; clear hb; have hczq137_0 : w136.cell? ⟨g1, 0, none⟩ = some (.slice A0_0 l0_0.length c0_0) := (blk_cell BK2.b 0).trans rfl; have hfzq137_0 := blk_frozen BK2.b 0) | ((with_reducible refine gate_callee (f := 31) rfl ?_); refine Sh.gL (some 113) Try.func31 #[.agg #[.slice A0_0 l0_0.length c0_0]] (h := ?_); (with_reducible refine (laws_toGraph.calls k _ _ l0_0 l0_0 _ (Kd.C_below HR0_0.out HB.out) HC0_0.out E1.out).mono ?_); rintro e w138 ⟨v0_, rfl, ho0, hb⟩; refine ⟨_, rfl, ?_⟩; obtain ⟨lo140, hi141, HO139, oa142, ob143, NW2⟩ := new1 (F := fun lo_ hi_ => HeldS (Kd.slice 3 (Kd.int .i64)) 31 w138 w.heap.size lo_ hi_ v0_ l0_0) (heldS_new ho0 hb HB.out) hb NW; replace BK2 := BK2.same hb; replace HO10 := HO10.same hb; replace HO19 := HO19.same hb; replace HO28 := HO28.same hb; replace HO39 := HO39.same hb; replace HO49 := HO49.same hb; replace BK58 := BK58.same hb; replace HO63 := HO63.same hb; replace HO72 := HO72.same hb; replace HO82 := HO82.same hb; replace HO93 := HO93.same hb; replace HO103 := HO103.same hb; replace HO113 := HO113.same hb; replace HB := am_ (below_step HB.out hb); replace NW := Nat.le_trans NW hb.size; replace NW := NW2; skip; obtain ⟨A144, c145, e146⟩ := HO139.slice; subst e146; clear hb ho0) | ((with_reducible refine gate_callee (f := 50) rfl ?_); refine Sh.gL (some 115) Try.func50 #[.slice A1 l1.length c1] (h := ?_); (with_reducible refine (laws_toIntS.calls k _ _ l1 l1 _ (Kd.C_below HR1.out HB.out) HC1.out E2.out).mono ?_); rintro e w147 ⟨v0_, rfl, ho0, hb⟩; refine ⟨_, rfl, ?_⟩; obtain ⟨lo149, hi150, HO148, oa151, ob152, NW2⟩ := new1 (F := fun lo_ hi_ => Held (Kd.int .i64) 3 w147 w.heap.size lo_ hi_ v0_ l1) (held_new ho0 hb HB.out) hb NW; replace BK2 := BK2.same hb; replace HO10 := HO10.same hb; replace HO19 := HO19.same hb; replace HO28 := HO28.same hb; replace HO39 := HO39.same hb; replace HO49 := HO49.same hb; replace BK58 := BK58.same hb; replace HO63 := HO63.same hb; replace HO72 := HO72.same hb; replace HO82 := HO82.same hb; replace HO93 := HO93.same hb; replace HO103 := HO103.same hb; replace HO113 := HO113.same hb; replace HO139 := HO139.same hb; replace HB := am_ (below_step HB.out hb); replace NW := Nat.le_trans NW hb.size; replace NW := NW2; skip; obtain ⟨A153, c154, e155⟩ := HO148.slice; subst e155; clear hb ho0) | ((with_reducible refine gate_callee (f := 50) rfl ?_); refine Sh.gL (some 117) Try.func50 #[.slice A2 l2.length c2] (h := ?_); (with_reducible refine (laws_toIntS.calls k _ _ l2 l2 _ (Kd.C_below HR2.out HB.out) HC2.out E3.out).mono ?_); rintro e w156 ⟨v0_, rfl, ho0, hb⟩; refine ⟨_, rfl, ?_⟩; obtain ⟨lo158, hi159, HO157, oa160, ob161, NW2⟩ := new1 (F := fun lo_ hi_ => Held (Kd.int .i64) 3 w156 w.heap.size lo_ hi_ v0_ l2) (held_new ho0 hb HB.out) hb NW; replace BK2 := BK2.same hb; replace HO10 := HO10.same hb; replace HO19 := HO19.same hb; replace HO28 := HO28.same hb; replace HO39 := HO39.same hb; replace HO49 := HO49.same hb; replace BK58 := BK58.same hb; replace HO63 := HO63.same hb; replace HO72 := HO72.same hb; replace HO82 := HO82.same hb; replace HO93 := HO93.same hb; replace HO103 := HO103.same hb; replace HO113 := HO113.same hb; replace HO139 := HO139.same hb; replace HO148 := HO148.same hb; replace HB := am_ (below_step HB.out hb); replace NW := Nat.le_trans NW hb.size; replace NW := NW2; skip; obtain ⟨A162, c163, e164⟩ := HO157.slice; subst e164; clear hb ho0) | ((with_reducible refine gate_callee (f := 60) rfl ?_); refine Sh.gL (some 118) Try.func60 #[.agg #[.slice A144 l0_0.length c145], .slice A153 l1.length c154, .slice A162 l2.length c163] (h := ?_); (with_reducible refine (impl_ShortPath.calls k _ _ l0_0 _ _ l1 _ _ l2 y36 y37 _ HO139.C HO139.c HO148.C HO148.c HO157.C HO157.c E5.out).mono ?_); rintro e w165 ⟨v0_, rfl, ho0, hb⟩; refine ⟨_, rfl, ?_⟩; obtain ⟨lo167, hi168, HO166, oa169, ob170, NW2⟩ := new1 (F := fun lo_ hi_ => Held (Kd.int .i64) 3 w165 w.heap.size lo_ hi_ v0_ y36) (held_new ho0 hb HB.out) hb NW; replace BK2 := BK2.same hb; replace HO10 := HO10.same hb; replace HO19 := HO19.same hb; replace HO28 := HO28.same hb; replace HO39 := HO39.same hb; replace HO49 := HO49.same hb; replace BK58 := BK58.same hb; replace HO63 := HO63.same hb; replace HO72 := HO72.same hb; replace HO82 := HO82.same hb; replace HO93 := HO93.same hb; replace HO103 := HO103.same hb; replace HO113 := HO113.same hb; replace HO139 := HO139.same hb; replace HO148 := HO148.same hb; replace HO157 := HO157.same hb; replace HB := am_ (below_step HB.out hb); replace NW := Nat.le_trans NW hb.size; replace NW := NW2; skip; obtain ⟨A171, c172, e173⟩ := HO166.slice; subst e173; clear hb ho0) | ((with_reducible refine gate_callee (f := 52) rfl ?_); refine Sh.gL (some 123) Try.func52 #[.slice A171 y36.length c172, .slice A44 y36.length c45] (h := ?_); (with_reducible refine (laws_eqIntS.calls k _ _ y36 _ _ y36 true _ HO166.C HO166.c HO39.C HO39.c E6.out).mono ?_); rintro e w174 ⟨rfl, hb⟩; refine ⟨_, rfl, ?_⟩; replace hb := hb.below; replace BK2 := BK2.same hb; replace HO10 := HO10.same hb; replace HO19 := HO19.same hb; replace HO28 := HO28.same hb; replace HO39 := HO39.same hb; replace HO49 := HO49.same hb; replace BK58 := BK58.same hb; replace HO63 := HO63.same hb; replace HO72 := HO72.same hb; replace HO82 := HO82.same hb; replace HO93 := HO93.same hb; replace HO103 := HO103.same hb; replace HO113 := HO113.same hb; replace HO139 := HO139.same hb; replace HO148 := HO148.same hb; replace HO157 := HO157.same hb; replace HO166 := HO166.same hb; replace HB := am_ (below_step HB.out hb); replace NW := Nat.le_trans NW hb.size; clear hb) | ((with_reducible refine gate_callee (f := 54) rfl ?_); refine Sh.gL (some 132) Try.func54 #[.slice A87 y36.length c88, .int .i64 1] (h := ?_); refine calls_of_args (args' := #[.slice A87 y134.length c88, .int .i64 1]) (by rw [← HO82.n]) ?_; (with_reducible refine (laws_heldIntS.calls k _ _ y134 1 m133 _ HO82.C HO82.c E14.out).mono ?_); rintro e w175 ⟨rfl, hb⟩; refine ⟨_, rfl, ?_⟩; replace hb := hb.below; replace BK2 := BK2.same hb; replace HO10 := HO10.same hb; replace HO19 := HO19.same hb; replace HO28 := HO28.same hb; replace HO39 := HO39.same hb; replace HO49 := HO49.same hb; replace BK58 := BK58.same hb; replace HO63 := HO63.same hb; replace HO72 := HO72.same hb; replace HO82 := HO82.same hb; replace HO93 := HO93.same hb; replace HO103 := HO103.same hb; replace HO113 := HO113.same hb; replace HO139 := HO139.same hb; replace HO148 := HO148.same hb; replace HO157 := HO157.same hb; replace HO166 := HO166.same hb; replace HB := am_ (below_step HB.out hb); replace NW := Nat.le_trans NW hb.size; clear hb))
 go_ret
 exact ⟨rfl, HB.out⟩

end Go.Proofs.Ytbgbidgnlioomaa.P
