/- Go functions of this seat as Lean functions, and the proofs that the calls come to what these say; printed by a program of this session. No condition. -/
import Derived.Test.YtbgbidgnlioomaaP0
import Derived.Test.YtbgbidgnlioomaaMFnExactReachFrom3
import Derived.Test.YtbgbidgnlioomaaMFnExactReachFrom4
import Derived.Test.YtbgbidgnlioomaaMFnExactReachFrom1
import Derived.Test.YtbgbidgnlioomaaMFnExactReachFrom2
namespace Go.Proofs.Ytbgbidgnlioomaa.P
open Go.RowKit Go.Proofs.YtbgbidgnlioomaaW.PrintWords Go.Proofs.YtbgbidgnlioomaaW.PrintLast Go.Proofs.YtbgbidgnlioomaaW.PrintMore Go.Proofs.Ytbgbidgnlioomaa.Hof
attribute [local go_sem] max2_int min2_int max_two min_two max_three min_three max_four min_four   -- for this text's walks alone
set_option linter.unusedVariables false
set_option linter.unusedSimpArgs false

/-! ### impl_ReachFrom: function 51 -/
def impl_ReachFrom.f (k : Nat) (l0_0 : List (List Int)) (l1 : List Int) : Option (List Int × Bool) := (impl_isGraphFrom.f k l0_0 l1).bind fun t784 => (if t784 = true then ((impl_reachedFrom.f k l0_0 l1).bind fun t785 => (some (t785, true))) else (some (([] : List Int), false)))
theorem impl_ReachFrom.mono : ∀ a0 a1 k, LeO (impl_ReachFrom.f k a0 a1) (impl_ReachFrom.f (k + 1) a0 a1) := by
  intro a0 a1 k
  unfold impl_ReachFrom.f
  repeat' first
      | (with_reducible exact impl_isGraphFrom.mono _ _ _)
      | (with_reducible exact impl_reachedFrom.mono _ _ _)
      | (with_reducible exact LeO.refl _)
      | (with_reducible exact LeO.none _)
      | (with_reducible refine LeO.ite ?_ ?_)
      | (with_reducible refine LeO.bind ?_ (fun _ => ?_))
      | exact impl_isGraphFrom.mono _ _ _
      | exact impl_reachedFrom.mono _ _ _
      | exact LeO.none _
      | refine LeO.ite ?_ ?_
      | refine LeO.bind ?_ (fun _ => ?_)
set_option maxHeartbeats 8000000 in
set_option maxRecDepth 100000 in
theorem impl_ReachFrom.calls (k : Nat) (A0_0 : Option Addr) (c0_0 : Nat) (l0_0 : List (List Int)) (A1 : Option Addr) (c1 : Nat) (l1 : List Int) (r1 : List Int) (r2 : Bool) (w : World) (hr0_0 : Kd.C (Kd.slice 3 (Kd.int .i64)) w A0_0 l0_0.length l0_0) (hc0_0 : l0_0.length ≤ c0_0) (hr1 : Kd.C (Kd.int .i64) w A1 l1.length l1) (hc1 : l1.length ≤ c1) (h : impl_ReachFrom.f k l0_0 l1 = some (r1, r2)) :
    Calls Try.prog 51 #[.agg #[.slice A0_0 l0_0.length c0_0], .slice A1 l1.length c1] w fun e w' => ∃ v0_ : Value, e = .returned (.tuple #[v0_, .bool r2]) ∧ Kd.R (Kd.int .i64) 3 w' w.heap.size (fun _ => True) v0_ r1 ∧ Below w.heap.size w w' := by
  have hu46 := Try.underlying46
  have HR0_0 := Aside0.mk hr0_0
  have HC0_0 := Aside0.mk hc0_0
  clear hr0_0 hc0_0
  have HR1 := Aside0.mk hr1
  have HC1 := Aside0.mk hc1
  clear hr1 hc1
  have HB := Aside0.mk (Below.refl w.heap.size w)
  have H : ((impl_isGraphFrom.f k l0_0 l1).bind fun t784 => (if t784 = true then ((impl_reachedFrom.f k l0_0 l1).bind fun t785 => (some (t785, true))) else (some (([] : List Int), false)))) = some (r1, r2) := h
  clear h
  replace H := Option.bind_eq_some_iff.mp H
  obtain ⟨t784, A30, H⟩ := H
  replace H : (if t784 = true then ((impl_reachedFrom.f k l0_0 l1).bind fun t785 => (some (t785, true))) else (some (([] : List Int), false))) = some (r1, r2) := H
  have A3 := Aside0.mk A30
  clear A30
  by_cases c4 : t784 = true
  · subst c4
    have H1 : ((impl_reachedFrom.f k l0_0 l1).bind fun t785 => (some (t785, true))) = some (r1, r2) := by rw [if_pos rfl] at H; exact H
    clear H
    have H := H1
    clear H1
    replace H := Option.bind_eq_some_iff.mp H
    obtain ⟨t785, A50, H⟩ := H
    replace H : (some (t785, true)) = some (r1, r2) := H
    have A5 := Aside0.mk A50
    clear A50
    simp only [Option.some.injEq, Prod.mk.injEq] at H
    obtain ⟨rfl, rfl⟩ := H
    go_enter Try.func51, Try.ntmps51
    go_wp2_with (first | ((with_reducible refine gate_dst (N := 2) rfl ?_); refine box_event ?hg (N := 2) ?hd (cs := #[.slice A0_0 l0_0.length c0_0]) (t := 46) ?hr ?_; (case hd => rfl); (case hg => rfl); (case hr => first | (go_simp; done) | (go_simp; rfl)); intro gb783 hg w6 hbox hb; have n0_ := Aside0.mk (below_step (by repeat (first | (with_reducible first | exact HB.out | apply below_alloc | apply pw_below_drewN | apply below_drew1) | exact HB.out)) hb); have n1_ := Aside0.mk (hbox); have n2_ := Aside0.mk ((by rw [hg]; exact (below_size (by repeat (first | (with_reducible first | exact HB.out | apply below_alloc | apply pw_below_drewN | apply below_drew1) | exact HB.out))) : w.heap.size ≤ gb783)); have n3_ := Aside0.mk ((by rw [hg]; exact (below_size (by repeat (first | (with_reducible first | exact HB.out | apply below_alloc | apply pw_below_drewN | apply below_drew1) | exact HB.out))) : w.heap.size ≤ gb783)); clear HB; have HB := n0_; have BK783 := n1_; have GW783 := n2_; have GE783 := n3_; clear n0_ n1_ n2_ n3_; clear hb hbox hg; have hcz7_0 : w6.cell? ⟨gb783, 0, none⟩ = some (.slice A0_0 l0_0.length c0_0) := (blk_cell BK783.out 0).trans rfl; have hfz7_0 := blk_frozen BK783.out 0) | ((with_reducible refine gate_callee (f := 106) rfl ?_); refine goesL_ (some 8) rfl rfl Try.func106 (by kernel_rfl) rfl #[.agg #[.slice A0_0 l0_0.length c0_0], .slice A1 l1.length c1] rfl (by (try simp only [List.map_toArray, List.map_cons, List.map_nil]); first | done | rfl | (simp only [List.length_drop, List.length_take]; rfl)) ?_; (with_reducible refine (impl_isGraphFrom.calls k _ _ l0_0 _ _ l1 true _ ?side1 ?side2 ?side3 ?side4 A3.out).mono ?_); (case side1 => repeat (first | exact (Kd.C_below HR0_0.out HB.out) | (with_reducible refine Kd.C_alloc ?_ _) | (with_reducible refine Kd.C_drewN ?_ _) | (with_reducible refine Kd.C_drew ?_))); (case side2 => exact HC0_0.out); (case side3 => repeat (first | exact (Kd.C_below HR1.out HB.out) | (with_reducible refine Kd.C_alloc ?_ _) | (with_reducible refine Kd.C_drewN ?_ _) | (with_reducible refine Kd.C_drew ?_))); (case side4 => exact HC1.out); rintro e w8 ⟨rfl, hb⟩; refine ⟨_, rfl, ?_⟩; have n0_ := Aside0.mk (blk_below (g := gb783) (o := .cells #[.slice A0_0 l0_0.length c0_0] 46 (0, 0)) (by (with_reducible repeat (first | refine blk_drewN ?_ _ | refine blk_drew ?_ | refine blk_alloc ?_ _)); exact BK783.out) hb); have n1_ := Aside0.mk (below_step (by repeat (first | (with_reducible first | exact HB.out | apply below_alloc | apply pw_below_drewN | apply below_drew1 | refine below_set ?_ GE783.out) | exact HB.out)) hb); clear BK783; clear HB; have BK783 := n0_; have HB := n1_; clear n0_ n1_; (try clear hb); (try clear hb2); (try clear hk); (try clear hi); have hcz9_0 : w8.cell? ⟨gb783, 0, none⟩ = some (.slice A0_0 l0_0.length c0_0) := (blk_cell BK783.out 0).trans rfl; have hfz9_0 := blk_frozen BK783.out 0) | ((with_reducible refine gate_callee (f := 108) rfl ?_); refine goesL_ (some 13) rfl rfl Try.func108 (by kernel_rfl) rfl #[.slice A0_0 l0_0.length c0_0, .slice A1 l1.length c1] rfl (by (try simp only [List.map_toArray, List.map_cons, List.map_nil]); first | done | rfl | (simp only [List.length_drop, List.length_take]; rfl)) ?_; (with_reducible refine (impl_reachedFrom.calls k _ _ l0_0 _ _ l1 t785 _ ?side1 ?side2 ?side3 ?side4 A5.out).mono ?_); (case side1 => repeat (first | exact (Kd.C_below HR0_0.out HB.out) | (with_reducible refine Kd.C_alloc ?_ _) | (with_reducible refine Kd.C_drewN ?_ _) | (with_reducible refine Kd.C_drew ?_))); (case side2 => exact HC0_0.out); (case side3 => repeat (first | exact (Kd.C_below HR1.out HB.out) | (with_reducible refine Kd.C_alloc ?_ _) | (with_reducible refine Kd.C_drewN ?_ _) | (with_reducible refine Kd.C_drew ?_))); (case side4 => exact HC1.out); rintro e w10 ⟨v786, rfl, ho0, hb⟩; refine ⟨_, rfl, ?_⟩; have n0_ := Aside0.mk (Kd.R_lower ho0 (below_size (by repeat (first | (with_reducible first | exact HB.out | apply below_alloc | apply pw_below_drewN | apply below_drew1 | refine below_set ?_ GE783.out) | exact HB.out)))); have n1_ := Aside0.mk (blk_below (g := gb783) (o := .cells #[.slice A0_0 l0_0.length c0_0] 46 (0, 0)) (by (with_reducible repeat (first | refine blk_drewN ?_ _ | refine blk_drew ?_ | refine blk_alloc ?_ _)); exact BK783.out) hb); have n2_ := Aside0.mk (below_step (by repeat (first | (with_reducible first | exact HB.out | apply below_alloc | apply pw_below_drewN | apply below_drew1 | refine below_set ?_ GE783.out) | exact HB.out)) hb); clear BK783; clear HB; have HO787 := n0_; have BK783 := n1_; have HB := n2_; clear n0_ n1_ n2_; (try clear hb); (try clear hb2); (try clear hk); (try clear hi); (try clear ho0)))
    go_ret2
    exact ⟨_, by first | rfl | (simp [errW_none, errW_some] <;> rfl) | (simp [*, errW_none, errW_some] <;> rfl), by (with_reducible repeat (first | apply Kd.R_alloc | apply Kd.R_drewN | apply Kd.R_drew)); exact HO787.out, by repeat (first | (with_reducible first | exact HB.out | apply below_alloc | apply pw_below_drewN | apply below_drew1 | refine below_set ?_ GE783.out) | exact HB.out)⟩
  · replace c4 := Bool.eq_false_iff.mpr c4
    subst c4
    have H1 : (some (([] : List Int), false)) = some (r1, r2) := by rw [if_neg (show ¬ (false = true) by decide)] at H; exact H
    clear H
    have H := H1
    clear H1
    simp only [Option.some.injEq, Prod.mk.injEq] at H
    obtain ⟨rfl, rfl⟩ := H
    go_enter Try.func51, Try.ntmps51
    go_wp2_with (first | ((with_reducible refine gate_dst (N := 2) rfl ?_); refine box_event ?hg (N := 2) ?hd (cs := #[.slice A0_0 l0_0.length c0_0]) (t := 46) ?hr ?_; (case hd => rfl); (case hg => rfl); (case hr => first | (go_simp; done) | (go_simp; rfl)); intro gb783 hg w11 hbox hb; have n0_ := Aside0.mk (below_step (by repeat (first | (with_reducible first | exact HB.out | apply below_alloc | apply pw_below_drewN | apply below_drew1) | exact HB.out)) hb); have n1_ := Aside0.mk (hbox); have n2_ := Aside0.mk ((by rw [hg]; exact (below_size (by repeat (first | (with_reducible first | exact HB.out | apply below_alloc | apply pw_below_drewN | apply below_drew1) | exact HB.out))) : w.heap.size ≤ gb783)); have n3_ := Aside0.mk ((by rw [hg]; exact (below_size (by repeat (first | (with_reducible first | exact HB.out | apply below_alloc | apply pw_below_drewN | apply below_drew1) | exact HB.out))) : w.heap.size ≤ gb783)); clear HB; have HB := n0_; have BK783 := n1_; have GW783 := n2_; have GE783 := n3_; clear n0_ n1_ n2_ n3_; clear hb hbox hg; have hcz12_0 : w11.cell? ⟨gb783, 0, none⟩ = some (.slice A0_0 l0_0.length c0_0) := (blk_cell BK783.out 0).trans rfl; have hfz12_0 := blk_frozen BK783.out 0) | ((with_reducible refine gate_callee (f := 106) rfl ?_); refine goesL_ (some 8) rfl rfl Try.func106 (by kernel_rfl) rfl #[.agg #[.slice A0_0 l0_0.length c0_0], .slice A1 l1.length c1] rfl (by (try simp only [List.map_toArray, List.map_cons, List.map_nil]); first | done | rfl | (simp only [List.length_drop, List.length_take]; rfl)) ?_; (with_reducible refine (impl_isGraphFrom.calls k _ _ l0_0 _ _ l1 false _ ?side1 ?side2 ?side3 ?side4 A3.out).mono ?_); (case side1 => repeat (first | exact (Kd.C_below HR0_0.out HB.out) | (with_reducible refine Kd.C_alloc ?_ _) | (with_reducible refine Kd.C_drewN ?_ _) | (with_reducible refine Kd.C_drew ?_))); (case side2 => exact HC0_0.out); (case side3 => repeat (first | exact (Kd.C_below HR1.out HB.out) | (with_reducible refine Kd.C_alloc ?_ _) | (with_reducible refine Kd.C_drewN ?_ _) | (with_reducible refine Kd.C_drew ?_))); (case side4 => exact HC1.out); rintro e w13 ⟨rfl, hb⟩; refine ⟨_, rfl, ?_⟩; have n0_ := Aside0.mk (blk_below (g := gb783) (o := .cells #[.slice A0_0 l0_0.length c0_0] 46 (0, 0)) (by (with_reducible repeat (first | refine blk_drewN ?_ _ | refine blk_drew ?_ | refine blk_alloc ?_ _)); exact BK783.out) hb); have n1_ := Aside0.mk (below_step (by repeat (first | (with_reducible first | exact HB.out | apply below_alloc | apply pw_below_drewN | apply below_drew1 | refine below_set ?_ GE783.out) | exact HB.out)) hb); clear BK783; clear HB; have BK783 := n0_; have HB := n1_; clear n0_ n1_; (try clear hb); (try clear hb2); (try clear hk); (try clear hi)))
    go_ret2
    exact ⟨_, by first | rfl | (simp [errW_none, errW_some] <;> rfl) | (simp [*, errW_none, errW_some] <;> rfl), by first | exact Kd.R_nil _ _ _ _ _ | exact Kd.N_nil _ _ _ _ _ | exact Kd.V_nil _ _ _ _ _ | exact Kd.Q_nil _ _ _ _ _ | exact Kd.S_nil _ _ _ _ _, by repeat (first | (with_reducible first | exact HB.out | apply below_alloc | apply pw_below_drewN | apply below_drew1 | refine below_set ?_ GE783.out) | exact HB.out)⟩

end Go.Proofs.Ytbgbidgnlioomaa.P
namespace Go.Proofs.Ytbgbidgnlioomaa.P
open Go.RowKit Go.Proofs.YtbgbidgnlioomaaW.PrintWords Go.Proofs.YtbgbidgnlioomaaW.PrintLast Go.Proofs.YtbgbidgnlioomaaW.PrintMore Go.Proofs.Ytbgbidgnlioomaa.Hof
attribute [local go_sem] max2_int min2_int max_two min_two max_three min_three max_four min_four   -- for this text's walks alone
set_option linter.unusedVariables false
set_option linter.unusedSimpArgs false

/-! ### laws_FnExactReachFrom: function 11, on its one way -/
open Go.Proofs.Ytbgbidgnlioomaa.Lw
def laws_FnExactReachFrom.Holds (k : Nat) (l0_0 : List (List Int)) (l1 : List Int) : Prop :=
  (1048576 < (l1.length : Int)) ∨ (¬ (1048576 < (l1.length : Int))) ∧ (∃ s6 : Int, laws_szGraph.f k l0_0 1048576 = some s6 ∧ ((s6 < 0) ∨ (¬ (s6 < 0)) ∧ (∃ (y27 : List Int) (y28 : Bool) (m95 : Int) (y96 : List (List Int)) (m98 : Int) (y99 : List Int) (m102 : Int) (y103 : List Int), laws_toGraph.f k l0_0 = some l0_0 ∧ laws_toIntS.f k l1 = some l1 ∧ spec_ReachFrom.f k l0_0 l1 = some (y27, y28) ∧ impl_ReachFrom.f k l0_0 l1 = some (y27, y28) ∧ laws_eqIntS.f k y27 y27 = some true ∧ laws_eqGraph.f k l0_0 l0_0 = some true ∧ laws_eqIntS.f k l1 l1 = some true ∧ laws_markGraph.f k l0_0 1 = some (m95, y96) ∧ laws_markIntS.f k l1 m95 = some (m98, y99) ∧ laws_markIntS.f k y27 1 = some (m102, y103) ∧ laws_heldIntS.f k y103 1 = some m102 ∧ ¬ m98 < 0 ∧ ¬ m102 < 0)))
set_option maxHeartbeats 40000000 in
set_option maxRecDepth 100000 in
theorem laws_FnExactReachFrom.calls (k : Nat) (A0_0 : Option Addr) (c0_0 : Nat) (l0_0 : List (List Int)) (A1 : Option Addr) (c1 : Nat) (l1 : List Int) (w : World) (hr0_0 : Kd.C (Kd.slice 3 (Kd.int .i64)) w A0_0 l0_0.length l0_0) (hc0_0 : l0_0.length ≤ c0_0) (hr1 : Kd.C (Kd.int .i64) w A1 l1.length l1) (hc1 : l1.length ≤ c1) (h : laws_FnExactReachFrom.Holds k l0_0 l1) :
    Calls Try.prog 11 #[.agg #[.slice A0_0 l0_0.length c0_0], .slice A1 l1.length c1] w fun e w' => e = .returned (.bool true) ∧ Below w.heap.size w w' := by
  have hu44 := Try.underlying44
  have hu46 := Try.underlying46
  have HR0_0 := Aside0.mk hr0_0
  have HC0_0 := Aside0.mk hc0_0
  clear hr0_0 hc0_0
  have HR1 := Aside0.mk hr1
  have HC1 := Aside0.mk hc1
  clear hr1 hc1
  have HB := Aside0.mk (Below.refl w.heap.size w)
  have NW : 0 ≤ w.heap.size := Nat.zero_le _
  rcases h with c | ⟨c, h⟩
  · have cb : decide (1048576 < (l1.length : Int)) = true := decide_eq_true c
    clear c
    go_enter Try.func11, Try.ntmps11
    go_wp2_with (first | ((with_reducible refine gate_dst (N := 2) rfl ?_); refine box_event ?hg (N := 2) ?hd (cs := #[.slice A0_0 l0_0.length c0_0]) (t := 44) ?hr ?_; (case hd => rfl); (case hg => rfl); (case hr => first | (go_simp; done) | (go_simp; rfl)); intro g1 hg w3 hbox hb; have BK2 := box_new (w := w) (W := w) HB.out hg hbox; have oa4 := new_g (W := w) hg NW; replace HB := Aside0.mk (below_step HB.out hb); replace NW := Nat.le_trans NW hb.size; replace NW := BK2.lt; clear hb hbox hg; have hczq5_0 : w3.cell? ⟨g1, 0, none⟩ = some (.slice A0_0 l0_0.length c0_0) := (blk_cell BK2.b 0).trans rfl; have hfzq5_0 := blk_frozen BK2.b 0))
    go_ret
    exact ⟨rfl, HB.out⟩
  have cb0 : decide (1048576 < (l1.length : Int)) = false := decide_eq_false c
  clear c
  obtain ⟨s6, ESs6, h⟩ := h
  replace ESs6 := Aside0.mk ESs6
  rcases h with c | ⟨c, h⟩
  · have cb : decide (s6 < 0) = true := decide_eq_true c
    clear c
    go_enter Try.func11, Try.ntmps11
    go_wp2_with (first | ((with_reducible refine gate_dst (N := 2) rfl ?_); refine box_event ?hg (N := 2) ?hd (cs := #[.slice A0_0 l0_0.length c0_0]) (t := 44) ?hr ?_; (case hd => rfl); (case hg => rfl); (case hr => first | (go_simp; done) | (go_simp; rfl)); intro g1 hg w3 hbox hb; have BK2 := box_new (w := w) (W := w) HB.out hg hbox; have oa4 := new_g (W := w) hg NW; replace HB := Aside0.mk (below_step HB.out hb); replace NW := Nat.le_trans NW hb.size; replace NW := BK2.lt; clear hb hbox hg; have hczq5_0 : w3.cell? ⟨g1, 0, none⟩ = some (.slice A0_0 l0_0.length c0_0) := (blk_cell BK2.b 0).trans rfl; have hfzq5_0 := blk_frozen BK2.b 0) | ((with_reducible refine gate_callee (f := 29) rfl ?_); refine goesL_ (some 22) rfl rfl Try.func29 (by kernel_rfl) rfl #[.agg #[.slice A0_0 l0_0.length c0_0], .int .i64 1048576] rfl (by (try simp only [List.map_toArray, List.map_cons, List.map_nil]); first | done | rfl | (simp only [List.length_drop, List.length_take]; rfl)) ?_; (with_reducible refine (laws_szGraph.calls k _ _ l0_0 1048576 s6 _ (Kd.C_below HR0_0.out HB.out) HC0_0.out ESs6.out).mono ?_); rintro e w7 ⟨rfl, hb⟩; refine ⟨_, rfl, ?_⟩; replace BK2 := BK2.same hb; replace HB := Aside0.mk (below_step HB.out hb); replace NW := Nat.le_trans NW hb.size; clear hb; have hczq8_0 : w7.cell? ⟨g1, 0, none⟩ = some (.slice A0_0 l0_0.length c0_0) := (blk_cell BK2.b 0).trans rfl; have hfzq8_0 := blk_frozen BK2.b 0))
    go_ret
    exact ⟨rfl, HB.out⟩
  have cb1 : decide (s6 < 0) = false := decide_eq_false c
  clear c
  obtain ⟨y27, y28, m95, y96, m98, y99, m102, y103, E1, E2, E3, E4, E5, E6, E7, E8, E9, E10, E11, cd0, cd1⟩ := h
  replace E1 := Aside0.mk E1
  replace E2 := Aside0.mk E2
  replace E3 := Aside0.mk E3
  replace E4 := Aside0.mk E4
  replace E5 := Aside0.mk E5
  replace E6 := Aside0.mk E6
  replace E7 := Aside0.mk E7
  replace E8 := Aside0.mk E8
  replace E9 := Aside0.mk E9
  replace E10 := Aside0.mk E10
  replace E11 := Aside0.mk E11
  have ce0 : decide (m98 < 0) = false := decide_eq_false cd0
  clear cd0
  have ce1 : decide (m102 < 0) = false := decide_eq_false cd1
  clear cd1
  have cr0 : (y28 != y28) = false := bne_self_eq_false _
  go_enter Try.func11, Try.ntmps11
  go_upto_region 13 with (first | ((with_reducible refine gate_dst (N := 2) rfl ?_); refine box_event ?hg (N := 2) ?hd (cs := #[.slice A0_0 l0_0.length c0_0]) (t := 44) ?hr ?_; (case hd => rfl); (case hg => rfl); (case hr => first | (go_simp; done) | (go_simp; rfl)); intro g1 hg w3 hbox hb; have BK2 := box_new (w := w) (W := w) HB.out hg hbox; have oa4 := new_g (W := w) hg NW; replace HB := Aside0.mk (below_step HB.out hb); replace NW := Nat.le_trans NW hb.size; replace NW := BK2.lt; clear hb hbox hg; have hczq5_0 : w3.cell? ⟨g1, 0, none⟩ = some (.slice A0_0 l0_0.length c0_0) := (blk_cell BK2.b 0).trans rfl; have hfzq5_0 := blk_frozen BK2.b 0) | ((with_reducible refine gate_callee (f := 29) rfl ?_); refine goesL_ (some 22) rfl rfl Try.func29 (by kernel_rfl) rfl #[.agg #[.slice A0_0 l0_0.length c0_0], .int .i64 1048576] rfl (by (try simp only [List.map_toArray, List.map_cons, List.map_nil]); first | done | rfl | (simp only [List.length_drop, List.length_take]; rfl)) ?_; (with_reducible refine (laws_szGraph.calls k _ _ l0_0 1048576 s6 _ (Kd.C_below HR0_0.out HB.out) HC0_0.out ESs6.out).mono ?_); rintro e w7 ⟨rfl, hb⟩; refine ⟨_, rfl, ?_⟩; replace BK2 := BK2.same hb; replace HB := Aside0.mk (below_step HB.out hb); replace NW := Nat.le_trans NW hb.size; clear hb; have hczq8_0 : w7.cell? ⟨g1, 0, none⟩ = some (.slice A0_0 l0_0.length c0_0) := (blk_cell BK2.b 0).trans rfl; have hfzq8_0 := blk_frozen BK2.b 0) | ((with_reducible refine gate_callee (f := 31) rfl ?_); refine goesL_ (some 27) rfl rfl Try.func31 (by kernel_rfl) rfl #[.agg #[.slice A0_0 l0_0.length c0_0]] rfl (by (try simp only [List.map_toArray, List.map_cons, List.map_nil]); first | done | rfl | (simp only [List.length_drop, List.length_take]; rfl)) ?_; (with_reducible refine (laws_toGraph.calls k _ _ l0_0 l0_0 _ (Kd.C_below HR0_0.out HB.out) HC0_0.out E1.out).mono ?_); rintro e w9 ⟨v0_, rfl, ho0, hb⟩; refine ⟨_, rfl, ?_⟩; obtain ⟨lo11, hi12, HO10, oa13, ob14, NW2⟩ := new1 (F := fun lo_ hi_ => HeldS (Kd.slice 3 (Kd.int .i64)) 31 w9 w.heap.size lo_ hi_ v0_ l0_0) (heldS_new ho0 hb HB.out) hb NW; replace BK2 := BK2.same hb; replace HB := Aside0.mk (below_step HB.out hb); replace NW := Nat.le_trans NW hb.size; replace NW := NW2; skip; obtain ⟨A15, c16, e17⟩ := HO10.slice; subst e17; clear hb ho0) | ((with_reducible refine gate_callee (f := 50) rfl ?_); refine goesL_ (some 29) rfl rfl Try.func50 (by kernel_rfl) rfl #[.slice A1 l1.length c1] rfl (by (try simp only [List.map_toArray, List.map_cons, List.map_nil]); first | done | rfl | (simp only [List.length_drop, List.length_take]; rfl)) ?_; (with_reducible refine (laws_toIntS.calls k _ _ l1 l1 _ (Kd.C_below HR1.out HB.out) HC1.out E2.out).mono ?_); rintro e w18 ⟨v0_, rfl, ho0, hb⟩; refine ⟨_, rfl, ?_⟩; obtain ⟨lo20, hi21, HO19, oa22, ob23, NW2⟩ := new1 (F := fun lo_ hi_ => Held (Kd.int .i64) 3 w18 w.heap.size lo_ hi_ v0_ l1) (held_new ho0 hb HB.out) hb NW; replace BK2 := BK2.same hb; replace HO10 := HO10.same hb; replace HB := Aside0.mk (below_step HB.out hb); replace NW := Nat.le_trans NW hb.size; replace NW := NW2; skip; obtain ⟨A24, c25, e26⟩ := HO19.slice; subst e26; clear hb ho0) | ((with_reducible refine gate_callee (f := 49) rfl ?_); refine goesL_ (some 30) rfl rfl Try.func49 (by kernel_rfl) rfl #[.agg #[.slice A15 l0_0.length c16], .slice A24 l1.length c25] rfl (by (try simp only [List.map_toArray, List.map_cons, List.map_nil]); first | done | rfl | (simp only [List.length_drop, List.length_take]; rfl)) ?_; (with_reducible refine (spec_ReachFrom.calls k _ _ l0_0 _ _ l1 y27 y28 _ HO10.C HO10.c HO19.C HO19.c E3.out).mono ?_); rintro e w29 ⟨v0_, rfl, ho0, hb⟩; refine ⟨_, rfl, ?_⟩; obtain ⟨lo31, hi32, HO30, oa33, ob34, NW2⟩ := new1 (F := fun lo_ hi_ => Held (Kd.int .i64) 3 w29 w.heap.size lo_ hi_ v0_ y27) (held_new ho0 hb HB.out) hb NW; replace BK2 := BK2.same hb; replace HO10 := HO10.same hb; replace HO19 := HO19.same hb; replace HB := Aside0.mk (below_step HB.out hb); replace NW := Nat.le_trans NW hb.size; replace NW := NW2; skip; obtain ⟨A35, c36, e37⟩ := HO30.slice; subst e37; clear hb ho0; have hczq38_0 : w29.cell? ⟨g1, 0, none⟩ = some (.slice A0_0 l0_0.length c0_0) := (blk_cell BK2.b 0).trans rfl; have hfzq38_0 := blk_frozen BK2.b 0) | ((with_reducible refine gate_callee (f := 31) rfl ?_); refine goesL_ (some 34) rfl rfl Try.func31 (by kernel_rfl) rfl #[.agg #[.slice A0_0 l0_0.length c0_0]] rfl (by (try simp only [List.map_toArray, List.map_cons, List.map_nil]); first | done | rfl | (simp only [List.length_drop, List.length_take]; rfl)) ?_; (with_reducible refine (laws_toGraph.calls k _ _ l0_0 l0_0 _ (Kd.C_below HR0_0.out HB.out) HC0_0.out E1.out).mono ?_); rintro e w39 ⟨v0_, rfl, ho0, hb⟩; refine ⟨_, rfl, ?_⟩; obtain ⟨lo41, hi42, HO40, oa43, ob44, NW2⟩ := new1 (F := fun lo_ hi_ => HeldS (Kd.slice 3 (Kd.int .i64)) 31 w39 w.heap.size lo_ hi_ v0_ l0_0) (heldS_new ho0 hb HB.out) hb NW; replace BK2 := BK2.same hb; replace HO10 := HO10.same hb; replace HO19 := HO19.same hb; replace HO30 := HO30.same hb; replace HB := Aside0.mk (below_step HB.out hb); replace NW := Nat.le_trans NW hb.size; replace NW := NW2; skip; obtain ⟨A45, c46, e47⟩ := HO40.slice; subst e47; clear hb ho0) | ((with_reducible refine gate_dst (N := 8) rfl ?_); refine box_event ?hg (N := 8) ?hd (cs := #[.slice none 0 0]) (t := 46) ?hr ?_; (case hd => rfl); (case hg => rfl); (case hr => first | (go_simp; done) | (go_simp; rfl)); intro g48 hg w50 hbox hb; have BK49 := box_new (w := w) (W := w39) HB.out hg hbox; have oa51 := new_g (W := w39) hg NW; replace BK2 := BK2.same hb; replace HO10 := HO10.same hb; replace HO19 := HO19.same hb; replace HO30 := HO30.same hb; replace HO40 := HO40.same hb; replace HB := Aside0.mk (below_step HB.out hb); replace NW := Nat.le_trans NW hb.size; replace NW := BK49.lt; clear hb hbox hg) | ((with_reducible refine gate_ (.store 46 (.tmp 8) (.tmp 34)) rfl ?_); refine store_event 8 (.tmp 34) rfl rfl rfl BK49 rfl [.slice A45 l0_0.length c46] rfl rfl ?hs rfl ?h1 ?_; (case hs => kernel_rfl); (case h1 => (simp only [List.mem_cons, List.not_mem_nil, or_false]; (repeat' (first | (rintro _ (rfl | h_); rfl; revert h_) | rintro _ rfl)); all_goals rfl)); intro w52 hbx hb hk; replace BK2 := BK2.move hk (by omega); replace HO10 := HO10.move hk (by omega); replace HO19 := HO19.move hk (by omega); replace HO30 := HO30.move hk (by omega); replace HO40 := HO40.move hk (by omega); replace BK49 := hbx; replace NW := Nat.le_trans NW hk.1; replace HB := Aside0.mk (HB.out.trans hb); clear hk hb) | ((with_reducible refine gate_callee (f := 50) rfl ?_); refine goesL_ (some 36) rfl rfl Try.func50 (by kernel_rfl) rfl #[.slice A1 l1.length c1] rfl (by (try simp only [List.map_toArray, List.map_cons, List.map_nil]); first | done | rfl | (simp only [List.length_drop, List.length_take]; rfl)) ?_; (with_reducible refine (laws_toIntS.calls k _ _ l1 l1 _ (Kd.C_below HR1.out HB.out) HC1.out E2.out).mono ?_); rintro e w53 ⟨v0_, rfl, ho0, hb⟩; refine ⟨_, rfl, ?_⟩; obtain ⟨lo55, hi56, HO54, oa57, ob58, NW2⟩ := new1 (F := fun lo_ hi_ => Held (Kd.int .i64) 3 w53 w.heap.size lo_ hi_ v0_ l1) (held_new ho0 hb HB.out) hb NW; replace BK2 := BK2.same hb; replace HO10 := HO10.same hb; replace HO19 := HO19.same hb; replace HO30 := HO30.same hb; replace HO40 := HO40.same hb; replace BK49 := BK49.same hb; replace HB := Aside0.mk (below_step HB.out hb); replace NW := Nat.le_trans NW hb.size; replace NW := NW2; skip; obtain ⟨A59, c60, e61⟩ := HO54.slice; subst e61; clear hb ho0; have hczq62_0 : w53.cell? ⟨g48, 0, none⟩ = some (.slice A45 l0_0.length c46) := (blk_cell BK49.b 0).trans rfl; have hfzq62_0 := blk_frozen BK49.b 0) | ((with_reducible refine gate_callee (f := 51) rfl ?_); refine goesL_ (some 40) rfl rfl Try.func51 (by kernel_rfl) rfl #[.agg #[.slice A45 l0_0.length c46], .slice A59 l1.length c60] rfl (by (try simp only [List.map_toArray, List.map_cons, List.map_nil]); first | done | rfl | (simp only [List.length_drop, List.length_take]; rfl)) ?_; (with_reducible refine (impl_ReachFrom.calls k _ _ l0_0 _ _ l1 y27 y28 _ HO40.C HO40.c HO54.C HO54.c E4.out).mono ?_); rintro e w63 ⟨v0_, rfl, ho0, hb⟩; refine ⟨_, rfl, ?_⟩; obtain ⟨lo65, hi66, HO64, oa67, ob68, NW2⟩ := new1 (F := fun lo_ hi_ => Held (Kd.int .i64) 3 w63 w.heap.size lo_ hi_ v0_ y27) (held_new ho0 hb HB.out) hb NW; replace BK2 := BK2.same hb; replace HO10 := HO10.same hb; replace HO19 := HO19.same hb; replace HO30 := HO30.same hb; replace HO40 := HO40.same hb; replace BK49 := BK49.same hb; replace HO54 := HO54.same hb; replace HB := Aside0.mk (below_step HB.out hb); replace NW := Nat.le_trans NW hb.size; replace NW := NW2; skip; obtain ⟨A69, c70, e71⟩ := HO64.slice; subst e71; clear hb ho0) | ((with_reducible refine gate_callee (f := 52) rfl ?_); refine goesL_ (some 45) rfl rfl Try.func52 (by kernel_rfl) rfl #[.slice A69 y27.length c70, .slice A35 y27.length c36] rfl (by (try simp only [List.map_toArray, List.map_cons, List.map_nil]); first | done | rfl | (simp only [List.length_drop, List.length_take]; rfl)) ?_; (with_reducible refine (laws_eqIntS.calls k _ _ y27 _ _ y27 true _ HO64.C HO64.c HO30.C HO30.c E5.out).mono ?_); rintro e w72 ⟨rfl, hb⟩; refine ⟨_, rfl, ?_⟩; replace hb := hb.below; replace BK2 := BK2.same hb; replace HO10 := HO10.same hb; replace HO19 := HO19.same hb; replace HO30 := HO30.same hb; replace HO40 := HO40.same hb; replace BK49 := BK49.same hb; replace HO54 := HO54.same hb; replace HO64 := HO64.same hb; replace HB := Aside0.mk (below_step HB.out hb); replace NW := Nat.le_trans NW hb.size; clear hb))
  (try simp only [Act.put, List.setIfInBounds_toArray, List.set_cons_zero, List.set_cons_succ])
  try go_wp2
  have hb : Below w72.heap.size w72 w72.drew := below_drew (Below.refl _ _)
  replace BK2 := BK2.same hb
  replace HO10 := HO10.same hb
  replace HO19 := HO19.same hb
  replace HO30 := HO30.same hb
  replace HO40 := HO40.same hb
  replace BK49 := BK49.same hb
  replace HO54 := HO54.same hb
  replace HO64 := HO64.same hb
  replace HB := Aside0.mk (below_step HB.out hb)
  replace NW := Nat.le_trans NW hb.size
  clear hb
  have hL_ : 0 ≤ 0 := Nat.le_refl 0
  refine start_ (n := 5) (S := fun w' => w'.cell? ⟨g48, 0, none⟩ = some (.slice A45 l0_0.length c46) ∧ w'.cell? ⟨g1, 0, none⟩ = some (.slice A0_0 l0_0.length c0_0)) (ds := []) #[false, false, false, false, false] (by kernel_rfl) rfl rfl ⟨(blk_cell BK49.b 0).trans rfl, (blk_cell BK2.b 0).trans rfl⟩ (fun hHeld => ?_)
  generalize w72.drew = w73 at BK2 HO10 HO19 HO30 HO40 BK49 HO54 HO64 HB NW hHeld ⊢
  clear hL_
  refine take_ (i := 0) (N := some 52) (v := ?_) (a' := ?_) #[true, false, false, false, false] rfl rfl (by kernel_rfl) (fun _ _ _ h => h) (Or.inl ⟨by rfl, ?_⟩) hHeld ?_ ?_
  rotate_left
  · rintro w' ⟨s0, s1⟩
    go_simp
    with_reducible rfl
  rotate_left
  · simp only [Act.put, List.setIfInBounds_toArray, List.set_cons_zero, List.set_cons_succ, i64_w, i32_w]
    rfl
  refine take_ (i := 1) (N := some 53) (v := ?_) (a' := ?_) #[true, true, false, false, false] rfl rfl (by kernel_rfl) (fun _ _ _ h => h) (Or.inl ⟨by rfl, ?_⟩) hHeld ?_ ?_
  rotate_left
  · rintro w' ⟨s0, s1⟩
    go_simp
    with_reducible rfl
  rotate_left
  · simp only [Act.put, List.setIfInBounds_toArray, List.set_cons_zero, List.set_cons_succ, i64_w, i32_w]
    rfl
  refine one_ (i := 2) (N := some 54) #[true, true, true, false, false] rfl rfl (by kernel_rfl) (by decide) (fun K hK => ?_)
  refine goes_ Try.func31 (by kernel_rfl) rfl #[.agg #[.slice A0_0 l0_0.length c0_0]] (by rfl) rfl rfl (by (try simp only [List.map_toArray, List.map_cons, List.map_nil]); first | done | rfl | (simp only [List.length_drop, List.length_take]; rfl)) ?_
  with_reducible refine (laws_toGraph.calls k _ _ l0_0 l0_0 _ (Kd.C_below HR0_0.out HB.out) HC0_0.out E1.out).mono ?_
  rintro e w74 ⟨v0_, rfl, ho0, hb⟩
  refine ⟨_, rfl, ?_⟩
  obtain ⟨lo76, hi77, HO75, oa78, ob79, NW2⟩ := new1 (F := fun lo_ hi_ => HeldS (Kd.slice 3 (Kd.int .i64)) 31 w74 w.heap.size lo_ hi_ v0_ l0_0) (heldS_new ho0 hb HB.out) hb NW
  replace BK2 := BK2.same hb
  replace HO10 := HO10.same hb
  replace HO19 := HO19.same hb
  replace HO30 := HO30.same hb
  replace HO40 := HO40.same hb
  replace BK49 := BK49.same hb
  replace HO54 := HO54.same hb
  replace HO64 := HO64.same hb
  replace HB := Aside0.mk (below_step HB.out hb)
  replace NW := Nat.le_trans NW hb.size
  replace NW := NW2
  skip
  obtain ⟨A80, c81, e82⟩ := HO75.slice
  subst e82
  clear hb ho0
  refine hK.out _ _ ⟨(blk_cell BK49.b 0).trans rfl, (blk_cell BK2.b 0).trans rfl⟩ (fun hHeld => ?_)
  clear hK K
  refine norm_ (a' := ?_) ?_ ?_
  rotate_left
  · show Act.put _ (some 54) _ = _
    simp only [Act.put, List.setIfInBounds_toArray, List.set_cons_zero, List.set_cons_succ, i64_w, i32_w]
    rfl
  refine one_ (i := 3) (N := some 55) #[true, true, true, true, false] rfl rfl (by kernel_rfl) (by decide) (fun K hK => ?_)
  refine goes_ Try.func33 (by kernel_rfl) rfl #[.agg #[.slice A45 l0_0.length c46], .agg #[.slice A80 l0_0.length c81]] (by rfl) rfl rfl (by (try simp only [List.map_toArray, List.map_cons, List.map_nil]); first | done | rfl | (simp only [List.length_drop, List.length_take]; rfl)) ?_
  with_reducible refine (laws_eqGraph.calls k _ _ l0_0 _ _ l0_0 true _ HO40.C HO40.c HO75.C HO75.c E6.out).mono ?_
  rintro e w83 ⟨rfl, hb⟩
  refine ⟨_, rfl, ?_⟩
  replace BK2 := BK2.same hb
  replace HO10 := HO10.same hb
  replace HO19 := HO19.same hb
  replace HO30 := HO30.same hb
  replace HO40 := HO40.same hb
  replace BK49 := BK49.same hb
  replace HO54 := HO54.same hb
  replace HO64 := HO64.same hb
  replace HO75 := HO75.same hb
  replace HB := Aside0.mk (below_step HB.out hb)
  replace NW := Nat.le_trans NW hb.size
  clear hb
  refine hK.out _ _ ⟨(blk_cell BK49.b 0).trans rfl, (blk_cell BK2.b 0).trans rfl⟩ (fun hHeld => ?_)
  clear hK K
  refine norm_ (a' := ?_) ?_ ?_
  rotate_left
  · show Act.put _ (some 55) _ = _
    simp only [Act.put, List.setIfInBounds_toArray, List.set_cons_zero, List.set_cons_succ, i64_w, i32_w]
    rfl
  refine pure_ (i := 4) (N := some 56) (v := ?_) (a' := ?_) #[true, true, true, true, true] rfl rfl (by kernel_rfl) (fun _ _ _ h => h) (Or.inl ⟨by rfl, ?_⟩) ?_ ?_
  rotate_left
  · intro w'
    go_simp
    with_reducible rfl
  rotate_left
  · simp only [Act.put, List.setIfInBounds_toArray, List.set_cons_zero, List.set_cons_succ, i64_w, i32_w]
    rfl
  refine done_ (by kernel_rfl) ?_
  go_wp2_with (first | ((with_reducible refine gate_callee (f := 50) rfl ?_); refine goesL_ (some 59) rfl rfl Try.func50 (by kernel_rfl) rfl #[.slice A1 l1.length c1] rfl (by (try simp only [List.map_toArray, List.map_cons, List.map_nil]); first | done | rfl | (simp only [List.length_drop, List.length_take]; rfl)) ?_; (with_reducible refine (laws_toIntS.calls k _ _ l1 l1 _ (Kd.C_below HR1.out HB.out) HC1.out E2.out).mono ?_); rintro e w84 ⟨v0_, rfl, ho0, hb⟩; refine ⟨_, rfl, ?_⟩; obtain ⟨lo86, hi87, HO85, oa88, ob89, NW2⟩ := new1 (F := fun lo_ hi_ => Held (Kd.int .i64) 3 w84 w.heap.size lo_ hi_ v0_ l1) (held_new ho0 hb HB.out) hb NW; replace BK2 := BK2.same hb; replace HO10 := HO10.same hb; replace HO19 := HO19.same hb; replace HO30 := HO30.same hb; replace HO40 := HO40.same hb; replace BK49 := BK49.same hb; replace HO54 := HO54.same hb; replace HO64 := HO64.same hb; replace HO75 := HO75.same hb; replace HB := Aside0.mk (below_step HB.out hb); replace NW := Nat.le_trans NW hb.size; replace NW := NW2; skip; obtain ⟨A90, c91, e92⟩ := HO85.slice; subst e92; clear hb ho0) | ((with_reducible refine gate_callee (f := 52) rfl ?_); refine goesL_ (some 60) rfl rfl Try.func52 (by kernel_rfl) rfl #[.slice A59 l1.length c60, .slice A90 l1.length c91] rfl (by (try simp only [List.map_toArray, List.map_cons, List.map_nil]); first | done | rfl | (simp only [List.length_drop, List.length_take]; rfl)) ?_; (with_reducible refine (laws_eqIntS.calls k _ _ l1 _ _ l1 true _ HO54.C HO54.c HO85.C HO85.c E7.out).mono ?_); rintro e w93 ⟨rfl, hb⟩; refine ⟨_, rfl, ?_⟩; replace hb := hb.below; replace BK2 := BK2.same hb; replace HO10 := HO10.same hb; replace HO19 := HO19.same hb; replace HO30 := HO30.same hb; replace HO40 := HO40.same hb; replace BK49 := BK49.same hb; replace HO54 := HO54.same hb; replace HO64 := HO64.same hb; replace HO75 := HO75.same hb; replace HO85 := HO85.same hb; replace HB := Aside0.mk (below_step HB.out hb); replace NW := Nat.le_trans NW hb.size; clear hb; have hczq94_0 : w93.cell? ⟨g48, 0, none⟩ = some (.slice A45 l0_0.length c46) := (blk_cell BK49.b 0).trans rfl; have hfzq94_0 := blk_frozen BK49.b 0) | ((with_reducible refine gate_callee (f := 34) rfl ?_); refine goesL_ (some 64) rfl rfl Try.func34 (by kernel_rfl) rfl #[.agg #[.slice A45 l0_0.length c46], .int .i64 1] rfl (by (try simp only [List.map_toArray, List.map_cons, List.map_nil]); first | done | rfl | (simp only [List.length_drop, List.length_take]; rfl)) ?_; (with_reducible refine (laws_markGraph.calls k (fun k_ => lo41 ≤ k_ ∧ k_ < hi42) _ l0_0 1 m95 y96 w _ HB.out HO40.r E8.out).mono ?_); rintro e w97 ⟨rfl, hm0, hb, hk⟩; refine ⟨_, rfl, ?_⟩; replace hk : Kept w93 w97 (fun k_ => lo41 ≤ k_ ∧ k_ < hi42) := hk; replace BK2 := BK2.move hk (by omega); replace HO10 := HO10.move hk (by omega); replace HO19 := HO19.move hk (by omega); replace HO30 := HO30.move hk (by omega); replace BK49 := BK49.move hk (by omega); replace HO54 := HO54.move hk (by omega); replace HO64 := HO64.move hk (by omega); replace HO75 := HO75.move hk (by omega); replace HO85 := HO85.move hk (by omega); replace HO40 := HO40.marked hm0 hk; replace NW := Nat.le_trans NW hk.1; replace HB := Aside0.mk hb; clear hk hb hm0) | ((with_reducible refine gate_callee (f := 53) rfl ?_); refine goesL_ (some 67) rfl rfl Try.func53 (by kernel_rfl) rfl #[.slice A59 l1.length c60, .int .i64 m95] rfl (by (try simp only [List.map_toArray, List.map_cons, List.map_nil]); first | done | rfl | (simp only [List.length_drop, List.length_take]; rfl)) ?_; (with_reducible refine (laws_markIntS.calls k (fun k_ => lo55 ≤ k_ ∧ k_ < hi56) _ l1 m95 m98 y99 w _ HB.out HO54.r E9.out).mono ?_); rintro e w100 ⟨rfl, hm0, hb, hk⟩; refine ⟨_, rfl, ?_⟩; replace hk : Kept w97 w100 (fun k_ => lo55 ≤ k_ ∧ k_ < hi56) := hk; replace BK2 := BK2.move hk (by omega); replace HO10 := HO10.move hk (by omega); replace HO19 := HO19.move hk (by omega); replace HO30 := HO30.move hk (by omega); replace HO40 := HO40.move hk (by omega); replace BK49 := BK49.move hk (by omega); replace HO64 := HO64.move hk (by omega); replace HO75 := HO75.move hk (by omega); replace HO85 := HO85.move hk (by omega); replace HO54 := HO54.marked rfl hm0 hk; replace NW := Nat.le_trans NW hk.1; replace HB := Aside0.mk hb; clear hk hb hm0) | ((with_reducible refine gate_callee (f := 52) rfl ?_); (with_reducible refine gate_dst (N := 73) rfl ?_); (try simp only [ce0, ce1, cr0]); refine gate_guard (by rfl) ?_; dsimp only; refine goesL_ (some 73) rfl rfl Try.func52 (by kernel_rfl) rfl #[.slice A69 y27.length c70, .slice A35 y27.length c36] rfl (by (try simp only [List.map_toArray, List.map_cons, List.map_nil]); first | done | rfl | (simp only [List.length_drop, List.length_take]; rfl)) ?_; (with_reducible refine (laws_eqIntS.calls k _ _ y27 _ _ y27 true _ HO64.C HO64.c HO30.C HO30.c E5.out).mono ?_); rintro e w101 ⟨rfl, hb⟩; refine ⟨_, rfl, ?_⟩; replace hb := hb.below; replace BK2 := BK2.same hb; replace HO10 := HO10.same hb; replace HO19 := HO19.same hb; replace HO30 := HO30.same hb; replace HO40 := HO40.same hb; replace BK49 := BK49.same hb; replace HO54 := HO54.same hb; replace HO64 := HO64.same hb; replace HO75 := HO75.same hb; replace HO85 := HO85.same hb; replace HB := Aside0.mk (below_step HB.out hb); replace NW := Nat.le_trans NW hb.size; clear hb) | ((with_reducible refine gate_callee (f := 53) rfl ?_); refine goesL_ (some 83) rfl rfl Try.func53 (by kernel_rfl) rfl #[.slice A69 y27.length c70, .int .i64 1] rfl (by (try simp only [List.map_toArray, List.map_cons, List.map_nil]); first | done | rfl | (simp only [List.length_drop, List.length_take]; rfl)) ?_; (with_reducible refine (laws_markIntS.calls k (fun k_ => lo65 ≤ k_ ∧ k_ < hi66) _ y27 1 m102 y103 w _ HB.out HO64.r E10.out).mono ?_); rintro e w104 ⟨rfl, hm0, hb, hk⟩; refine ⟨_, rfl, ?_⟩; replace hk : Kept w101 w104 (fun k_ => lo65 ≤ k_ ∧ k_ < hi66) := hk; replace BK2 := BK2.move hk (by omega); replace HO10 := HO10.move hk (by omega); replace HO19 := HO19.move hk (by omega); replace HO30 := HO30.move hk (by omega); replace HO40 := HO40.move hk (by omega); replace BK49 := BK49.move hk (by omega); replace HO54 := HO54.move hk (by omega); replace HO75 := HO75.move hk (by omega); replace HO85 := HO85.move hk (by omega); replace HO64 := HO64.marked rfl hm0 hk; replace NW := Nat.le_trans NW hk.1; replace HB := Aside0.mk hb; clear hk hb hm0) | ((with_reducible refine gate_callee (f := 54) rfl ?_); refine goesL_ (some 86) rfl rfl Try.func54 (by kernel_rfl) rfl #[.slice A69 y27.length c70, .int .i64 1] rfl (by (try simp only [List.map_toArray, List.map_cons, List.map_nil]); first | done | rfl | (simp only [List.length_drop, List.length_take]; rfl)) ?_; refine calls_of_args (args' := #[.slice A69 y103.length c70, .int .i64 1]) (by rw [← HO64.n]) ?_; (with_reducible refine (laws_heldIntS.calls k _ _ y103 1 m102 _ HO64.C HO64.c E11.out).mono ?_); rintro e w105 ⟨rfl, hb⟩; refine ⟨_, rfl, ?_⟩; replace hb := hb.below; replace BK2 := BK2.same hb; replace HO10 := HO10.same hb; replace HO19 := HO19.same hb; replace HO30 := HO30.same hb; replace HO40 := HO40.same hb; replace BK49 := BK49.same hb; replace HO54 := HO54.same hb; replace HO64 := HO64.same hb; replace HO75 := HO75.same hb; replace HO85 := HO85.same hb; replace HB := Aside0.mk (below_step HB.out hb); replace NW := Nat.le_trans NW hb.size; clear hb; have hczq106_0 : w105.cell? ⟨g1, 0, none⟩ = some (.slice A0_0 l0_0.length c0_0) := (blk_cell BK2.b 0).trans rfl; have hfzq106_0 := blk_frozen BK2.b 0) | ((with_reducible refine gate_callee (f := 31) rfl ?_); refine goesL_ (some 94) rfl rfl Try.func31 (by kernel_rfl) rfl #[.agg #[.slice A0_0 l0_0.length c0_0]] rfl (by (try simp only [List.map_toArray, List.map_cons, List.map_nil]); first | done | rfl | (simp only [List.length_drop, List.length_take]; rfl)) ?_; (with_reducible refine (laws_toGraph.calls k _ _ l0_0 l0_0 _ (Kd.C_below HR0_0.out HB.out) HC0_0.out E1.out).mono ?_); rintro e w107 ⟨v0_, rfl, ho0, hb⟩; refine ⟨_, rfl, ?_⟩; obtain ⟨lo109, hi110, HO108, oa111, ob112, NW2⟩ := new1 (F := fun lo_ hi_ => HeldS (Kd.slice 3 (Kd.int .i64)) 31 w107 w.heap.size lo_ hi_ v0_ l0_0) (heldS_new ho0 hb HB.out) hb NW; replace BK2 := BK2.same hb; replace HO10 := HO10.same hb; replace HO19 := HO19.same hb; replace HO30 := HO30.same hb; replace HO40 := HO40.same hb; replace BK49 := BK49.same hb; replace HO54 := HO54.same hb; replace HO64 := HO64.same hb; replace HO75 := HO75.same hb; replace HO85 := HO85.same hb; replace HB := Aside0.mk (below_step HB.out hb); replace NW := Nat.le_trans NW hb.size; replace NW := NW2; skip; obtain ⟨A113, c114, e115⟩ := HO108.slice; subst e115; clear hb ho0) | ((with_reducible refine gate_callee (f := 50) rfl ?_); refine goesL_ (some 96) rfl rfl Try.func50 (by kernel_rfl) rfl #[.slice A1 l1.length c1] rfl (by (try simp only [List.map_toArray, List.map_cons, List.map_nil]); first | done | rfl | (simp only [List.length_drop, List.length_take]; rfl)) ?_; (with_reducible refine (laws_toIntS.calls k _ _ l1 l1 _ (Kd.C_below HR1.out HB.out) HC1.out E2.out).mono ?_); rintro e w116 ⟨v0_, rfl, ho0, hb⟩; refine ⟨_, rfl, ?_⟩; obtain ⟨lo118, hi119, HO117, oa120, ob121, NW2⟩ := new1 (F := fun lo_ hi_ => Held (Kd.int .i64) 3 w116 w.heap.size lo_ hi_ v0_ l1) (held_new ho0 hb HB.out) hb NW; replace BK2 := BK2.same hb; replace HO10 := HO10.same hb; replace HO19 := HO19.same hb; replace HO30 := HO30.same hb; replace HO40 := HO40.same hb; replace BK49 := BK49.same hb; replace HO54 := HO54.same hb; replace HO64 := HO64.same hb; replace HO75 := HO75.same hb; replace HO85 := HO85.same hb; replace HO108 := HO108.same hb; replace HB := Aside0.mk (below_step HB.out hb); replace NW := Nat.le_trans NW hb.size; replace NW := NW2; skip; obtain ⟨A122, c123, e124⟩ := HO117.slice; subst e124; clear hb ho0) | ((with_reducible refine gate_callee (f := 51) rfl ?_); refine goesL_ (some 97) rfl rfl Try.func51 (by kernel_rfl) rfl #[.agg #[.slice A113 l0_0.length c114], .slice A122 l1.length c123] rfl (by (try simp only [List.map_toArray, List.map_cons, List.map_nil]); first | done | rfl | (simp only [List.length_drop, List.length_take]; rfl)) ?_; (with_reducible refine (impl_ReachFrom.calls k _ _ l0_0 _ _ l1 y27 y28 _ HO108.C HO108.c HO117.C HO117.c E4.out).mono ?_); rintro e w125 ⟨v0_, rfl, ho0, hb⟩; refine ⟨_, rfl, ?_⟩; obtain ⟨lo127, hi128, HO126, oa129, ob130, NW2⟩ := new1 (F := fun lo_ hi_ => Held (Kd.int .i64) 3 w125 w.heap.size lo_ hi_ v0_ y27) (held_new ho0 hb HB.out) hb NW; replace BK2 := BK2.same hb; replace HO10 := HO10.same hb; replace HO19 := HO19.same hb; replace HO30 := HO30.same hb; replace HO40 := HO40.same hb; replace BK49 := BK49.same hb; replace HO54 := HO54.same hb; replace HO64 := HO64.same hb; replace HO75 := HO75.same hb; replace HO85 := HO85.same hb; replace HO108 := HO108.same hb; replace HO117 := HO117.same hb; replace HB := Aside0.mk (below_step HB.out hb); replace NW := Nat.le_trans NW hb.size; replace NW := NW2; skip; obtain ⟨A131, c132, e133⟩ := HO126.slice; subst e133; clear hb ho0) | ((with_reducible refine gate_callee (f := 52) rfl ?_); refine goesL_ (some 102) rfl rfl Try.func52 (by kernel_rfl) rfl #[.slice A131 y27.length c132, .slice A35 y27.length c36] rfl (by (try simp only [List.map_toArray, List.map_cons, List.map_nil]); first | done | rfl | (simp only [List.length_drop, List.length_take]; rfl)) ?_; (with_reducible refine (laws_eqIntS.calls k _ _ y27 _ _ y27 true _ HO126.C HO126.c HO30.C HO30.c E5.out).mono ?_); rintro e w134 ⟨rfl, hb⟩; refine ⟨_, rfl, ?_⟩; replace hb := hb.below; replace BK2 := BK2.same hb; replace HO10 := HO10.same hb; replace HO19 := HO19.same hb; replace HO30 := HO30.same hb; replace HO40 := HO40.same hb; replace BK49 := BK49.same hb; replace HO54 := HO54.same hb; replace HO64 := HO64.same hb; replace HO75 := HO75.same hb; replace HO85 := HO85.same hb; replace HO108 := HO108.same hb; replace HO117 := HO117.same hb; replace HO126 := HO126.same hb; replace HB := Aside0.mk (below_step HB.out hb); replace NW := Nat.le_trans NW hb.size; clear hb) | ((with_reducible refine gate_callee (f := 54) rfl ?_); refine goesL_ (some 111) rfl rfl Try.func54 (by kernel_rfl) rfl #[.slice A69 y27.length c70, .int .i64 1] rfl (by (try simp only [List.map_toArray, List.map_cons, List.map_nil]); first | done | rfl | (simp only [List.length_drop, List.length_take]; rfl)) ?_; refine calls_of_args (args' := #[.slice A69 y103.length c70, .int .i64 1]) (by rw [← HO64.n]) ?_; (with_reducible refine (laws_heldIntS.calls k _ _ y103 1 m102 _ HO64.C HO64.c E11.out).mono ?_); rintro e w135 ⟨rfl, hb⟩; refine ⟨_, rfl, ?_⟩; replace hb := hb.below; replace BK2 := BK2.same hb; replace HO10 := HO10.same hb; replace HO19 := HO19.same hb; replace HO30 := HO30.same hb; replace HO40 := HO40.same hb; replace BK49 := BK49.same hb; replace HO54 := HO54.same hb; replace HO64 := HO64.same hb; replace HO75 := HO75.same hb; replace HO85 := HO85.same hb; replace HO108 := HO108.same hb; replace HO117 := HO117.same hb; replace HO126 := HO126.same hb; replace HB := Aside0.mk (below_step HB.out hb); replace NW := Nat.le_trans NW hb.size; clear hb))
  go_ret
  exact ⟨rfl, HB.out⟩

end Go.Proofs.Ytbgbidgnlioomaa.P
