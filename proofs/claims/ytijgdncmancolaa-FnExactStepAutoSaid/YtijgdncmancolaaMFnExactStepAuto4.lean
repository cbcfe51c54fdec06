/- Go functions of this seat as Lean functions, and the proofs that the calls come to what these say; printed by a program of this session. No condition. -/
import Derived.Test.YtijgdncmancolaaP0
import Derived.Test.YtijgdncmancolaaMFnExactStepAuto3
import Derived.Test.YtijgdncmancolaaMFnExactStepAuto1
import Derived.Test.YtijgdncmancolaaMFnExactStepAuto2
namespace Go.Proofs.Ytijgdncmancolaa.P
open Go.RowKit Go.Proofs.YtijgdncmancolaaW.PrintWords Go.Proofs.YtijgdncmancolaaW.PrintLast Go.Proofs.YtijgdncmancolaaW.PrintMore Go.Proofs.Ytijgdncmancolaa.Hof
attribute [local go_sem] max2_int min2_int max_two min_two max_three min_three max_four min_four   -- for this text's walks alone
set_option linter.unusedVariables false
set_option linter.unusedSimpArgs false

/-! ### laws_eqEdgeS: function 28 -/
def laws_eqEdgeS.l0 : Nat → List (S51) → List (S51) → Int → Option (Bool)
 | 0, _, _, _ => none
 | k + 1, x0, x1, x5 => if x5 < (x0.length : Int) then (if 0 ≤ x5 then (if x5 < (x1.length : Int) then ((laws_eqEdge.f ((rd_T51 x0 x5).f0) ((rd_T51 x0 x5).f1) ((rd_T51 x0 x5).f2) ((rd_T51 x1 x5).f0) ((rd_T51 x1 x5).f1) ((rd_T51 x1 x5).f2)).bind fun t245 => (if t245 = true then (laws_eqEdgeS.l0 k x0 x1 (wrap64 (x5 + 1))) else (some false))) else (none)) else (none)) else (some true)
def laws_eqEdgeS.f (k : Nat) (l0 : List (S51)) (l1 : List (S51)) : Option (Bool) := if (l0.length : Int) = (l1.length : Int) then (laws_eqEdgeS.l0 k l0 l1 0) else (some false)
theorem laws_eqEdgeS.mono_l : ∀ k, (∀ y0 y1 y2, LeO (laws_eqEdgeS.l0 k y0 y1 y2) (laws_eqEdgeS.l0 (k + 1) y0 y1 y2))
 | 0 => fun _ _ _ r h => by simp [laws_eqEdgeS.l0] at h
 | k + 1 => by
  have ih0 := laws_eqEdgeS.mono_l k
  ·intro y0 y1 y2
   unfold laws_eqEdgeS.l0
   repeat' first
   | (with_reducible exact ih0 _ _ _)
   | (with_reducible exact LeO.refl _)
   | (with_reducible exact LeO.none _)
   | (with_reducible refine LeO.ite ?_ ?_)
   | (with_reducible refine LeO.bind ?_ (fun _ => ?_))
   | exact ih0 _ _ _
   | exact LeO.none _
   | refine LeO.ite ?_ ?_
   | refine LeO.bind ?_ (fun _ => ?_)
theorem laws_eqEdgeS.mono : ∀ a0 a1 k, LeO (laws_eqEdgeS.f k a0 a1) (laws_eqEdgeS.f (k + 1) a0 a1) := by
 intro a0 a1 k
 have ih0 := laws_eqEdgeS.mono_l k
 unfold laws_eqEdgeS.f
 repeat' first
   | (with_reducible exact ih0 _ _ _)
   | (with_reducible exact LeO.refl _)
   | (with_reducible exact LeO.none _)
   | (with_reducible refine LeO.ite ?_ ?_)
   | (with_reducible refine LeO.bind ?_ (fun _ => ?_))
   | exact ih0 _ _ _
   | exact LeO.none _
   | refine LeO.ite ?_ ?_
   | refine LeO.bind ?_ (fun _ => ?_)
def laws_eqEdgeS.T6 : Bool × List (List Nat × List Nat) := (true, [([], []), ([], []), ([0, 1], [0, 1]), ([2], [2]), ([], []), ([], []), ([4, 5], [4, 5]), ([6], [6]), ([3, 7], [3, 7]), ([8], [8])])
def laws_eqEdgeS.B6 : List Nat := [0, 0, 3, 7, 0, 0, 48, 112, 255, 511]
theorem laws_eqEdgeS.tab6 : rtab .any (opsOf Try.f28 6) = laws_eqEdgeS.T6 := by kernel_rfl
theorem laws_eqEdgeS.bits6 : waitsOk laws_eqEdgeS.T6.2 laws_eqEdgeS.B6 = true := by kernel_rfl
set_option maxHeartbeats 8000000 in
set_option maxRecDepth 100000 in
theorem laws_eqEdgeS.calls (k : Nat) (A0 : Option Addr) (c0 : Nat) (l0 : List (S51)) (A1 : Option Addr) (c1 : Nat) (l1 : List (S51)) (r : Bool) (w : World) (hr0 : Kd.C k51 w A0 l0.length l0) (hc0 : l0.length ≤ c0) (hr1 : Kd.C k51 w A1 l1.length l1) (hc1 : l1.length ≤ c1) (h : laws_eqEdgeS.f k l0 l1 = some r) :
  Calls Try.prog 28 #[.slice A0 l0.length c0, .slice A1 l1.length c1] w fun e w' => e = .returned (.bool r) ∧ Below w.heap.size w w' := by
 have hu51 := Try.underlying51
 have HR0 := am_ hr0
 have HC0 := am_ hc0
 clear hr0 hc0
 have HR1 := am_ hr1
 have HC1 := am_ hc1
 clear hr1 hc1
 have HB := am_ (Below.refl w.heap.size w)
 have H : (if (l0.length : Int) = (l1.length : Int) then (laws_eqEdgeS.l0 k l0 l1 0) else (some false)) = some r := h
 clear h
 by_cases c3 : (l0.length : Int) = (l1.length : Int)
 ·rw [if_pos c3] at H
  have c3b0 : ((l0.length : Int) == (l1.length : Int)) = true := beq_iff_eq.mpr c3
  have c3b1 : ((l0.length : Int) != (l1.length : Int)) = false := bne_eq_false_iff_eq.mpr c3
  have c3b2 : (l0.length == l1.length) = true := by first | simpa using c3 | (simp at c3 ⊢; omega)
  clear c3
  have H' := am_ H
  clear H
  go_enter Try.func28, Try.ntmps28
  go_wp2
  go_loopg [5] k (fun kq v5 w' => ∃ (x5_1 : Int), v5 = .int .i64 x5_1 ∧ Aside0 (laws_eqEdgeS.l0 kq l0 l1 x5_1 = some r) ∧ Aside0 (kq ≤ k) ∧ Aside0 (Below w.heap.size w w'))
  case atStart => exact ⟨(0), (by first | rfl | (simp; done) | (simp [*]; done)), H', ⟨Nat.le_refl _⟩, ⟨by repeat (first | (with_reducible first | exact HB.out | apply below_alloc | apply pw_below_drewN | apply below_drew1) | exact HB.out)⟩⟩
  case round =>
   clear H'
   try clear c1
   try clear c2
   try clear p2
   try clear c3
   try clear c3b0
   try clear c3b1
   try clear c3b2
   obtain ⟨x5_1, rfl, HA, HK1, HB⟩ := hrel
   cases gk with
   | zero => exact absurd HA.out (by simp [laws_eqEdgeS.l0])
   | succ k1 =>
    have H := HA.out
    clear HA
    simp only [laws_eqEdgeS.l0] at H
    by_cases c4 : x5_1 < (l0.length : Int)
    ·rw [if_pos c4] at H
     have c4b0 : decide (x5_1 < (l0.length : Int)) = true := decide_eq_true c4
     clear c4
     by_cases c5 : 0 ≤ x5_1
     ·rw [if_pos c5] at H
      have c5b0 : decide (0 ≤ x5_1) = true := decide_eq_true c5
      clear c5
      by_cases c6 : x5_1 < (l1.length : Int)
      ·rw [if_pos c6] at H
       have c6b0 : decide (x5_1 < (l1.length : Int)) = true := decide_eq_true c6
       clear c6
       replace H := Option.bind_eq_some_iff.mp H
       obtain ⟨t245, A70, H⟩ := H
       replace H : (if t245 = true then (laws_eqEdgeS.l0 k1 l0 l1 (wrap64 (x5_1 + 1))) else (some false)) = some r := H
       have A7 := am_ A70
       clear A70
       by_cases c8 : t245 = true
       ·subst c8
        have H1 : (laws_eqEdgeS.l0 k1 l0 l1 (wrap64 (x5_1 + 1))) = some r := by rw [if_pos rfl] at H; exact H
        clear H
        have H := H1
        clear H1
        have H' := am_ H
        clear H
        try go_wp2
        have n0_ := am_ (below_drew1 HB.out)
        clear HB
        have HB := n0_
        clear n0_
        have p243 : 0 ≤ (x5_1 : Int) := of_decide_eq_true (by first | (with_reducible assumption) | assumption)
        have q243 : x5_1 < (l0.length : Int) := of_decide_eq_true (by first | (with_reducible assumption) | assumption)
        obtain ⟨ad243, e243, hx243_0, hx243_1, hx243_2⟩ := at_T51 HR0.out x5_1 p243 q243
        have hw243_2 := hx243_2
        have hw243_1 := hx243_1
        have hw243_0 := hx243_0
        cases e243
        (try replace hx243_0 := (HB.out.cell (World.block_lt_of_cell? w _ hx243_0)).trans hx243_0)
        (try replace hx243_1 := (HB.out.cell (World.block_lt_of_cell? w _ hx243_1)).trans hx243_1)
        (try replace hx243_2 := (HB.out.cell (World.block_lt_of_cell? w _ hx243_2)).trans hx243_2)
        replace p243 := eq_true p243
        replace q243 := eq_true q243
        have p244 : 0 ≤ (x5_1 : Int) := of_decide_eq_true (by first | (with_reducible assumption) | assumption)
        have q244 : x5_1 < (l1.length : Int) := of_decide_eq_true (by first | (with_reducible assumption) | assumption)
        obtain ⟨ad244, e244, hx244_0, hx244_1, hx244_2⟩ := at_T51 HR1.out x5_1 p244 q244
        have hw244_2 := hx244_2
        have hw244_1 := hx244_1
        have hw244_0 := hx244_0
        cases e244
        (try replace hx244_0 := (HB.out.cell (World.block_lt_of_cell? w _ hx244_0)).trans hx244_0)
        (try replace hx244_1 := (HB.out.cell (World.block_lt_of_cell? w _ hx244_1)).trans hx244_1)
        (try replace hx244_2 := (HB.out.cell (World.block_lt_of_cell? w _ hx244_2)).trans hx244_2)
        replace p244 := eq_true p244
        replace q244 := eq_true q244
        refine start_ (n := 10) (S := fun w' => w'.cell? (ad243.add ((x5_1).toNat * 3)) = some (.int .i64 ((rd_T51 l0 x5_1).f0)) ∧ w'.cell? ⟨(ad243.add ((x5_1).toNat * 3)).block, (ad243.add ((x5_1).toNat * 3)).off + 1, none⟩ = some (.int .i64 ((rd_T51 l0 x5_1).f1)) ∧ w'.cell? ⟨(ad243.add ((x5_1).toNat * 3)).block, (ad243.add ((x5_1).toNat * 3)).off + 2, none⟩ = some (.int .i64 ((rd_T51 l0 x5_1).f2)) ∧ w'.cell? (ad244.add ((x5_1).toNat * 3)) = some (.int .i64 ((rd_T51 l1 x5_1).f0)) ∧ w'.cell? ⟨(ad244.add ((x5_1).toNat * 3)).block, (ad244.add ((x5_1).toNat * 3)).off + 1, none⟩ = some (.int .i64 ((rd_T51 l1 x5_1).f1)) ∧ w'.cell? ⟨(ad244.add ((x5_1).toNat * 3)).block, (ad244.add ((x5_1).toNat * 3)).off + 2, none⟩ = some (.int .i64 ((rd_T51 l1 x5_1).f2))) (ds := []) #[false, false, false, false, false, false, false, false, false, false] (by kernel_rfl) rfl rfl ⟨((HB.out.cell (World.block_lt_of_cell? w _ hw243_0)).trans hw243_0), ((HB.out.cell (World.block_lt_of_cell? w _ hw243_1)).trans hw243_1), ((HB.out.cell (World.block_lt_of_cell? w _ hw243_2)).trans hw243_2), ((HB.out.cell (World.block_lt_of_cell? w _ hw244_0)).trans hw244_0), ((HB.out.cell (World.block_lt_of_cell? w _ hw244_1)).trans hw244_1), ((HB.out.cell (World.block_lt_of_cell? w _ hw244_2)).trans hw244_2)⟩ (fun hHeld => ?_); refine with_tabW laws_eqEdgeS.tab6 laws_eqEdgeS.bits6 (fun HT_ HW_ => ?_)
        generalize wr.drew = w9 at HB hx243_0 hx243_1 hx243_2 hx244_0 hx244_1 hx244_2 hHeld ⊢
        refine Sh.pA 0 17 (Sh.pre 10 1) (any_of HT_.out (by kernel_rfl)) ?_
        refine Sh.pA 1 18 (Sh.pre 10 2) (any_of HT_.out (by kernel_rfl)) ?_
        refine Sh.pA 2 19 (Sh.pre 10 3) (any_of HT_.out (by kernel_rfl)) ?_
        refine Sh.pA 4 21 #[true, true, true, false, true, false, false, false, false, false] (any_of HT_.out (by kernel_rfl)) ?_
        refine Sh.pA 5 22 #[true, true, true, false, true, true, false, false, false, false] (any_of HT_.out (by kernel_rfl)) ?_
        refine Sh.pA 6 23 #[true, true, true, false, true, true, true, false, false, false] (any_of HT_.out (by kernel_rfl)) ?_
        refine Sh.tA 3 20 (Sh.pre 10 7) (take_ofW HT_.out HW_.out (by kernel_rfl)) hHeld ?_ (hy := by rintro w' ⟨s0, s1, s2, s3, s4, s5⟩; go_simp; with_reducible rfl)
        refine Sh.tA 7 24 (Sh.pre 10 8) (take_ofW HT_.out HW_.out (by kernel_rfl)) hHeld ?_ (hy := by rintro w' ⟨s0, s1, s2, s3, s4, s5⟩; go_simp; with_reducible rfl)
        refine one_ (i := 8) (N := some 25) #[true, true, true, true, true, true, true, true, true, false] rfl rfl (one_of HT_.out (by kernel_rfl)) (by decide) (fun K hK => ?_)
        refine goes_ Try.func41 (by kernel_rfl) rfl #[.agg #[.int .i64 ((rd_T51 l0 x5_1).f0), .int .i64 ((rd_T51 l0 x5_1).f1), .int .i64 ((rd_T51 l0 x5_1).f2)], .agg #[.int .i64 ((rd_T51 l1 x5_1).f0), .int .i64 ((rd_T51 l1 x5_1).f1), .int .i64 ((rd_T51 l1 x5_1).f2)]] (by rfl) rfl rfl (by (try simp only [List.map_toArray, List.map_cons, List.map_nil]); first | done | rfl | (simp only [List.length_drop, List.length_take]; rfl)) ?_
        with_reducible refine (laws_eqEdge.calls ((rd_T51 l0 x5_1).f0) ((rd_T51 l0 x5_1).f1) ((rd_T51 l0 x5_1).f2) ((rd_T51 l1 x5_1).f0) ((rd_T51 l1 x5_1).f1) ((rd_T51 l1 x5_1).f2) true _ A7.out).mono ?_
        rintro e w10 ⟨rfl, hb⟩
        refine ⟨_, rfl, ?_⟩
        have n0_ := am_ (below_step Sh.bw hb)
        clear HB
        have HB := n0_
        clear n0_
        (try clear hb)
        (try clear hb2)
        (try clear hk)
        (try clear hi)
        refine hK.out _ _ ⟨((HB.out.cell (World.block_lt_of_cell? w _ hw243_0)).trans hw243_0), ((HB.out.cell (World.block_lt_of_cell? w _ hw243_1)).trans hw243_1), ((HB.out.cell (World.block_lt_of_cell? w _ hw243_2)).trans hw243_2), ((HB.out.cell (World.block_lt_of_cell? w _ hw244_0)).trans hw244_0), ((HB.out.cell (World.block_lt_of_cell? w _ hw244_1)).trans hw244_1), ((HB.out.cell (World.block_lt_of_cell? w _ hw244_2)).trans hw244_2)⟩ (fun hHeld => ?_)
        clear hK K
        refine norm_ (a' := ?_) ?_ ?_
        rotate_left
        ·show Act.put _ (some 25) _ = _
         simp only [Act.put, List.setIfInBounds_toArray, List.set_cons_zero, List.set_cons_succ, i64_w, i32_w]
         rfl
        refine Sh.pA 9 26 (Sh.pre 10 10) (any_of HT_.out (by kernel_rfl)) ?_
        refine done_ (done_of HT_.out (by kernel_rfl)) ?_
        try go_wp2
        go_roundg k1
        case measure => have := HK1.out; omega
        case rel => exact ⟨(wrap64 (x5_1 + 1)), (by first | rfl | (simp; done) | (simp [*]; done)), H', ⟨by have := HK1.out; omega⟩, ⟨by repeat (first | (with_reducible first | exact HB.out | apply below_alloc | apply pw_below_drewN | apply below_drew1) | exact HB.out)⟩⟩
       ·replace c8 := Bool.eq_false_iff.mpr c8
        subst c8
        have H1 : (some false) = some r := by rw [if_neg (show ¬ (false = true) by decide)] at H; exact H
        clear H
        have H := H1
        clear H1
        obtain rfl := Option.some.inj H
        try go_wp2
        have n0_ := am_ (below_drew1 HB.out)
        clear HB
        have HB := n0_
        clear n0_
        have p243 : 0 ≤ (x5_1 : Int) := of_decide_eq_true (by first | (with_reducible assumption) | assumption)
        have q243 : x5_1 < (l0.length : Int) := of_decide_eq_true (by first | (with_reducible assumption) | assumption)
        obtain ⟨ad243, e243, hx243_0, hx243_1, hx243_2⟩ := at_T51 HR0.out x5_1 p243 q243
        have hw243_2 := hx243_2
        have hw243_1 := hx243_1
        have hw243_0 := hx243_0
        cases e243
        (try replace hx243_0 := (HB.out.cell (World.block_lt_of_cell? w _ hx243_0)).trans hx243_0)
        (try replace hx243_1 := (HB.out.cell (World.block_lt_of_cell? w _ hx243_1)).trans hx243_1)
        (try replace hx243_2 := (HB.out.cell (World.block_lt_of_cell? w _ hx243_2)).trans hx243_2)
        replace p243 := eq_true p243
        replace q243 := eq_true q243
        have p244 : 0 ≤ (x5_1 : Int) := of_decide_eq_true (by first | (with_reducible assumption) | assumption)
        have q244 : x5_1 < (l1.length : Int) := of_decide_eq_true (by first | (with_reducible assumption) | assumption)
        obtain ⟨ad244, e244, hx244_0, hx244_1, hx244_2⟩ := at_T51 HR1.out x5_1 p244 q244
        have hw244_2 := hx244_2
        have hw244_1 := hx244_1
        have hw244_0 := hx244_0
        cases e244
        (try replace hx244_0 := (HB.out.cell (World.block_lt_of_cell? w _ hx244_0)).trans hx244_0)
        (try replace hx244_1 := (HB.out.cell (World.block_lt_of_cell? w _ hx244_1)).trans hx244_1)
        (try replace hx244_2 := (HB.out.cell (World.block_lt_of_cell? w _ hx244_2)).trans hx244_2)
        replace p244 := eq_true p244
        replace q244 := eq_true q244
        refine start_ (n := 10) (S := fun w' => w'.cell? (ad243.add ((x5_1).toNat * 3)) = some (.int .i64 ((rd_T51 l0 x5_1).f0)) ∧ w'.cell? ⟨(ad243.add ((x5_1).toNat * 3)).block, (ad243.add ((x5_1).toNat * 3)).off + 1, none⟩ = some (.int .i64 ((rd_T51 l0 x5_1).f1)) ∧ w'.cell? ⟨(ad243.add ((x5_1).toNat * 3)).block, (ad243.add ((x5_1).toNat * 3)).off + 2, none⟩ = some (.int .i64 ((rd_T51 l0 x5_1).f2)) ∧ w'.cell? (ad244.add ((x5_1).toNat * 3)) = some (.int .i64 ((rd_T51 l1 x5_1).f0)) ∧ w'.cell? ⟨(ad244.add ((x5_1).toNat * 3)).block, (ad244.add ((x5_1).toNat * 3)).off + 1, none⟩ = some (.int .i64 ((rd_T51 l1 x5_1).f1)) ∧ w'.cell? ⟨(ad244.add ((x5_1).toNat * 3)).block, (ad244.add ((x5_1).toNat * 3)).off + 2, none⟩ = some (.int .i64 ((rd_T51 l1 x5_1).f2))) (ds := []) #[false, false, false, false, false, false, false, false, false, false] (by kernel_rfl) rfl rfl ⟨((HB.out.cell (World.block_lt_of_cell? w _ hw243_0)).trans hw243_0), ((HB.out.cell (World.block_lt_of_cell? w _ hw243_1)).trans hw243_1), ((HB.out.cell (World.block_lt_of_cell? w _ hw243_2)).trans hw243_2), ((HB.out.cell (World.block_lt_of_cell? w _ hw244_0)).trans hw244_0), ((HB.out.cell (World.block_lt_of_cell? w _ hw244_1)).trans hw244_1), ((HB.out.cell (World.block_lt_of_cell? w _ hw244_2)).trans hw244_2)⟩ (fun hHeld => ?_); refine with_tabW laws_eqEdgeS.tab6 laws_eqEdgeS.bits6 (fun HT_ HW_ => ?_)
        generalize wr.drew = w11 at HB hx243_0 hx243_1 hx243_2 hx244_0 hx244_1 hx244_2 hHeld ⊢
        refine Sh.pA 0 17 (Sh.pre 10 1) (any_of HT_.out (by kernel_rfl)) ?_
        refine Sh.pA 1 18 (Sh.pre 10 2) (any_of HT_.out (by kernel_rfl)) ?_
        refine Sh.pA 2 19 (Sh.pre 10 3) (any_of HT_.out (by kernel_rfl)) ?_
        refine Sh.pA 4 21 #[true, true, true, false, true, false, false, false, false, false] (any_of HT_.out (by kernel_rfl)) ?_
        refine Sh.pA 5 22 #[true, true, true, false, true, true, false, false, false, false] (any_of HT_.out (by kernel_rfl)) ?_
        refine Sh.pA 6 23 #[true, true, true, false, true, true, true, false, false, false] (any_of HT_.out (by kernel_rfl)) ?_
        refine Sh.tA 3 20 (Sh.pre 10 7) (take_ofW HT_.out HW_.out (by kernel_rfl)) hHeld ?_ (hy := by rintro w' ⟨s0, s1, s2, s3, s4, s5⟩; go_simp; with_reducible rfl)
        refine Sh.tA 7 24 (Sh.pre 10 8) (take_ofW HT_.out HW_.out (by kernel_rfl)) hHeld ?_ (hy := by rintro w' ⟨s0, s1, s2, s3, s4, s5⟩; go_simp; with_reducible rfl)
        refine one_ (i := 8) (N := some 25) #[true, true, true, true, true, true, true, true, true, false] rfl rfl (one_of HT_.out (by kernel_rfl)) (by decide) (fun K hK => ?_)
        refine goes_ Try.func41 (by kernel_rfl) rfl #[.agg #[.int .i64 ((rd_T51 l0 x5_1).f0), .int .i64 ((rd_T51 l0 x5_1).f1), .int .i64 ((rd_T51 l0 x5_1).f2)], .agg #[.int .i64 ((rd_T51 l1 x5_1).f0), .int .i64 ((rd_T51 l1 x5_1).f1), .int .i64 ((rd_T51 l1 x5_1).f2)]] (by rfl) rfl rfl (by (try simp only [List.map_toArray, List.map_cons, List.map_nil]); first | done | rfl | (simp only [List.length_drop, List.length_take]; rfl)) ?_
        with_reducible refine (laws_eqEdge.calls ((rd_T51 l0 x5_1).f0) ((rd_T51 l0 x5_1).f1) ((rd_T51 l0 x5_1).f2) ((rd_T51 l1 x5_1).f0) ((rd_T51 l1 x5_1).f1) ((rd_T51 l1 x5_1).f2) false _ A7.out).mono ?_
        rintro e w12 ⟨rfl, hb⟩
        refine ⟨_, rfl, ?_⟩
        have n0_ := am_ (below_step Sh.bw hb)
        clear HB
        have HB := n0_
        clear n0_
        (try clear hb)
        (try clear hb2)
        (try clear hk)
        (try clear hi)
        refine hK.out _ _ ⟨((HB.out.cell (World.block_lt_of_cell? w _ hw243_0)).trans hw243_0), ((HB.out.cell (World.block_lt_of_cell? w _ hw243_1)).trans hw243_1), ((HB.out.cell (World.block_lt_of_cell? w _ hw243_2)).trans hw243_2), ((HB.out.cell (World.block_lt_of_cell? w _ hw244_0)).trans hw244_0), ((HB.out.cell (World.block_lt_of_cell? w _ hw244_1)).trans hw244_1), ((HB.out.cell (World.block_lt_of_cell? w _ hw244_2)).trans hw244_2)⟩ (fun hHeld => ?_)
        clear hK K
        refine norm_ (a' := ?_) ?_ ?_
        rotate_left
        ·show Act.put _ (some 25) _ = _
         simp only [Act.put, List.setIfInBounds_toArray, List.set_cons_zero, List.set_cons_succ, i64_w, i32_w]
         rfl
        refine Sh.pA 9 26 (Sh.pre 10 10) (any_of HT_.out (by kernel_rfl)) ?_
        refine done_ (done_of HT_.out (by kernel_rfl)) ?_
        try go_wp2
        go_ret
        exact ⟨Sh.eR, Sh.bw⟩
      ·rw [if_neg c6] at H
       exact absurd H (by simp)
     ·rw [if_neg c5] at H
      exact absurd H (by simp)
    ·rw [if_neg c4] at H
     have c4b0 : decide (x5_1 < (l0.length : Int)) = false := decide_eq_false c4
     clear c4
     obtain rfl := Option.some.inj H
     go_wp2
     go_ret
     exact ⟨Sh.eR, Sh.bw⟩
 ·rw [if_neg c3] at H
  have c3b0 : ((l0.length : Int) == (l1.length : Int)) = false := beq_eq_false_iff_ne.mpr c3
  have c3b1 : ((l0.length : Int) != (l1.length : Int)) = true := bne_iff_ne.mpr c3
  have c3b2 : (l0.length == l1.length) = false := by first | simpa using c3 | (simp at c3 ⊢; omega)
  obtain rfl := Option.some.inj H
  go_enter Try.func28, Try.ntmps28
  go_wp2
  go_ret
  exact ⟨Sh.eR, Sh.bw⟩

end Go.Proofs.Ytijgdncmancolaa.P
namespace Go.Proofs.Ytijgdncmancolaa.P
open Go.RowKit Go.Proofs.YtijgdncmancolaaW.PrintWords Go.Proofs.YtijgdncmancolaaW.PrintLast Go.Proofs.YtijgdncmancolaaW.PrintMore Go.Proofs.Ytijgdncmancolaa.Hof
attribute [local go_sem] max2_int min2_int max_two min_two max_three min_three max_four min_four   -- for this text's walks alone
set_option linter.unusedVariables false
set_option linter.unusedSimpArgs false

/-! ### laws_eqIntSS: function 29 -/
def laws_eqIntSS.l0 : Nat → List (List Int) → List (List Int) → Int → Option (Bool)
 | 0, _, _, _ => none
 | k + 1, x0, x1, x5 => if x5 < (x0.length : Int) then (if 0 ≤ x5 then (if x5 < (x1.length : Int) then ((laws_eqIntS.f k (rd_L2 x0 x5) (rd_L2 x1 x5)).bind fun t248 => (if t248 = true then (laws_eqIntSS.l0 k x0 x1 (wrap64 (x5 + 1))) else (some false))) else (none)) else (none)) else (some true)
def laws_eqIntSS.f (k : Nat) (l0 : List (List Int)) (l1 : List (List Int)) : Option (Bool) := if (l0.length : Int) = (l1.length : Int) then (laws_eqIntSS.l0 k l0 l1 0) else (some false)
theorem laws_eqIntSS.mono_l : ∀ k, (∀ y0 y1 y2, LeO (laws_eqIntSS.l0 k y0 y1 y2) (laws_eqIntSS.l0 (k + 1) y0 y1 y2))
 | 0 => fun _ _ _ r h => by simp [laws_eqIntSS.l0] at h
 | k + 1 => by
  have ih0 := laws_eqIntSS.mono_l k
  ·intro y0 y1 y2
   unfold laws_eqIntSS.l0
   repeat' first
   | (with_reducible exact ih0 _ _ _)
   | (with_reducible exact laws_eqIntS.mono _ _ _)
   | (with_reducible exact LeO.refl _)
   | (with_reducible exact LeO.none _)
   | (with_reducible refine LeO.ite ?_ ?_)
   | (with_reducible refine LeO.bind ?_ (fun _ => ?_))
   | exact ih0 _ _ _
   | exact laws_eqIntS.mono _ _ _
   | exact LeO.none _
   | refine LeO.ite ?_ ?_
   | refine LeO.bind ?_ (fun _ => ?_)
theorem laws_eqIntSS.mono : ∀ a0 a1 k, LeO (laws_eqIntSS.f k a0 a1) (laws_eqIntSS.f (k + 1) a0 a1) := by
 intro a0 a1 k
 have ih0 := laws_eqIntSS.mono_l k
 unfold laws_eqIntSS.f
 repeat' first
   | (with_reducible exact ih0 _ _ _)
   | (with_reducible exact laws_eqIntS.mono _ _ _)
   | (with_reducible exact LeO.refl _)
   | (with_reducible exact LeO.none _)
   | (with_reducible refine LeO.ite ?_ ?_)
   | (with_reducible refine LeO.bind ?_ (fun _ => ?_))
   | exact ih0 _ _ _
   | exact laws_eqIntS.mono _ _ _
   | exact LeO.none _
   | refine LeO.ite ?_ ?_
   | refine LeO.bind ?_ (fun _ => ?_)
set_option maxHeartbeats 8000000 in
set_option maxRecDepth 100000 in
theorem laws_eqIntSS.calls (k : Nat) (A0 : Option Addr) (c0 : Nat) (l0 : List (List Int)) (A1 : Option Addr) (c1 : Nat) (l1 : List (List Int)) (r : Bool) (w : World) (hr0 : Kd.C (Kd.slice 3 (Kd.int .i64)) w A0 l0.length l0) (hc0 : l0.length ≤ c0) (hr1 : Kd.C (Kd.slice 3 (Kd.int .i64)) w A1 l1.length l1) (hc1 : l1.length ≤ c1) (h : laws_eqIntSS.f k l0 l1 = some r) :
  Calls Try.prog 29 #[.slice A0 l0.length c0, .slice A1 l1.length c1] w fun e w' => e = .returned (.bool r) ∧ Drawn0 w w' := by
 have HR0 := am_ hr0
 have HC0 := am_ hc0
 clear hr0 hc0
 have HR1 := am_ hr1
 have HC1 := am_ hc1
 clear hr1 hc1
 have H : (if (l0.length : Int) = (l1.length : Int) then (laws_eqIntSS.l0 k l0 l1 0) else (some false)) = some r := h
 clear h
 by_cases c3 : (l0.length : Int) = (l1.length : Int)
 ·rw [if_pos c3] at H
  have c3b0 : ((l0.length : Int) == (l1.length : Int)) = true := beq_iff_eq.mpr c3
  have c3b1 : ((l0.length : Int) != (l1.length : Int)) = false := bne_eq_false_iff_eq.mpr c3
  have c3b2 : (l0.length == l1.length) = true := by first | simpa using c3 | (simp at c3 ⊢; omega)
  clear c3
  have H' := am_ H
  clear H
  go_enter Try.func29, Try.ntmps29
  go_wp2
  repeat (go_quiet (fail); try go_wp2)
  go_loopg [5] k (fun kq v5 w' => ∃ (x5_1 : Int), v5 = .int .i64 x5_1 ∧ Aside0 (laws_eqIntSS.l0 kq l0 l1 x5_1 = some r) ∧ Aside0 (kq ≤ k) ∧ Drawn0 w w')
  case atStart => exact ⟨(0), (by first | rfl | (simp; done) | (simp [*]; done)), H', ⟨Nat.le_refl _⟩, by repeat (first | exact Drawn0.refl _ | apply Drawn0.step)⟩
  case round =>
   clear H'
   try clear c1
   try clear c2
   try clear p2
   try clear c3
   try clear c3b0
   try clear c3b1
   try clear c3b2
   obtain ⟨x5_1, rfl, HA, HK1, ⟨m1, rfl⟩⟩ := hrel
   cases gk with
   | zero => exact absurd HA.out (by simp [laws_eqIntSS.l0])
   | succ k1 =>
    have H := HA.out
    clear HA
    simp only [laws_eqIntSS.l0] at H
    by_cases c4 : x5_1 < (l0.length : Int)
    ·rw [if_pos c4] at H
     have c4b0 : decide (x5_1 < (l0.length : Int)) = true := decide_eq_true c4
     clear c4
     by_cases c5 : 0 ≤ x5_1
     ·rw [if_pos c5] at H
      have c5b0 : decide (0 ≤ x5_1) = true := decide_eq_true c5
      clear c5
      by_cases c6 : x5_1 < (l1.length : Int)
      ·rw [if_pos c6] at H
       have c6b0 : decide (x5_1 < (l1.length : Int)) = true := decide_eq_true c6
       clear c6
       replace H := Option.bind_eq_some_iff.mp H
       obtain ⟨t248, A70, H⟩ := H
       replace H : (if t248 = true then (laws_eqIntSS.l0 k1 l0 l1 (wrap64 (x5_1 + 1))) else (some false)) = some r := H
       have A7 := am_ A70
       clear A70
       by_cases c8 : t248 = true
       ·subst c8
        have H1 : (laws_eqIntSS.l0 k1 l0 l1 (wrap64 (x5_1 + 1))) = some r := by rw [if_pos rfl] at H; exact H
        clear H
        have H := H1
        clear H1
        have H' := am_ H
        clear H
        have p246 : 0 ≤ (x5_1 : Int) := of_decide_eq_true (by first | (with_reducible assumption) | assumption)
        have q246 : x5_1 < (l0.length : Int) := of_decide_eq_true (by first | (with_reducible assumption) | assumption)
        obtain ⟨ad246, A246_0, c246_0, e246, hx246_0, hl246_0, hi246_0⟩ := at_L2 HR0.out x5_1 p246 q246
        cases e246
        have HR246_0 := am_ hi246_0
        have HC246_0 := am_ hl246_0
        clear hi246_0 hl246_0
        replace p246 := eq_true p246
        replace q246 := eq_true q246
        have p247 : 0 ≤ (x5_1 : Int) := of_decide_eq_true (by first | (with_reducible assumption) | assumption)
        have q247 : x5_1 < (l1.length : Int) := of_decide_eq_true (by first | (with_reducible assumption) | assumption)
        obtain ⟨ad247, A247_0, c247_0, e247, hx247_0, hl247_0, hi247_0⟩ := at_L2 HR1.out x5_1 p247 q247
        cases e247
        have HR247_0 := am_ hi247_0
        have HC247_0 := am_ hl247_0
        clear hi247_0 hl247_0
        replace p247 := eq_true p247
        replace q247 := eq_true q247
        go_wp2_with (first | (go_at_call 9; (with_reducible refine (laws_eqIntS.calls k1 _ _ (rd_L2 l0 x5_1) _ _ (rd_L2 l1 x5_1) true _ ?side1 ?side2 ?side3 ?side4 A7.out).mono ?_); (case side1 => repeat (first | exact HR246_0.out | (with_reducible first | refine Kd.C_alloc ?_ _ | refine Kd.C_drewN ?_ _ | refine Kd.C_drew ?_))); (case side2 => exact HC246_0.out); (case side3 => repeat (first | exact HR247_0.out | (with_reducible first | refine Kd.C_alloc ?_ _ | refine Kd.C_drewN ?_ _ | refine Kd.C_drew ?_))); (case side4 => exact HC247_0.out); rintro e w' ⟨rfl, ⟨nd, rfl⟩⟩; (try first | exact ⟨rfl, _, World.drewN_drewN _ _ _⟩ | exact ⟨rfl, _, Eq.trans (World.drewN_drewN _ _ _) (congrArg (World.drewN _) (Nat.add_assoc _ _ _))⟩)))
        repeat (go_quiet (first | (go_at_call 9; (with_reducible refine (laws_eqIntS.calls k1 _ _ (rd_L2 l0 x5_1) _ _ (rd_L2 l1 x5_1) true _ ?side1 ?side2 ?side3 ?side4 A7.out).mono ?_); (case side1 => repeat (first | exact HR246_0.out | (with_reducible first | refine Kd.C_alloc ?_ _ | refine Kd.C_drewN ?_ _ | refine Kd.C_drew ?_))); (case side2 => exact HC246_0.out); (case side3 => repeat (first | exact HR247_0.out | (with_reducible first | refine Kd.C_alloc ?_ _ | refine Kd.C_drewN ?_ _ | refine Kd.C_drew ?_))); (case side4 => exact HC247_0.out); rintro e w' ⟨rfl, ⟨nd, rfl⟩⟩; (try first | exact ⟨rfl, _, World.drewN_drewN _ _ _⟩ | exact ⟨rfl, _, Eq.trans (World.drewN_drewN _ _ _) (congrArg (World.drewN _) (Nat.add_assoc _ _ _))⟩))); try go_wp2_with (first | (go_at_call 9; (with_reducible refine (laws_eqIntS.calls k1 _ _ (rd_L2 l0 x5_1) _ _ (rd_L2 l1 x5_1) true _ ?side1 ?side2 ?side3 ?side4 A7.out).mono ?_); (case side1 => repeat (first | exact HR246_0.out | (with_reducible first | refine Kd.C_alloc ?_ _ | refine Kd.C_drewN ?_ _ | refine Kd.C_drew ?_))); (case side2 => exact HC246_0.out); (case side3 => repeat (first | exact HR247_0.out | (with_reducible first | refine Kd.C_alloc ?_ _ | refine Kd.C_drewN ?_ _ | refine Kd.C_drew ?_))); (case side4 => exact HC247_0.out); rintro e w' ⟨rfl, ⟨nd, rfl⟩⟩; (try first | exact ⟨rfl, _, World.drewN_drewN _ _ _⟩ | exact ⟨rfl, _, Eq.trans (World.drewN_drewN _ _ _) (congrArg (World.drewN _) (Nat.add_assoc _ _ _))⟩))))
        go_roundg k1
        case measure => have := HK1.out; omega
        case rel => exact ⟨(wrap64 (x5_1 + 1)), (by first | rfl | (simp; done) | (simp [*]; done)), H', ⟨by have := HK1.out; omega⟩, by repeat (first | exact Drawn0.refl _ | apply Drawn0.step)⟩
       ·replace c8 := Bool.eq_false_iff.mpr c8
        subst c8
        have H1 : (some false) = some r := by rw [if_neg (show ¬ (false = true) by decide)] at H; exact H
        clear H
        have H := H1
        clear H1
        obtain rfl := Option.some.inj H
        have p246 : 0 ≤ (x5_1 : Int) := of_decide_eq_true (by first | (with_reducible assumption) | assumption)
        have q246 : x5_1 < (l0.length : Int) := of_decide_eq_true (by first | (with_reducible assumption) | assumption)
        obtain ⟨ad246, A246_0, c246_0, e246, hx246_0, hl246_0, hi246_0⟩ := at_L2 HR0.out x5_1 p246 q246
        cases e246
        have HR246_0 := am_ hi246_0
        have HC246_0 := am_ hl246_0
        clear hi246_0 hl246_0
        replace p246 := eq_true p246
        replace q246 := eq_true q246
        have p247 : 0 ≤ (x5_1 : Int) := of_decide_eq_true (by first | (with_reducible assumption) | assumption)
        have q247 : x5_1 < (l1.length : Int) := of_decide_eq_true (by first | (with_reducible assumption) | assumption)
        obtain ⟨ad247, A247_0, c247_0, e247, hx247_0, hl247_0, hi247_0⟩ := at_L2 HR1.out x5_1 p247 q247
        cases e247
        have HR247_0 := am_ hi247_0
        have HC247_0 := am_ hl247_0
        clear hi247_0 hl247_0
        replace p247 := eq_true p247
        replace q247 := eq_true q247
        go_wp2_with (first | (go_at_call 9; (with_reducible refine (laws_eqIntS.calls k1 _ _ (rd_L2 l0 x5_1) _ _ (rd_L2 l1 x5_1) false _ ?side1 ?side2 ?side3 ?side4 A7.out).mono ?_); (case side1 => repeat (first | exact HR246_0.out | (with_reducible first | refine Kd.C_alloc ?_ _ | refine Kd.C_drewN ?_ _ | refine Kd.C_drew ?_))); (case side2 => exact HC246_0.out); (case side3 => repeat (first | exact HR247_0.out | (with_reducible first | refine Kd.C_alloc ?_ _ | refine Kd.C_drewN ?_ _ | refine Kd.C_drew ?_))); (case side4 => exact HC247_0.out); rintro e w' ⟨rfl, ⟨nd, rfl⟩⟩; (try first | exact ⟨rfl, _, World.drewN_drewN _ _ _⟩ | exact ⟨rfl, _, Eq.trans (World.drewN_drewN _ _ _) (congrArg (World.drewN _) (Nat.add_assoc _ _ _))⟩)))
        repeat (go_quiet (first | (go_at_call 9; (with_reducible refine (laws_eqIntS.calls k1 _ _ (rd_L2 l0 x5_1) _ _ (rd_L2 l1 x5_1) false _ ?side1 ?side2 ?side3 ?side4 A7.out).mono ?_); (case side1 => repeat (first | exact HR246_0.out | (with_reducible first | refine Kd.C_alloc ?_ _ | refine Kd.C_drewN ?_ _ | refine Kd.C_drew ?_))); (case side2 => exact HC246_0.out); (case side3 => repeat (first | exact HR247_0.out | (with_reducible first | refine Kd.C_alloc ?_ _ | refine Kd.C_drewN ?_ _ | refine Kd.C_drew ?_))); (case side4 => exact HC247_0.out); rintro e w' ⟨rfl, ⟨nd, rfl⟩⟩; (try first | exact ⟨rfl, _, World.drewN_drewN _ _ _⟩ | exact ⟨rfl, _, Eq.trans (World.drewN_drewN _ _ _) (congrArg (World.drewN _) (Nat.add_assoc _ _ _))⟩))); try go_wp2_with (first | (go_at_call 9; (with_reducible refine (laws_eqIntS.calls k1 _ _ (rd_L2 l0 x5_1) _ _ (rd_L2 l1 x5_1) false _ ?side1 ?side2 ?side3 ?side4 A7.out).mono ?_); (case side1 => repeat (first | exact HR246_0.out | (with_reducible first | refine Kd.C_alloc ?_ _ | refine Kd.C_drewN ?_ _ | refine Kd.C_drew ?_))); (case side2 => exact HC246_0.out); (case side3 => repeat (first | exact HR247_0.out | (with_reducible first | refine Kd.C_alloc ?_ _ | refine Kd.C_drewN ?_ _ | refine Kd.C_drew ?_))); (case side4 => exact HC247_0.out); rintro e w' ⟨rfl, ⟨nd, rfl⟩⟩; (try first | exact ⟨rfl, _, World.drewN_drewN _ _ _⟩ | exact ⟨rfl, _, Eq.trans (World.drewN_drewN _ _ _) (congrArg (World.drewN _) (Nat.add_assoc _ _ _))⟩))))
        go_ret
        exact ⟨by first | rfl | (simp; done) | (simp [*]; done), by repeat (first | exact Drawn0.refl _ | apply Drawn0.step)⟩
      ·rw [if_neg c6] at H
       exact absurd H (by simp)
     ·rw [if_neg c5] at H
      exact absurd H (by simp)
    ·rw [if_neg c4] at H
     have c4b0 : decide (x5_1 < (l0.length : Int)) = false := decide_eq_false c4
     clear c4
     obtain rfl := Option.some.inj H
     go_wp2
     repeat (go_quiet (fail); try go_wp2)
     go_ret
     exact ⟨by first | rfl | (simp; done) | (simp [*]; done), by repeat (first | exact Drawn0.refl _ | apply Drawn0.step)⟩
 ·rw [if_neg c3] at H
  have c3b0 : ((l0.length : Int) == (l1.length : Int)) = false := beq_eq_false_iff_ne.mpr c3
  have c3b1 : ((l0.length : Int) != (l1.length : Int)) = true := bne_iff_ne.mpr c3
  have c3b2 : (l0.length == l1.length) = false := by first | simpa using c3 | (simp at c3 ⊢; omega)
  obtain rfl := Option.some.inj H
  go_enter Try.func29, Try.ntmps29
  go_wp2
  repeat (go_quiet (fail); try go_wp2)
  go_ret
  exact ⟨by first | rfl | (simp; done) | (simp [*]; done), by repeat (first | exact Drawn0.refl _ | apply Drawn0.step)⟩

end Go.Proofs.Ytijgdncmancolaa.P
namespace Go.Proofs.Ytijgdncmancolaa.P
open Go.RowKit Go.Proofs.YtijgdncmancolaaW.PrintWords Go.Proofs.YtijgdncmancolaaW.PrintLast Go.Proofs.YtijgdncmancolaaW.PrintMore Go.Proofs.Ytijgdncmancolaa.Hof
attribute [local go_sem] max2_int min2_int max_two min_two max_three min_three max_four min_four   -- for this text's walks alone
set_option linter.unusedVariables false
set_option linter.unusedSimpArgs false

/-! ### laws_eqAuto: function 10 -/
def laws_eqAuto.f (k : Nat) (a0_0 : Int) (l0_1 : List Int) (l0_2 : List (S51)) (l0_3 : List (List Int)) (a1_0 : Int) (l1_1 : List Int) (l1_2 : List (S51)) (l1_3 : List (List Int)) : Option (Bool) := if a0_0 = a1_0 then ((laws_eqIntS.f k l0_1 l1_1).bind fun t251 => (if t251 = true then ((laws_eqEdgeS.f k l0_2 l1_2).bind fun t252 => (if t252 = true then ((laws_eqIntSS.f k l0_3 l1_3).bind fun t253 => (if t253 = true then (some true) else (some false))) else (some false))) else (some false))) else (some false)
theorem laws_eqAuto.mono : ∀ a0 a1 a2 a3 a4 a5 a6 a7 k, LeO (laws_eqAuto.f k a0 a1 a2 a3 a4 a5 a6 a7) (laws_eqAuto.f (k + 1) a0 a1 a2 a3 a4 a5 a6 a7) := by
 intro a0 a1 a2 a3 a4 a5 a6 a7 k
 unfold laws_eqAuto.f
 repeat' first
   | (with_reducible exact laws_eqEdgeS.mono _ _ _)
   | (with_reducible exact laws_eqIntS.mono _ _ _)
   | (with_reducible exact laws_eqIntSS.mono _ _ _)
   | (with_reducible exact LeO.refl _)
   | (with_reducible exact LeO.none _)
   | (with_reducible refine LeO.ite ?_ ?_)
   | (with_reducible refine LeO.bind ?_ (fun _ => ?_))
   | exact laws_eqEdgeS.mono _ _ _
   | exact laws_eqIntS.mono _ _ _
   | exact laws_eqIntSS.mono _ _ _
   | exact LeO.none _
   | refine LeO.ite ?_ ?_
   | refine LeO.bind ?_ (fun _ => ?_)
set_option maxHeartbeats 8000000 in
set_option maxRecDepth 100000 in
theorem laws_eqAuto.calls (k : Nat) (a0_0 : Int) (A0_1 : Option Addr) (c0_1 : Nat) (l0_1 : List Int) (A0_2 : Option Addr) (c0_2 : Nat) (l0_2 : List (S51)) (A0_3 : Option Addr) (c0_3 : Nat) (l0_3 : List (List Int)) (a1_0 : Int) (A1_1 : Option Addr) (c1_1 : Nat) (l1_1 : List Int) (A1_2 : Option Addr) (c1_2 : Nat) (l1_2 : List (S51)) (A1_3 : Option Addr) (c1_3 : Nat) (l1_3 : List (List Int)) (r : Bool) (w : World) (hr0_1 : Kd.C (Kd.int .i64) w A0_1 l0_1.length l0_1) (hc0_1 : l0_1.length ≤ c0_1) (hr0_2 : Kd.C k51 w A0_2 l0_2.length l0_2) (hc0_2 : l0_2.length ≤ c0_2) (hr0_3 : Kd.C (Kd.slice 3 (Kd.int .i64)) w A0_3 l0_3.length l0_3) (hc0_3 : l0_3.length ≤ c0_3) (hr1_1 : Kd.C (Kd.int .i64) w A1_1 l1_1.length l1_1) (hc1_1 : l1_1.length ≤ c1_1) (hr1_2 : Kd.C k51 w A1_2 l1_2.length l1_2) (hc1_2 : l1_2.length ≤ c1_2) (hr1_3 : Kd.C (Kd.slice 3 (Kd.int .i64)) w A1_3 l1_3.length l1_3) (hc1_3 : l1_3.length ≤ c1_3) (h : laws_eqAuto.f k a0_0 l0_1 l0_2 l0_3 a1_0 l1_1 l1_2 l1_3 = some r) :
  Calls Try.prog 10 #[.agg #[.int .i64 a0_0, .slice A0_1 l0_1.length c0_1, .slice A0_2 l0_2.length c0_2, .slice A0_3 l0_3.length c0_3], .agg #[.int .i64 a1_0, .slice A1_1 l1_1.length c1_1, .slice A1_2 l1_2.length c1_2, .slice A1_3 l1_3.length c1_3]] w fun e w' => e = .returned (.bool r) ∧ Below w.heap.size w w' := by
 have hu32 := Try.underlying32
 have HR0_1 := am_ hr0_1
 have HC0_1 := am_ hc0_1
 clear hr0_1 hc0_1
 have HR0_2 := am_ hr0_2
 have HC0_2 := am_ hc0_2
 clear hr0_2 hc0_2
 have HR0_3 := am_ hr0_3
 have HC0_3 := am_ hc0_3
 clear hr0_3 hc0_3
 have HR1_1 := am_ hr1_1
 have HC1_1 := am_ hc1_1
 clear hr1_1 hc1_1
 have HR1_2 := am_ hr1_2
 have HC1_2 := am_ hc1_2
 clear hr1_2 hc1_2
 have HR1_3 := am_ hr1_3
 have HC1_3 := am_ hc1_3
 clear hr1_3 hc1_3
 have HB := am_ (Below.refl w.heap.size w)
 have H : (if a0_0 = a1_0 then ((laws_eqIntS.f k l0_1 l1_1).bind fun t251 => (if t251 = true then ((laws_eqEdgeS.f k l0_2 l1_2).bind fun t252 => (if t252 = true then ((laws_eqIntSS.f k l0_3 l1_3).bind fun t253 => (if t253 = true then (some true) else (some false))) else (some false))) else (some false))) else (some false)) = some r := h
 clear h
 by_cases c3 : a0_0 = a1_0
 ·rw [if_pos c3] at H
  have c3b0 : (a0_0 == a1_0) = true := beq_iff_eq.mpr c3
  have c3b1 : (a0_0 != a1_0) = false := bne_eq_false_iff_eq.mpr c3
  clear c3
  replace H := Option.bind_eq_some_iff.mp H
  obtain ⟨t251, A40, H⟩ := H
  replace H : (if t251 = true then ((laws_eqEdgeS.f k l0_2 l1_2).bind fun t252 => (if t252 = true then ((laws_eqIntSS.f k l0_3 l1_3).bind fun t253 => (if t253 = true then (some true) else (some false))) else (some false))) else (some false)) = some r := H
  have A4 := am_ A40
  clear A40
  by_cases c5 : t251 = true
  ·subst c5
   have H1 : ((laws_eqEdgeS.f k l0_2 l1_2).bind fun t252 => (if t252 = true then ((laws_eqIntSS.f k l0_3 l1_3).bind fun t253 => (if t253 = true then (some true) else (some false))) else (some false))) = some r := by rw [if_pos rfl] at H; exact H
   clear H
   have H := H1
   clear H1
   replace H := Option.bind_eq_some_iff.mp H
   obtain ⟨t252, A60, H⟩ := H
   replace H : (if t252 = true then ((laws_eqIntSS.f k l0_3 l1_3).bind fun t253 => (if t253 = true then (some true) else (some false))) else (some false)) = some r := H
   have A6 := am_ A60
   clear A60
   by_cases c7 : t252 = true
   ·subst c7
    have H1 : ((laws_eqIntSS.f k l0_3 l1_3).bind fun t253 => (if t253 = true then (some true) else (some false))) = some r := by rw [if_pos rfl] at H; exact H
    clear H
    have H := H1
    clear H1
    replace H := Option.bind_eq_some_iff.mp H
    obtain ⟨t253, A80, H⟩ := H
    replace H : (if t253 = true then (some true) else (some false)) = some r := H
    have A8 := am_ A80
    clear A80
    by_cases c9 : t253 = true
    ·subst c9
     have H1 : (some true) = some r := by rw [if_pos rfl] at H; exact H
     clear H
     have H := H1
     clear H1
     obtain rfl := Option.some.inj H
     go_enter Try.func10, Try.ntmps10
     go_wp2_with (first | ((with_reducible refine gate_dst (N := 2) rfl ?_); refine Sh.bx (N := 2) (cs := #[.int .i64 a0_0, .slice A0_1 l0_1.length c0_1, .slice A0_2 l0_2.length c0_2, .slice A0_3 l0_3.length c0_3]) (t := 32) (h := ?_); intro gb249 hg w10 hbox hb; have n0_ := am_ (below_step Sh.bw hb); have n1_ := am_ (hbox); have n2_ := am_ (Sh.gw (w := w) hg); have n3_ := am_ (Sh.gw (w := w) hg); clear HB; have HB := n0_; have BK249 := n1_; have GW249 := n2_; have GE249 := n3_; clear n0_ n1_ n2_ n3_; clear hb hbox hg) | ((with_reducible refine gate_dst (N := 3) rfl ?_); refine Sh.bx (N := 3) (cs := #[.int .i64 a1_0, .slice A1_1 l1_1.length c1_1, .slice A1_2 l1_2.length c1_2, .slice A1_3 l1_3.length c1_3]) (t := 32) (h := ?_); intro gb250 hg w11 hbox hb; have n0_ := am_ (Sh.bb BK249.out hb); have n1_ := am_ (below_step Sh.bw hb); have n2_ := am_ (hbox); have n3_ := am_ (Sh.gw (w := w) hg); have n4_ := am_ (Sh.gw (w := w) hg); have n5_ := am_ (Sh.nl hg BK249.out); have n6_ := am_ (Sh.ng hg BK249.out); clear BK249; clear HB; have BK249 := n0_; have HB := n1_; have BK250 := n2_; have GW250 := n3_; have GE250 := n4_; have NB249_250 := n5_; have NB250_249 := n6_; clear n0_ n1_ n2_ n3_ n4_ n5_ n6_; clear hb hbox hg; have hnb12 := NB249_250.out; have hnc12 := NB250_249.out; have hcz13_0 := Sh.bc BK249.out 0; have hcz13_1 := Sh.bc BK249.out 1; have hcz13_2 := Sh.bc BK249.out 2; have hcz13_3 := Sh.bc BK249.out 3; have hfz13_0 := blk_frozen BK249.out 0; have hfz13_1 := blk_frozen BK249.out 1; have hfz13_2 := blk_frozen BK249.out 2; have hfz13_3 := blk_frozen BK249.out 3; have hcz14_0 := Sh.bc BK250.out 0; have hcz14_1 := Sh.bc BK250.out 1; have hcz14_2 := Sh.bc BK250.out 2; have hcz14_3 := Sh.bc BK250.out 3; have hfz14_0 := blk_frozen BK250.out 0; have hfz14_1 := blk_frozen BK250.out 1; have hfz14_2 := blk_frozen BK250.out 2; have hfz14_3 := blk_frozen BK250.out 3) | ((with_reducible refine gate_callee (f := 9) rfl ?_); refine Sh.gL (some 14) Try.func9 #[.slice A0_1 l0_1.length c0_1, .slice A1_1 l1_1.length c1_1] (h := ?_); (with_reducible refine (laws_eqIntS.calls k _ _ l0_1 _ _ l1_1 true _ (Sh.cB HR0_1.out) HC0_1.out (Sh.cB HR1_1.out) HC1_1.out A4.out).mono ?_); rintro e w' ⟨rfl, ⟨nd, rfl⟩⟩; refine ⟨_, rfl, ?_⟩) | ((with_reducible refine gate_callee (f := 28) rfl ?_); refine Sh.gL (some 20) Try.func28 #[.slice A0_2 l0_2.length c0_2, .slice A1_2 l1_2.length c1_2] (h := ?_); (with_reducible refine (laws_eqEdgeS.calls k _ _ l0_2 _ _ l1_2 true _ ?side1 ?side2 ?side3 ?side4 A6.out).mono ?_); (case side1 => repeat (first | exact (Kd.C_below HR0_2.out Sh.bw) | (with_reducible first | refine Kd.C_alloc ?_ _ | refine Kd.C_drewN ?_ _ | refine Kd.C_drew ?_))); (case side2 => exact HC0_2.out); (case side3 => repeat (first | exact (Kd.C_below HR1_2.out Sh.bw) | (with_reducible first | refine Kd.C_alloc ?_ _ | refine Kd.C_drewN ?_ _ | refine Kd.C_drew ?_))); (case side4 => exact HC1_2.out); rintro e w15 ⟨rfl, hb⟩; refine ⟨_, rfl, ?_⟩; have n0_ := am_ (Sh.bb BK249.out hb); have n1_ := am_ (Sh.bb BK250.out hb); have n2_ := am_ (below_step Sh.bw hb); clear BK249; clear BK250; clear HB; have BK249 := n0_; have BK250 := n1_; have HB := n2_; clear n0_ n1_ n2_; (try clear hb); (try clear hb2); (try clear hk); (try clear hi); have hcz16_0 := Sh.bc BK249.out 0; have hcz16_1 := Sh.bc BK249.out 1; have hcz16_2 := Sh.bc BK249.out 2; have hcz16_3 := Sh.bc BK249.out 3; have hfz16_0 := blk_frozen BK249.out 0; have hfz16_1 := blk_frozen BK249.out 1; have hfz16_2 := blk_frozen BK249.out 2; have hfz16_3 := blk_frozen BK249.out 3; have hcz17_0 := Sh.bc BK250.out 0; have hcz17_1 := Sh.bc BK250.out 1; have hcz17_2 := Sh.bc BK250.out 2; have hcz17_3 := Sh.bc BK250.out 3; have hfz17_0 := blk_frozen BK250.out 0; have hfz17_1 := blk_frozen BK250.out 1; have hfz17_2 := blk_frozen BK250.out 2; have hfz17_3 := blk_frozen BK250.out 3) | ((with_reducible refine gate_callee (f := 29) rfl ?_); refine Sh.gL (some 26) Try.func29 #[.slice A0_3 l0_3.length c0_3, .slice A1_3 l1_3.length c1_3] (h := ?_); (with_reducible refine (laws_eqIntSS.calls k _ _ l0_3 _ _ l1_3 true _ (Sh.cB HR0_3.out) HC0_3.out (Sh.cB HR1_3.out) HC1_3.out A8.out).mono ?_); rintro e w' ⟨rfl, ⟨nd, rfl⟩⟩; refine ⟨_, rfl, ?_⟩))
     go_ret
     exact ⟨Sh.eR, Sh.bw⟩
    ·replace c9 := Bool.eq_false_iff.mpr c9
     subst c9
     have H1 : (some false) = some r := by rw [if_neg (show ¬ (false = true) by decide)] at H; exact H
     clear H
     have H := H1
     clear H1
     obtain rfl := Option.some.inj H
     go_enter Try.func10, Try.ntmps10
     go_wp2_with (first | ((with_reducible refine gate_dst (N := 2) rfl ?_); refine Sh.bx (N := 2) (cs := #[.int .i64 a0_0, .slice A0_1 l0_1.length c0_1, .slice A0_2 l0_2.length c0_2, .slice A0_3 l0_3.length c0_3]) (t := 32) (h := ?_); intro gb249 hg w18 hbox hb; have n0_ := am_ (below_step Sh.bw hb); have n1_ := am_ (hbox); have n2_ := am_ (Sh.gw (w := w) hg); have n3_ := am_ (Sh.gw (w := w) hg); clear HB; have HB := n0_; have BK249 := n1_; have GW249 := n2_; have GE249 := n3_; clear n0_ n1_ n2_ n3_; clear hb hbox hg) | ((with_reducible refine gate_dst (N := 3) rfl ?_); refine Sh.bx (N := 3) (cs := #[.int .i64 a1_0, .slice A1_1 l1_1.length c1_1, .slice A1_2 l1_2.length c1_2, .slice A1_3 l1_3.length c1_3]) (t := 32) (h := ?_); intro gb250 hg w19 hbox hb; have n0_ := am_ (Sh.bb BK249.out hb); have n1_ := am_ (below_step Sh.bw hb); have n2_ := am_ (hbox); have n3_ := am_ (Sh.gw (w := w) hg); have n4_ := am_ (Sh.gw (w := w) hg); have n5_ := am_ (Sh.nl hg BK249.out); have n6_ := am_ (Sh.ng hg BK249.out); clear BK249; clear HB; have BK249 := n0_; have HB := n1_; have BK250 := n2_; have GW250 := n3_; have GE250 := n4_; have NB249_250 := n5_; have NB250_249 := n6_; clear n0_ n1_ n2_ n3_ n4_ n5_ n6_; clear hb hbox hg; have hnb20 := NB249_250.out; have hnc20 := NB250_249.out; have hcz21_0 := Sh.bc BK249.out 0; have hcz21_1 := Sh.bc BK249.out 1; have hcz21_2 := Sh.bc BK249.out 2; have hcz21_3 := Sh.bc BK249.out 3; have hfz21_0 := blk_frozen BK249.out 0; have hfz21_1 := blk_frozen BK249.out 1; have hfz21_2 := blk_frozen BK249.out 2; have hfz21_3 := blk_frozen BK249.out 3; have hcz22_0 := Sh.bc BK250.out 0; have hcz22_1 := Sh.bc BK250.out 1; have hcz22_2 := Sh.bc BK250.out 2; have hcz22_3 := Sh.bc BK250.out 3; have hfz22_0 := blk_frozen BK250.out 0; have hfz22_1 := blk_frozen BK250.out 1; have hfz22_2 := blk_frozen BK250.out 2; have hfz22_3 := blk_frozen BK250.out 3) | ((with_reducible refine gate_callee (f := 9) rfl ?_); refine Sh.gL (some 14) Try.func9 #[.slice A0_1 l0_1.length c0_1, .slice A1_1 l1_1.length c1_1] (h := ?_); (with_reducible refine (laws_eqIntS.calls k _ _ l0_1 _ _ l1_1 true _ (Sh.cB HR0_1.out) HC0_1.out (Sh.cB HR1_1.out) HC1_1.out A4.out).mono ?_); rintro e w' ⟨rfl, ⟨nd, rfl⟩⟩; refine ⟨_, rfl, ?_⟩) | ((with_reducible refine gate_callee (f := 28) rfl ?_); refine Sh.gL (some 20) Try.func28 #[.slice A0_2 l0_2.length c0_2, .slice A1_2 l1_2.length c1_2] (h := ?_); (with_reducible refine (laws_eqEdgeS.calls k _ _ l0_2 _ _ l1_2 true _ ?side1 ?side2 ?side3 ?side4 A6.out).mono ?_); (case side1 => repeat (first | exact (Kd.C_below HR0_2.out Sh.bw) | (with_reducible first | refine Kd.C_alloc ?_ _ | refine Kd.C_drewN ?_ _ | refine Kd.C_drew ?_))); (case side2 => exact HC0_2.out); (case side3 => repeat (first | exact (Kd.C_below HR1_2.out Sh.bw) | (with_reducible first | refine Kd.C_alloc ?_ _ | refine Kd.C_drewN ?_ _ | refine Kd.C_drew ?_))); (case side4 => exact HC1_2.out); rintro e w23 ⟨rfl, hb⟩; refine ⟨_, rfl, ?_⟩; have n0_ := am_ (Sh.bb BK249.out hb); have n1_ := am_ (Sh.bb BK250.out hb); have n2_ := am_ (below_step Sh.bw hb); clear BK249; clear BK250; clear HB; have BK249 := n0_; have BK250 := n1_; have HB := n2_; clear n0_ n1_ n2_; (try clear hb); (try clear hb2); (try clear hk); (try clear hi); have hcz24_0 := Sh.bc BK249.out 0; have hcz24_1 := Sh.bc BK249.out 1; have hcz24_2 := Sh.bc BK249.out 2; have hcz24_3 := Sh.bc BK249.out 3; have hfz24_0 := blk_frozen BK249.out 0; have hfz24_1 := blk_frozen BK249.out 1; have hfz24_2 := blk_frozen BK249.out 2; have hfz24_3 := blk_frozen BK249.out 3; have hcz25_0 := Sh.bc BK250.out 0; have hcz25_1 := Sh.bc BK250.out 1; have hcz25_2 := Sh.bc BK250.out 2; have hcz25_3 := Sh.bc BK250.out 3; have hfz25_0 := blk_frozen BK250.out 0; have hfz25_1 := blk_frozen BK250.out 1; have hfz25_2 := blk_frozen BK250.out 2; have hfz25_3 := blk_frozen BK250.out 3) | ((with_reducible refine gate_callee (f := 29) rfl ?_); refine Sh.gL (some 26) Try.func29 #[.slice A0_3 l0_3.length c0_3, .slice A1_3 l1_3.length c1_3] (h := ?_); (with_reducible refine (laws_eqIntSS.calls k _ _ l0_3 _ _ l1_3 false _ (Sh.cB HR0_3.out) HC0_3.out (Sh.cB HR1_3.out) HC1_3.out A8.out).mono ?_); rintro e w' ⟨rfl, ⟨nd, rfl⟩⟩; refine ⟨_, rfl, ?_⟩))
     go_ret
     exact ⟨Sh.eR, Sh.bw⟩
   ·replace c7 := Bool.eq_false_iff.mpr c7
    subst c7
    have H1 : (some false) = some r := by rw [if_neg (show ¬ (false = true) by decide)] at H; exact H
    clear H
    have H := H1
    clear H1
    obtain rfl := Option.some.inj H
    go_enter Try.func10, Try.ntmps10
    go_wp2_with (first | ((with_reducible refine gate_dst (N := 2) rfl ?_); refine Sh.bx (N := 2) (cs := #[.int .i64 a0_0, .slice A0_1 l0_1.length c0_1, .slice A0_2 l0_2.length c0_2, .slice A0_3 l0_3.length c0_3]) (t := 32) (h := ?_); intro gb249 hg w26 hbox hb; have n0_ := am_ (below_step Sh.bw hb); have n1_ := am_ (hbox); have n2_ := am_ (Sh.gw (w := w) hg); have n3_ := am_ (Sh.gw (w := w) hg); clear HB; have HB := n0_; have BK249 := n1_; have GW249 := n2_; have GE249 := n3_; clear n0_ n1_ n2_ n3_; clear hb hbox hg) | ((with_reducible refine gate_dst (N := 3) rfl ?_); refine Sh.bx (N := 3) (cs := #[.int .i64 a1_0, .slice A1_1 l1_1.length c1_1, .slice A1_2 l1_2.length c1_2, .slice A1_3 l1_3.length c1_3]) (t := 32) (h := ?_); intro gb250 hg w27 hbox hb; have n0_ := am_ (Sh.bb BK249.out hb); have n1_ := am_ (below_step Sh.bw hb); have n2_ := am_ (hbox); have n3_ := am_ (Sh.gw (w := w) hg); have n4_ := am_ (Sh.gw (w := w) hg); have n5_ := am_ (Sh.nl hg BK249.out); have n6_ := am_ (Sh.ng hg BK249.out); clear BK249; clear HB; have BK249 := n0_; have HB := n1_; have BK250 := n2_; have GW250 := n3_; have GE250 := n4_; have NB249_250 := n5_; have NB250_249 := n6_; clear n0_ n1_ n2_ n3_ n4_ n5_ n6_; clear hb hbox hg; have hnb28 := NB249_250.out; have hnc28 := NB250_249.out; have hcz29_0 := Sh.bc BK249.out 0; have hcz29_1 := Sh.bc BK249.out 1; have hcz29_2 := Sh.bc BK249.out 2; have hcz29_3 := Sh.bc BK249.out 3; have hfz29_0 := blk_frozen BK249.out 0; have hfz29_1 := blk_frozen BK249.out 1; have hfz29_2 := blk_frozen BK249.out 2; have hfz29_3 := blk_frozen BK249.out 3; have hcz30_0 := Sh.bc BK250.out 0; have hcz30_1 := Sh.bc BK250.out 1; have hcz30_2 := Sh.bc BK250.out 2; have hcz30_3 := Sh.bc BK250.out 3; have hfz30_0 := blk_frozen BK250.out 0; have hfz30_1 := blk_frozen BK250.out 1; have hfz30_2 := blk_frozen BK250.out 2; have hfz30_3 := blk_frozen BK250.out 3) | ((with_reducible refine gate_callee (f := 9) rfl ?_); refine Sh.gL (some 14) Try.func9 #[.slice A0_1 l0_1.length c0_1, .slice A1_1 l1_1.length c1_1] (h := ?_); (with_reducible refine (laws_eqIntS.calls k _ _ l0_1 _ _ l1_1 true _ (Sh.cB HR0_1.out) HC0_1.out (Sh.cB HR1_1.out) HC1_1.out A4.out).mono ?_); rintro e w' ⟨rfl, ⟨nd, rfl⟩⟩; refine ⟨_, rfl, ?_⟩) | ((with_reducible refine gate_callee (f := 28) rfl ?_); refine Sh.gL (some 20) Try.func28 #[.slice A0_2 l0_2.length c0_2, .slice A1_2 l1_2.length c1_2] (h := ?_); (with_reducible refine (laws_eqEdgeS.calls k _ _ l0_2 _ _ l1_2 false _ ?side1 ?side2 ?side3 ?side4 A6.out).mono ?_); (case side1 => repeat (first | exact (Kd.C_below HR0_2.out Sh.bw) | (with_reducible first | refine Kd.C_alloc ?_ _ | refine Kd.C_drewN ?_ _ | refine Kd.C_drew ?_))); (case side2 => exact HC0_2.out); (case side3 => repeat (first | exact (Kd.C_below HR1_2.out Sh.bw) | (with_reducible first | refine Kd.C_alloc ?_ _ | refine Kd.C_drewN ?_ _ | refine Kd.C_drew ?_))); (case side4 => exact HC1_2.out); rintro e w31 ⟨rfl, hb⟩; refine ⟨_, rfl, ?_⟩; have n0_ := am_ (Sh.bb BK249.out hb); have n1_ := am_ (Sh.bb BK250.out hb); have n2_ := am_ (below_step Sh.bw hb); clear BK249; clear BK250; clear HB; have BK249 := n0_; have BK250 := n1_; have HB := n2_; clear n0_ n1_ n2_; (try clear hb); (try clear hb2); (try clear hk); (try clear hi)))
    go_ret
    exact ⟨Sh.eR, Sh.bw⟩
  ·replace c5 := Bool.eq_false_iff.mpr c5
   subst c5
   have H1 : (some false) = some r := by rw [if_neg (show ¬ (false = true) by decide)] at H; exact H
   clear H
   have H := H1
   clear H1
   obtain rfl := Option.some.inj H
   go_enter Try.func10, Try.ntmps10
   go_wp2_with (first | ((with_reducible refine gate_dst (N := 2) rfl ?_); refine Sh.bx (N := 2) (cs := #[.int .i64 a0_0, .slice A0_1 l0_1.length c0_1, .slice A0_2 l0_2.length c0_2, .slice A0_3 l0_3.length c0_3]) (t := 32) (h := ?_); intro gb249 hg w32 hbox hb; have n0_ := am_ (below_step Sh.bw hb); have n1_ := am_ (hbox); have n2_ := am_ (Sh.gw (w := w) hg); have n3_ := am_ (Sh.gw (w := w) hg); clear HB; have HB := n0_; have BK249 := n1_; have GW249 := n2_; have GE249 := n3_; clear n0_ n1_ n2_ n3_; clear hb hbox hg) | ((with_reducible refine gate_dst (N := 3) rfl ?_); refine Sh.bx (N := 3) (cs := #[.int .i64 a1_0, .slice A1_1 l1_1.length c1_1, .slice A1_2 l1_2.length c1_2, .slice A1_3 l1_3.length c1_3]) (t := 32) (h := ?_); intro gb250 hg w33 hbox hb; have n0_ := am_ (Sh.bb BK249.out hb); have n1_ := am_ (below_step Sh.bw hb); have n2_ := am_ (hbox); have n3_ := am_ (Sh.gw (w := w) hg); have n4_ := am_ (Sh.gw (w := w) hg); have n5_ := am_ (Sh.nl hg BK249.out); have n6_ := am_ (Sh.ng hg BK249.out); clear BK249; clear HB; have BK249 := n0_; have HB := n1_; have BK250 := n2_; have GW250 := n3_; have GE250 := n4_; have NB249_250 := n5_; have NB250_249 := n6_; clear n0_ n1_ n2_ n3_ n4_ n5_ n6_; clear hb hbox hg; have hnb34 := NB249_250.out; have hnc34 := NB250_249.out; have hcz35_0 := Sh.bc BK249.out 0; have hcz35_1 := Sh.bc BK249.out 1; have hcz35_2 := Sh.bc BK249.out 2; have hcz35_3 := Sh.bc BK249.out 3; have hfz35_0 := blk_frozen BK249.out 0; have hfz35_1 := blk_frozen BK249.out 1; have hfz35_2 := blk_frozen BK249.out 2; have hfz35_3 := blk_frozen BK249.out 3; have hcz36_0 := Sh.bc BK250.out 0; have hcz36_1 := Sh.bc BK250.out 1; have hcz36_2 := Sh.bc BK250.out 2; have hcz36_3 := Sh.bc BK250.out 3; have hfz36_0 := blk_frozen BK250.out 0; have hfz36_1 := blk_frozen BK250.out 1; have hfz36_2 := blk_frozen BK250.out 2; have hfz36_3 := blk_frozen BK250.out 3) | ((with_reducible refine gate_callee (f := 9) rfl ?_); refine Sh.gL (some 14) Try.func9 #[.slice A0_1 l0_1.length c0_1, .slice A1_1 l1_1.length c1_1] (h := ?_); (with_reducible refine (laws_eqIntS.calls k _ _ l0_1 _ _ l1_1 false _ (Sh.cB HR0_1.out) HC0_1.out (Sh.cB HR1_1.out) HC1_1.out A4.out).mono ?_); rintro e w' ⟨rfl, ⟨nd, rfl⟩⟩; refine ⟨_, rfl, ?_⟩))
   go_ret
   exact ⟨Sh.eR, Sh.bw⟩
 ·rw [if_neg c3] at H
  have c3b0 : (a0_0 == a1_0) = false := beq_eq_false_iff_ne.mpr c3
  have c3b1 : (a0_0 != a1_0) = true := bne_iff_ne.mpr c3
  obtain rfl := Option.some.inj H
  go_enter Try.func10, Try.ntmps10
  go_wp2_with (first | ((with_reducible refine gate_dst (N := 2) rfl ?_); refine Sh.bx (N := 2) (cs := #[.int .i64 a0_0, .slice A0_1 l0_1.length c0_1, .slice A0_2 l0_2.length c0_2, .slice A0_3 l0_3.length c0_3]) (t := 32) (h := ?_); intro gb249 hg w37 hbox hb; have n0_ := am_ (below_step Sh.bw hb); have n1_ := am_ (hbox); have n2_ := am_ (Sh.gw (w := w) hg); have n3_ := am_ (Sh.gw (w := w) hg); clear HB; have HB := n0_; have BK249 := n1_; have GW249 := n2_; have GE249 := n3_; clear n0_ n1_ n2_ n3_; clear hb hbox hg) | ((with_reducible refine gate_dst (N := 3) rfl ?_); refine Sh.bx (N := 3) (cs := #[.int .i64 a1_0, .slice A1_1 l1_1.length c1_1, .slice A1_2 l1_2.length c1_2, .slice A1_3 l1_3.length c1_3]) (t := 32) (h := ?_); intro gb250 hg w38 hbox hb; have n0_ := am_ (Sh.bb BK249.out hb); have n1_ := am_ (below_step Sh.bw hb); have n2_ := am_ (hbox); have n3_ := am_ (Sh.gw (w := w) hg); have n4_ := am_ (Sh.gw (w := w) hg); have n5_ := am_ (Sh.nl hg BK249.out); have n6_ := am_ (Sh.ng hg BK249.out); clear BK249; clear HB; have BK249 := n0_; have HB := n1_; have BK250 := n2_; have GW250 := n3_; have GE250 := n4_; have NB249_250 := n5_; have NB250_249 := n6_; clear n0_ n1_ n2_ n3_ n4_ n5_ n6_; clear hb hbox hg; have hnb39 := NB249_250.out; have hnc39 := NB250_249.out; have hcz40_0 := Sh.bc BK249.out 0; have hcz40_1 := Sh.bc BK249.out 1; have hcz40_2 := Sh.bc BK249.out 2; have hcz40_3 := Sh.bc BK249.out 3; have hfz40_0 := blk_frozen BK249.out 0; have hfz40_1 := blk_frozen BK249.out 1; have hfz40_2 := blk_frozen BK249.out 2; have hfz40_3 := blk_frozen BK249.out 3; have hcz41_0 := Sh.bc BK250.out 0; have hcz41_1 := Sh.bc BK250.out 1; have hcz41_2 := Sh.bc BK250.out 2; have hcz41_3 := Sh.bc BK250.out 3; have hfz41_0 := blk_frozen BK250.out 0; have hfz41_1 := blk_frozen BK250.out 1; have hfz41_2 := blk_frozen BK250.out 2; have hfz41_3 := blk_frozen BK250.out 3))
  go_ret
  exact ⟨Sh.eR, Sh.bw⟩

end Go.Proofs.Ytijgdncmancolaa.P
namespace Go.Proofs.Ytijgdncmancolaa.P
open Go.RowKit Go.Proofs.YtijgdncmancolaaW.PrintWords Go.Proofs.YtijgdncmancolaaW.PrintLast Go.Proofs.YtijgdncmancolaaW.PrintMore Go.Proofs.Ytijgdncmancolaa.Hof
attribute [local go_sem] max2_int min2_int max_two min_two max_three min_three max_four min_four   -- for this text's walks alone
set_option linter.unusedVariables false
set_option linter.unusedSimpArgs false

/-! ### laws_markIntS: function 12 -/
def laws_markIntS.l0 : Nat → List Int → Int → Int → Option (Int × List Int)
 | 0, _, _, _ => none
 | k + 1, x0, x1, x5 => if x5 < (x0.length : Int) then (if 0 ≤ x5 then (laws_markIntS.l0 k (x0.set (x5 : Int).toNat x1) (wrap64 (x1 + 1)) (wrap64 (x5 + 1))) else (none)) else (some (x1, x0))
def laws_markIntS.f (k : Nat) (l0 : List Int) (a1 : Int) : Option (Int × List Int) := laws_markIntS.l0 k l0 a1 0
theorem laws_markIntS.mono_l : ∀ k, (∀ y0 y1 y2, LeO (laws_markIntS.l0 k y0 y1 y2) (laws_markIntS.l0 (k + 1) y0 y1 y2))
 | 0 => fun _ _ _ r h => by simp [laws_markIntS.l0] at h
 | k + 1 => by
  have ih0 := laws_markIntS.mono_l k
  ·intro y0 y1 y2
   unfold laws_markIntS.l0
   repeat' first
   | (with_reducible exact ih0 _ _ _)
   | (with_reducible exact LeO.refl _)
   | (with_reducible exact LeO.none _)
   | (with_reducible refine LeO.ite ?_ ?_)
   | (with_reducible refine LeO.bind ?_ (fun _ => ?_))
   | exact ih0 _ _ _
   | exact LeO.none _
   | refine LeO.ite ?_ ?_
   | refine LeO.bind ?_ (fun _ => ?_)
theorem laws_markIntS.mono : ∀ a0 a1 k, LeO (laws_markIntS.f k a0 a1) (laws_markIntS.f (k + 1) a0 a1) := by
 intro a0 a1 k
 have ih0 := laws_markIntS.mono_l k
 unfold laws_markIntS.f
 repeat' first
   | (with_reducible exact ih0 _ _ _)
   | (with_reducible exact LeO.refl _)
   | (with_reducible exact LeO.none _)
   | (with_reducible refine LeO.ite ?_ ?_)
   | (with_reducible refine LeO.bind ?_ (fun _ => ?_))
   | exact ih0 _ _ _
   | exact LeO.none _
   | refine LeO.ite ?_ ?_
   | refine LeO.bind ?_ (fun _ => ?_)
set_option maxHeartbeats 8000000 in
set_option maxRecDepth 100000 in
theorem laws_markIntS.calls (k : Nat) (P0_ : Nat → Prop) (u9000_ : Value) (l0 : List Int) (a1 : Int) (r1 : Int) (r2 : List Int) (w0 w : World) (hB : Below w0.heap.size w0 w) (ho0 : Kd.R (Kd.int .i64) 3 w w0.heap.size P0_ u9000_ l0) (h : laws_markIntS.f k l0 a1 = some (r1, r2)) :
  Calls Try.prog 12 #[u9000_, .int .i64 a1] w fun e w' => e = .returned (.int .i64 r1) ∧ Kd.R (Kd.int .i64) 3 w' w0.heap.size (fun k_ => (P0_ k_ ∨ w.heap.size ≤ k_)) u9000_ r2 ∧ Below w0.heap.size w0 w' ∧ Kept w w' (fun k_ => P0_ k_) := by
 have HO0 := am_ (show Kd.R (Kd.int .i64) 3 w w0.heap.size (fun k_ => (P0_ k_ ∨ w.heap.size ≤ k_)) u9000_ l0 from Kd.R_mono ho0 (fun k_ hk => (.inl hk)))
 have HK := am_ (Kept.refl w (fun k_ => P0_ k_))
 have HW0 := am_ hB.size
 have HB := am_ hB
 clear hB
 have H : (laws_markIntS.l0 k l0 a1 0) = some (r1, r2) := h
 clear h
 have H' := am_ H
 clear H
 go_enter Try.func12, Try.ntmps12
 go_wp2
 go_loopg [1, 5] k (fun kq v1 v5 w' => ∃ (x0_1 : List Int) (x1_1 : Int) (x5_1 : Int), v1 = .int .i64 x1_1 ∧ v5 = .int .i64 x5_1 ∧ Aside0 (laws_markIntS.l0 kq x0_1 x1_1 x5_1 = some (r1, r2)) ∧ Aside0 (kq ≤ k) ∧ Aside0 (Kd.R (Kd.int .i64) 3 w' w0.heap.size (fun k_ => (P0_ k_ ∨ w.heap.size ≤ k_)) u9000_ x0_1) ∧ Aside0 (Kept w w' (fun k_ => P0_ k_)) ∧ Aside0 (Below w0.heap.size w0 w'))
 case atStart => exact ⟨(l0), (a1), (0), (by first | rfl | (simp; done) | (simp [*]; done)), (by first | rfl | (simp; done) | (simp [*]; done)), H', ⟨Nat.le_refl _⟩, ⟨by (with_reducible repeat (first | apply Kd.R_alloc | apply Kd.R_drewN | apply Kd.R_drew)); exact HO0.out⟩, ⟨by repeat (first | (with_reducible first | exact HK.out | apply Kept.alloc | apply Kept.drewN | apply Kept.drew) | exact HK.out)⟩, ⟨by repeat (first | (with_reducible first | exact HB.out | apply below_alloc | apply pw_below_drewN | apply below_drew1) | exact HB.out)⟩⟩
 case round =>
  clear H'
  try clear c1
  try clear p2
  obtain ⟨x0_1, x1_1, x5_1, rfl, rfl, HA, HK1, HO_0, HK, HB⟩ := hrel
  cases gk with
  | zero => exact absurd HA.out (by simp [laws_markIntS.l0])
  | succ k1 =>
   have H := HA.out
   clear HA
   simp only [laws_markIntS.l0] at H
   by_cases c3 : x5_1 < (x0_1.length : Int)
   ·rw [if_pos c3] at H
    have c3b0 : decide (x5_1 < (x0_1.length : Int)) = true := decide_eq_true c3
    clear c3
    by_cases c4 : 0 ≤ x5_1
    ·rw [if_pos c4] at H
     have c4b0 : decide (0 ≤ x5_1) = true := decide_eq_true c4
     clear c4
     obtain ⟨y254, hy254⟩ : ∃ y_ : List Int, y_ = (x0_1.set (x5_1 : Int).toNat x1_1) := ⟨_, rfl⟩
     replace H : (laws_markIntS.l0 k1 y254 (wrap64 (x1_1 + 1)) (wrap64 (x5_1 + 1))) = some (r1, r2) := by first | (rw [hy254]; with_reducible exact H) | (have H2_ := (Option.bind_some _ _).symm.trans H; rw [hy254]; with_reducible exact H2_) | (have H2_ := (Option.bind_some _ _).symm.trans H; with_reducible exact H2_) | with_reducible exact H | (rw [hy254]; exact H) | exact H
     have Ny254 := am_ hy254
     clear hy254
     have H' := am_ H
     clear H
     obtain ⟨Ao6, co6, eo6⟩ := Kd.R_slice HO_0.out
     subst eo6
     have p5 : 0 ≤ (x5_1 : Int) := of_decide_eq_true (by first | (with_reducible assumption) | assumption)
     have q5 : (x5_1 : Int) < ((x0_1.length : Int) : Int) := of_decide_eq_true (by first | (with_reducible assumption) | assumption)
     obtain ⟨go5, co5, eo5, gb5, gl5, cl5, HG5⟩ := Kd.R_form HO_0.out (by omega)
     (first | cases eo5 | (injection eo5 with ea_ en_ ec_; (first | subst ea_ | (injection ea_ with ea_; subst ea_)); subst ec_; clear en_))
     have GB5 := am_ gb5
     have GG5 := am_ HG5
     clear gb5 gl5 HG5
     have HMgo5 := am_ (show (P0_ go5 ∨ w.heap.size ≤ go5) from (HO_0.out.1 _ rfl))
     obtain ⟨hx5_0, hf5_0⟩ := Kd.R_celln 0 HO_0.out (x5_1 : Int) p5 q5
     replace p5 := eq_true p5
     replace q5 := eq_true q5
     have HP7 := Kd.R_putg HO_0.out (x5_1 : Int) x1_1
     go_wp2_with (first | ((with_reducible refine gate_store (t := 3) (p := 15) rfl ?_); refine store_event (t := 3) (p := 15) (v := ?vo_w8) (w1 := (wr.setCell ⟨go5, (x5_1 : Int).toNat, none⟩ (.int .i64 x1_1))) ?hg ?ho ?hn ?hr ?_; (case ho => rfl); (case hg => rfl); (case hn => rfl); (case hr => first | (go_simp; done) | (go_simp; rfl)); intro w8 hw; have hg : wr.grownBy w8 (some go5) := (by rw [hw]; exact HP7.2); have hp_ : Kd.R (Kd.int .i64) 3 w8 w0.heap.size (fun k_ => (P0_ k_ ∨ w.heap.size ≤ k_)) (.slice (some ⟨go5, 0, none⟩) x0_1.length co6) y254 := (by rw [hw, Ny254.out]; exact HP7.1); clear HP7; have n0_ := am_ (hp_); have n1_ := am_ ((by rw [hw]; exact below_set (HB.out) GB5.out : Below w0.heap.size w0 w8)); have n2_ := am_ (Kept.of_grown (S := (fun k_ => P0_ k_)) hg (by repeat (first | (with_reducible first | exact HK.out | apply Kept.alloc | apply Kept.drewN | apply Kept.drew) | exact HK.out)) (fun k_ e_ => (HO_0.out.1 k_ e_))); clear HO_0; clear HB; clear HK; have HO_0 := n0_; have HB := n1_; have HK := n2_; clear n0_ n1_ n2_; clear hg hw hp_))
     go_roundg k1
     case measure => have := HK1.out; omega
     case rel => exact ⟨(y254), (wrap64 (x1_1 + 1)), (wrap64 (x5_1 + 1)), (by first | rfl | (simp; done) | (simp [*]; done)), (by first | rfl | (simp; done) | (simp [*]; done)), H', ⟨by have := HK1.out; omega⟩, ⟨by (with_reducible repeat (first | apply Kd.R_alloc | apply Kd.R_drewN | apply Kd.R_drew)); exact HO_0.out⟩, ⟨by repeat (first | (with_reducible first | exact HK.out | apply Kept.alloc | apply Kept.drewN | apply Kept.drew) | exact HK.out)⟩, ⟨by repeat (first | (with_reducible first | exact HB.out | apply below_alloc | apply pw_below_drewN | apply below_drew1) | exact HB.out)⟩⟩
    ·rw [if_neg c4] at H
     exact absurd H (by simp)
   ·rw [if_neg c3] at H
    have c3b0 : decide (x5_1 < (x0_1.length : Int)) = false := decide_eq_false c3
    clear c3
    simp only [Option.some.injEq, Prod.mk.injEq] at H
    obtain ⟨rfl, rfl⟩ := H
    obtain ⟨Ao9, co9, eo9⟩ := Kd.R_slice HO_0.out
    subst eo9
    go_wp2
    go_ret
    exact ⟨Sh.eR, by (with_reducible repeat (first | apply Kd.R_alloc | apply Kd.R_drewN | apply Kd.R_drew)); exact HO_0.out, Sh.bw, by repeat (first | (with_reducible first | exact HK.out | apply Kept.alloc | apply Kept.drewN | apply Kept.drew) | exact HK.out)⟩

end Go.Proofs.Ytijgdncmancolaa.P
namespace Go.Proofs.Ytijgdncmancolaa.P
open Go.RowKit Go.Proofs.YtijgdncmancolaaW.PrintWords Go.Proofs.YtijgdncmancolaaW.PrintLast Go.Proofs.YtijgdncmancolaaW.PrintMore Go.Proofs.Ytijgdncmancolaa.Hof
attribute [local go_sem] max2_int min2_int max_two min_two max_three min_three max_four min_four   -- for this text's walks alone
set_option linter.unusedVariables false
set_option linter.unusedSimpArgs false

/-! ### laws_markEdgeS: function 30 -/
def laws_markEdgeS.l0 : Nat → List (S51) → Int → Int → Option (Int × (List (S51)))
 | 0, _, _, _ => none
 | k + 1, x0, x1, x5 => if x5 < (x0.length : Int) then (if 0 ≤ x5 then ((some (x0.set (x5 : Int).toNat (⟨x1, (rd_T51 x0 x5).f1, (rd_T51 x0 x5).f2⟩ : S51) : List (S51))).bind fun y255 => ((some (y255.set (x5 : Int).toNat (⟨(rd_T51 y255 x5).f0, wrap64 (x1 + 1), (rd_T51 y255 x5).f2⟩ : S51) : List (S51))).bind fun y256 => (laws_markEdgeS.l0 k (y256.set (x5 : Int).toNat (⟨(rd_T51 y256 x5).f0, (rd_T51 y256 x5).f1, wrap64 ((wrap64 (x1 + 1)) + 1)⟩ : S51)) (wrap64 ((wrap64 ((wrap64 (x1 + 1)) + 1)) + 1)) (wrap64 (x5 + 1))))) else (none)) else (some (x1, x0))
def laws_markEdgeS.f (k : Nat) (l0 : List (S51)) (a1 : Int) : Option (Int × (List (S51))) := laws_markEdgeS.l0 k l0 a1 0
theorem laws_markEdgeS.mono_l : ∀ k, (∀ y0 y1 y2, LeO (laws_markEdgeS.l0 k y0 y1 y2) (laws_markEdgeS.l0 (k + 1) y0 y1 y2))
 | 0 => fun _ _ _ r h => by simp [laws_markEdgeS.l0] at h
 | k + 1 => by
  have ih0 := laws_markEdgeS.mono_l k
  ·intro y0 y1 y2
   unfold laws_markEdgeS.l0
   repeat' first
   | (with_reducible exact ih0 _ _ _)
   | (with_reducible exact LeO.refl _)
   | (with_reducible exact LeO.none _)
   | (with_reducible refine LeO.ite ?_ ?_)
   | (with_reducible refine LeO.bind ?_ (fun _ => ?_))
   | exact ih0 _ _ _
   | exact LeO.none _
   | refine LeO.ite ?_ ?_
   | refine LeO.bind ?_ (fun _ => ?_)
theorem laws_markEdgeS.mono : ∀ a0 a1 k, LeO (laws_markEdgeS.f k a0 a1) (laws_markEdgeS.f (k + 1) a0 a1) := by
 intro a0 a1 k
 have ih0 := laws_markEdgeS.mono_l k
 unfold laws_markEdgeS.f
 repeat' first
   | (with_reducible exact ih0 _ _ _)
   | (with_reducible exact LeO.refl _)
   | (with_reducible exact LeO.none _)
   | (with_reducible refine LeO.ite ?_ ?_)
   | (with_reducible refine LeO.bind ?_ (fun _ => ?_))
   | exact ih0 _ _ _
   | exact LeO.none _
   | refine LeO.ite ?_ ?_
   | refine LeO.bind ?_ (fun _ => ?_)
set_option maxHeartbeats 8000000 in
set_option maxRecDepth 100000 in
theorem laws_markEdgeS.calls (k : Nat) (P0_ : Nat → Prop) (u9000_ : Value) (l0 : List (S51)) (a1 : Int) (r1 : Int) (r2 : List (S51)) (w0 w : World) (hB : Below w0.heap.size w0 w) (ho0 : Kd.R k51 51 w w0.heap.size P0_ u9000_ l0) (h : laws_markEdgeS.f k l0 a1 = some (r1, r2)) :
  Calls Try.prog 30 #[u9000_, .int .i64 a1] w fun e w' => e = .returned (.int .i64 r1) ∧ Kd.R k51 51 w' w0.heap.size (fun k_ => (P0_ k_ ∨ w.heap.size ≤ k_)) u9000_ r2 ∧ Below w0.heap.size w0 w' ∧ Kept w w' (fun k_ => P0_ k_) := by
 have HO0 := am_ (show Kd.R k51 51 w w0.heap.size (fun k_ => (P0_ k_ ∨ w.heap.size ≤ k_)) u9000_ l0 from Kd.R_mono ho0 (fun k_ hk => (.inl hk)))
 have HK := am_ (Kept.refl w (fun k_ => P0_ k_))
 have HW0 := am_ hB.size
 have HB := am_ hB
 clear hB
 have H : (laws_markEdgeS.l0 k l0 a1 0) = some (r1, r2) := h
 clear h
 have H' := am_ H
 clear H
 go_enter Try.func30, Try.ntmps30
 go_wp2
 go_loopg [1, 5] k (fun kq v1 v5 w' => ∃ (x0_1 : List (S51)) (x1_1 : Int) (x5_1 : Int), v1 = .int .i64 x1_1 ∧ v5 = .int .i64 x5_1 ∧ Aside0 (laws_markEdgeS.l0 kq x0_1 x1_1 x5_1 = some (r1, r2)) ∧ Aside0 (kq ≤ k) ∧ Aside0 (Kd.R k51 51 w' w0.heap.size (fun k_ => (P0_ k_ ∨ w.heap.size ≤ k_)) u9000_ x0_1) ∧ Aside0 (Kept w w' (fun k_ => P0_ k_)) ∧ Aside0 (Below w0.heap.size w0 w'))
 case atStart => exact ⟨(l0), (a1), (0), (by first | rfl | (simp; done) | (simp [*]; done)), (by first | rfl | (simp; done) | (simp [*]; done)), H', ⟨Nat.le_refl _⟩, ⟨by (with_reducible repeat (first | apply Kd.R_alloc | apply Kd.R_drewN | apply Kd.R_drew)); exact HO0.out⟩, ⟨by repeat (first | (with_reducible first | exact HK.out | apply Kept.alloc | apply Kept.drewN | apply Kept.drew) | exact HK.out)⟩, ⟨by repeat (first | (with_reducible first | exact HB.out | apply below_alloc | apply pw_below_drewN | apply below_drew1) | exact HB.out)⟩⟩
 case round =>
  clear H'
  try clear p2
  obtain ⟨x0_1, x1_1, x5_1, rfl, rfl, HA, HK1, HO_0, HK, HB⟩ := hrel
  cases gk with
  | zero => exact absurd HA.out (by simp [laws_markEdgeS.l0])
  | succ k1 =>
   have H := HA.out
   clear HA
   simp only [laws_markEdgeS.l0] at H
   by_cases c3 : x5_1 < (x0_1.length : Int)
   ·rw [if_pos c3] at H
    have c3b0 : decide (x5_1 < (x0_1.length : Int)) = true := decide_eq_true c3
    clear c3
    by_cases c4 : 0 ≤ x5_1
    ·rw [if_pos c4] at H
     have c4b0 : decide (0 ≤ x5_1) = true := decide_eq_true c4
     clear c4
     obtain ⟨y255, hy255⟩ : ∃ y_ : List (S51), y_ = (x0_1.set (x5_1 : Int).toNat (⟨x1_1, (rd_T51 x0_1 x5_1).f1, (rd_T51 x0_1 x5_1).f2⟩ : S51)) := ⟨_, rfl⟩
     replace H : ((some (y255.set (x5_1 : Int).toNat (⟨(rd_T51 y255 x5_1).f0, wrap64 (x1_1 + 1), (rd_T51 y255 x5_1).f2⟩ : S51) : List (S51))).bind fun y256 => (laws_markEdgeS.l0 k1 (y256.set (x5_1 : Int).toNat (⟨(rd_T51 y256 x5_1).f0, (rd_T51 y256 x5_1).f1, wrap64 ((wrap64 (x1_1 + 1)) + 1)⟩ : S51)) (wrap64 ((wrap64 ((wrap64 (x1_1 + 1)) + 1)) + 1)) (wrap64 (x5_1 + 1)))) = some (r1, r2) := by first | (rw [hy255]; with_reducible exact H) | (have H2_ := (Option.bind_some _ _).symm.trans H; rw [hy255]; with_reducible exact H2_) | (have H2_ := (Option.bind_some _ _).symm.trans H; with_reducible exact H2_) | with_reducible exact H | (rw [hy255]; exact H) | exact H
     have Ny255 := am_ hy255
     clear hy255
     obtain ⟨y256, hy256⟩ : ∃ y_ : List (S51), y_ = (y255.set (x5_1 : Int).toNat (⟨(rd_T51 y255 x5_1).f0, wrap64 (x1_1 + 1), (rd_T51 y255 x5_1).f2⟩ : S51)) := ⟨_, rfl⟩
     replace H : (laws_markEdgeS.l0 k1 (y256.set (x5_1 : Int).toNat (⟨(rd_T51 y256 x5_1).f0, (rd_T51 y256 x5_1).f1, wrap64 ((wrap64 (x1_1 + 1)) + 1)⟩ : S51)) (wrap64 ((wrap64 ((wrap64 (x1_1 + 1)) + 1)) + 1)) (wrap64 (x5_1 + 1))) = some (r1, r2) := by first | (rw [hy256]; with_reducible exact H) | (have H2_ := (Option.bind_some _ _).symm.trans H; rw [hy256]; with_reducible exact H2_) | (have H2_ := (Option.bind_some _ _).symm.trans H; with_reducible exact H2_) | with_reducible exact H | (rw [hy256]; exact H) | exact H
     have Ny256 := am_ hy256
     clear hy256
     obtain ⟨y257, hy257⟩ : ∃ y_ : List (S51), y_ = (y256.set (x5_1 : Int).toNat (⟨(rd_T51 y256 x5_1).f0, (rd_T51 y256 x5_1).f1, wrap64 ((wrap64 (x1_1 + 1)) + 1)⟩ : S51)) := ⟨_, rfl⟩
     replace H : (laws_markEdgeS.l0 k1 y257 (wrap64 ((wrap64 ((wrap64 (x1_1 + 1)) + 1)) + 1)) (wrap64 (x5_1 + 1))) = some (r1, r2) := by first | (rw [hy257]; with_reducible exact H) | (have H2_ := (Option.bind_some _ _).symm.trans H; rw [hy257]; with_reducible exact H2_) | (have H2_ := (Option.bind_some _ _).symm.trans H; with_reducible exact H2_) | with_reducible exact H | (rw [hy257]; exact H) | exact H
     have Ny257 := am_ hy257
     clear hy257
     have H' := am_ H
     clear H
     obtain ⟨Ao8, co8, eo8⟩ := Kd.R_slice HO_0.out
     subst eo8
     have p5 : 0 ≤ (x5_1 : Int) := of_decide_eq_true (by first | (with_reducible assumption) | assumption)
     have q5 : (x5_1 : Int) < ((x0_1.length : Int) : Int) := of_decide_eq_true (by first | (with_reducible assumption) | assumption)
     obtain ⟨go5, co5, eo5, gb5, gl5, cl5, HG5⟩ := Kd.R_form HO_0.out (by omega)
     (first | cases eo5 | (injection eo5 with ea_ en_ ec_; (first | subst ea_ | (injection ea_ with ea_; subst ea_)); subst ec_; clear en_))
     have GB5 := am_ gb5
     have GG5 := am_ HG5
     clear gb5 gl5 HG5
     have HMgo5 := am_ (show (P0_ go5 ∨ w.heap.size ≤ go5) from (HO_0.out.1 _ rfl))
     obtain ⟨ce5, hcl5, hM5, hcc5, hfr5⟩ := Kd.R_elem HO_0.out z51 (x5_1 : Int) p5 q5
     obtain rfl := k51_openM hM5
     have hx5_0 : wr.cell? ⟨go5, (x5_1 : Int).toNat * 3, none⟩ = some (.int .i64 ((rd_T51 x0_1 x5_1).f0)) := hcc5 0 _ rfl
     have hx5_1 : wr.cell? ⟨go5, (x5_1 : Int).toNat * 3 + 1, none⟩ = some (.int .i64 ((rd_T51 x0_1 x5_1).f1)) := hcc5 1 _ rfl
     have hx5_2 : wr.cell? ⟨go5, (x5_1 : Int).toNat * 3 + 2, none⟩ = some (.int .i64 ((rd_T51 x0_1 x5_1).f2)) := hcc5 2 _ rfl
     have hf5_0 : wr.frozen? ⟨go5, (x5_1 : Int).toNat * 3, none⟩ = false := hfr5 0
     have hf5_1 : wr.frozen? ⟨go5, (x5_1 : Int).toNat * 3 + 1, none⟩ = false := hfr5 1
     have hf5_2 : wr.frozen? ⟨go5, (x5_1 : Int).toNat * 3 + 2, none⟩ = false := hfr5 2
     clear hcl5 hcc5 hfr5; (try clear hM5)
     replace p5 := eq_true p5
     replace q5 := eq_true q5
     have HX9 := am_ (show Kd.R k51 51 wr w0.heap.size (fun k_ => (P0_ k_ ∨ w.heap.size ≤ k_)) (.slice (some ⟨go5, 0, none⟩) x0_1.length co8) x0_1 from (by (with_reducible repeat (first | apply Kd.R_alloc | apply Kd.R_drewN | apply Kd.R_drew)); exact HO_0.out))
     obtain ⟨ce9, hcl9, hM9, hcc9, hfr9⟩ := Kd.R_elem HX9.out z51 (x5_1 : Int) (of_decide_eq_true (by first | (with_reducible assumption) | assumption)) (by have h_ : (x5_1 : Int) < ((x0_1.length : Int) : Int) := of_decide_eq_true (by first | (with_reducible assumption) | assumption); first | exact h_ | (have e_ := (Kd.R_reads' HO_0.out).1; omega) | simpa using h_)
     obtain rfl := k51_openM hM9
     have HP9 := Kd.R_seg HX9.out (x5_1 : Int) (of_decide_eq_true (by first | (with_reducible assumption) | assumption)) (by have h_ : (x5_1 : Int) < ((x0_1.length : Int) : Int) := of_decide_eq_true (by first | (with_reducible assumption) | assumption); first | exact h_ | (have e_ := (Kd.R_reads' HO_0.out).1; omega) | simpa using h_) (seg := [.int .i64 x1_1]) (j := 0) hcl9 hcc9 (show 1 ≤ 3 from by decide) (x' := (⟨x1_1, (rd_T51 x0_1 x5_1).f1, (rd_T51 x0_1 x5_1).f2⟩ : S51)) (k51_mkM _ _ _ (⟨x1_1, (rd_T51 x0_1 x5_1).f1, (rd_T51 x0_1 x5_1).f2⟩ : S51) ) (fun _ hk => hk)
     have hx9_0 := hcc9 0 _ rfl
     (try simp only [show (k51).sz = 3 from rfl, Nat.mul_one, Nat.add_zero] at hx9_0)
     have hf9_0 := hfr9 0
     (try simp only [show (k51).sz = 3 from rfl, Nat.mul_one, Nat.add_zero] at hf9_0)
     clear hcl9 hcc9 hfr9; (try clear hM9)
     go_wp2_with (first | ((with_reducible refine gate_store (t := 3) (p := 16) rfl ?_); refine store_event (t := 3) (p := 16) (v := ?vo_w10) (w1 := (wr.setCell ⟨go5, (x5_1 : Int).toNat * 3, none⟩ (.int .i64 x1_1))) ?hg ?ho ?hn ?hr ?_; (case ho => rfl); (case hg => rfl); (case hn => rfl); (case hr => first | (go_simp; done) | (go_simp; rfl)); intro w10 hw; have hg : wr.grownBy w10 (some go5) := (by rw [hw]; exact HP9.2); have hp_ : Kd.R k51 51 w10 w0.heap.size (fun k_ => (P0_ k_ ∨ w.heap.size ≤ k_)) (.slice (some ⟨go5, 0, none⟩) x0_1.length co8) y255 := (by rw [hw, Ny255.out]; exact HP9.1); clear HP9; have n0_ := am_ (hp_); have n1_ := am_ ((by rw [hw]; exact below_set (HB.out) GB5.out : Below w0.heap.size w0 w10)); have n2_ := am_ (Kept.of_grown (S := (fun k_ => P0_ k_)) hg (by repeat (first | (with_reducible first | exact HK.out | apply Kept.alloc | apply Kept.drewN | apply Kept.drew) | exact HK.out)) (fun k_ e_ => (HO_0.out.1 k_ e_))); clear HO_0; clear HB; clear HK; have HO_0 := n0_; have HB := n1_; have HK := n2_; clear n0_ n1_ n2_; clear hg hw hp_; have p6 : 0 ≤ (x5_1 : Int) := of_decide_eq_true (by first | (with_reducible assumption) | assumption); have q6 : (x5_1 : Int) < ((x0_1.length : Int) : Int) := of_decide_eq_true (by first | (with_reducible assumption) | assumption); obtain ⟨ce6, hcl6, hM6, hcc6, hfr6⟩ := Kd.R_elem HO_0.out z51 (x5_1 : Int) p6 q6; obtain rfl := k51_openM hM6; have hx6_0 : w10.cell? ⟨go5, (x5_1 : Int).toNat * 3, none⟩ = some (.int .i64 ((rd_T51 y255 x5_1).f0)) := hcc6 0 _ rfl; have hx6_1 : w10.cell? ⟨go5, (x5_1 : Int).toNat * 3 + 1, none⟩ = some (.int .i64 ((rd_T51 y255 x5_1).f1)) := hcc6 1 _ rfl; have hx6_2 : w10.cell? ⟨go5, (x5_1 : Int).toNat * 3 + 2, none⟩ = some (.int .i64 ((rd_T51 y255 x5_1).f2)) := hcc6 2 _ rfl; have hf6_0 : w10.frozen? ⟨go5, (x5_1 : Int).toNat * 3, none⟩ = false := hfr6 0; have hf6_1 : w10.frozen? ⟨go5, (x5_1 : Int).toNat * 3 + 1, none⟩ = false := hfr6 1; have hf6_2 : w10.frozen? ⟨go5, (x5_1 : Int).toNat * 3 + 2, none⟩ = false := hfr6 2; clear hcl6 hcc6 hfr6; (try clear hM6); replace p6 := eq_true p6; replace q6 := eq_true q6; have HX11 := am_ (show Kd.R k51 51 w10 w0.heap.size (fun k_ => (P0_ k_ ∨ w.heap.size ≤ k_)) (.slice (some ⟨go5, 0, none⟩) x0_1.length co8) y255 from (by (with_reducible repeat (first | apply Kd.R_alloc | apply Kd.R_drewN | apply Kd.R_drew)); exact HO_0.out)); obtain ⟨ce11, hcl11, hM11, hcc11, hfr11⟩ := Kd.R_elem HX11.out z51 (x5_1 : Int) (of_decide_eq_true (by first | (with_reducible assumption) | assumption)) (by have h_ : (x5_1 : Int) < ((x0_1.length : Int) : Int) := of_decide_eq_true (by first | (with_reducible assumption) | assumption); first | exact h_ | (have e_ := (Kd.R_reads' HO_0.out).1; omega) | simpa using h_); obtain rfl := k51_openM hM11; have HP11 := Kd.R_seg HX11.out (x5_1 : Int) (of_decide_eq_true (by first | (with_reducible assumption) | assumption)) (by have h_ : (x5_1 : Int) < ((x0_1.length : Int) : Int) := of_decide_eq_true (by first | (with_reducible assumption) | assumption); first | exact h_ | (have e_ := (Kd.R_reads' HO_0.out).1; omega) | simpa using h_) (seg := [.int .i64 (wrap64 (x1_1 + 1))]) (j := 1) hcl11 hcc11 (show 2 ≤ 3 from by decide) (x' := (⟨(rd_T51 y255 x5_1).f0, wrap64 (x1_1 + 1), (rd_T51 y255 x5_1).f2⟩ : S51)) (k51_mkM _ _ _ (⟨(rd_T51 y255 x5_1).f0, wrap64 (x1_1 + 1), (rd_T51 y255 x5_1).f2⟩ : S51) ) (fun _ hk => hk); have hx11_1 := hcc11 1 _ rfl; (try simp only [show (k51).sz = 3 from rfl, Nat.mul_one, Nat.add_zero] at hx11_1); have hf11_1 := hfr11 1; (try simp only [show (k51).sz = 3 from rfl, Nat.mul_one, Nat.add_zero] at hf11_1); clear hcl11 hcc11 hfr11; (try clear hM11)) | ((with_reducible refine gate_store (t := 3) (p := 23) rfl ?_); refine store_event (t := 3) (p := 23) (v := ?vo_w12) (w1 := (w10.setCell ⟨go5, (x5_1 : Int).toNat * 3 + 1, none⟩ (.int .i64 (wrap64 (x1_1 + 1))))) ?hg ?ho ?hn ?hr ?_; (case ho => rfl); (case hg => rfl); (case hn => rfl); (case hr => first | (go_simp; done) | (go_simp; rfl)); intro w12 hw; have hg : w10.grownBy w12 (some go5) := (by rw [hw]; exact HP11.2); have hp_ : Kd.R k51 51 w12 w0.heap.size (fun k_ => (P0_ k_ ∨ w.heap.size ≤ k_)) (.slice (some ⟨go5, 0, none⟩) x0_1.length co8) y256 := (by rw [hw, Ny256.out]; exact HP11.1); clear HP11; have n0_ := am_ (hp_); have n1_ := am_ ((by rw [hw]; exact below_set (HB.out) GB5.out : Below w0.heap.size w0 w12)); have n2_ := am_ (Kept.of_grown (S := (fun k_ => P0_ k_)) hg (by repeat (first | (with_reducible first | exact HK.out | apply Kept.alloc | apply Kept.drewN | apply Kept.drew) | exact HK.out)) (fun k_ e_ => (HO_0.out.1 k_ e_))); clear HO_0; clear HB; clear HK; have HO_0 := n0_; have HB := n1_; have HK := n2_; clear n0_ n1_ n2_; clear hg hw hp_; have p7 : 0 ≤ (x5_1 : Int) := of_decide_eq_true (by first | (with_reducible assumption) | assumption); have q7 : (x5_1 : Int) < ((x0_1.length : Int) : Int) := of_decide_eq_true (by first | (with_reducible assumption) | assumption); obtain ⟨ce7, hcl7, hM7, hcc7, hfr7⟩ := Kd.R_elem HO_0.out z51 (x5_1 : Int) p7 q7; obtain rfl := k51_openM hM7; have hx7_0 : w12.cell? ⟨go5, (x5_1 : Int).toNat * 3, none⟩ = some (.int .i64 ((rd_T51 y256 x5_1).f0)) := hcc7 0 _ rfl; have hx7_1 : w12.cell? ⟨go5, (x5_1 : Int).toNat * 3 + 1, none⟩ = some (.int .i64 ((rd_T51 y256 x5_1).f1)) := hcc7 1 _ rfl; have hx7_2 : w12.cell? ⟨go5, (x5_1 : Int).toNat * 3 + 2, none⟩ = some (.int .i64 ((rd_T51 y256 x5_1).f2)) := hcc7 2 _ rfl; have hf7_0 : w12.frozen? ⟨go5, (x5_1 : Int).toNat * 3, none⟩ = false := hfr7 0; have hf7_1 : w12.frozen? ⟨go5, (x5_1 : Int).toNat * 3 + 1, none⟩ = false := hfr7 1; have hf7_2 : w12.frozen? ⟨go5, (x5_1 : Int).toNat * 3 + 2, none⟩ = false := hfr7 2; clear hcl7 hcc7 hfr7; (try clear hM7); replace p7 := eq_true p7; replace q7 := eq_true q7; have HX13 := am_ (show Kd.R k51 51 w12 w0.heap.size (fun k_ => (P0_ k_ ∨ w.heap.size ≤ k_)) (.slice (some ⟨go5, 0, none⟩) x0_1.length co8) y256 from (by (with_reducible repeat (first | apply Kd.R_alloc | apply Kd.R_drewN | apply Kd.R_drew)); exact HO_0.out)); obtain ⟨ce13, hcl13, hM13, hcc13, hfr13⟩ := Kd.R_elem HX13.out z51 (x5_1 : Int) (of_decide_eq_true (by first | (with_reducible assumption) | assumption)) (by have h_ : (x5_1 : Int) < ((x0_1.length : Int) : Int) := of_decide_eq_true (by first | (with_reducible assumption) | assumption); first | exact h_ | (have e_ := (Kd.R_reads' HO_0.out).1; omega) | simpa using h_); obtain rfl := k51_openM hM13; have HP13 := Kd.R_seg HX13.out (x5_1 : Int) (of_decide_eq_true (by first | (with_reducible assumption) | assumption)) (by have h_ : (x5_1 : Int) < ((x0_1.length : Int) : Int) := of_decide_eq_true (by first | (with_reducible assumption) | assumption); first | exact h_ | (have e_ := (Kd.R_reads' HO_0.out).1; omega) | simpa using h_) (seg := [.int .i64 (wrap64 ((wrap64 (x1_1 + 1)) + 1))]) (j := 2) hcl13 hcc13 (show 3 ≤ 3 from by decide) (x' := (⟨(rd_T51 y256 x5_1).f0, (rd_T51 y256 x5_1).f1, wrap64 ((wrap64 (x1_1 + 1)) + 1)⟩ : S51)) (k51_mkM _ _ _ (⟨(rd_T51 y256 x5_1).f0, (rd_T51 y256 x5_1).f1, wrap64 ((wrap64 (x1_1 + 1)) + 1)⟩ : S51) ) (fun _ hk => hk); have hx13_2 := hcc13 2 _ rfl; (try simp only [show (k51).sz = 3 from rfl, Nat.mul_one, Nat.add_zero] at hx13_2); have hf13_2 := hfr13 2; (try simp only [show (k51).sz = 3 from rfl, Nat.mul_one, Nat.add_zero] at hf13_2); clear hcl13 hcc13 hfr13; (try clear hM13)) | ((with_reducible refine gate_store (t := 3) (p := 30) rfl ?_); refine store_event (t := 3) (p := 30) (v := ?vo_w14) (w1 := (w12.setCell ⟨go5, (x5_1 : Int).toNat * 3 + 2, none⟩ (.int .i64 (wrap64 ((wrap64 (x1_1 + 1)) + 1))))) ?hg ?ho ?hn ?hr ?_; (case ho => rfl); (case hg => rfl); (case hn => rfl); (case hr => first | (go_simp; done) | (go_simp; rfl)); intro w14 hw; have hg : w12.grownBy w14 (some go5) := (by rw [hw]; exact HP13.2); have hp_ : Kd.R k51 51 w14 w0.heap.size (fun k_ => (P0_ k_ ∨ w.heap.size ≤ k_)) (.slice (some ⟨go5, 0, none⟩) x0_1.length co8) y257 := (by rw [hw, Ny257.out]; exact HP13.1); clear HP13; have n0_ := am_ (hp_); have n1_ := am_ ((by rw [hw]; exact below_set (HB.out) GB5.out : Below w0.heap.size w0 w14)); have n2_ := am_ (Kept.of_grown (S := (fun k_ => P0_ k_)) hg (by repeat (first | (with_reducible first | exact HK.out | apply Kept.alloc | apply Kept.drewN | apply Kept.drew) | exact HK.out)) (fun k_ e_ => (HO_0.out.1 k_ e_))); clear HO_0; clear HB; clear HK; have HO_0 := n0_; have HB := n1_; have HK := n2_; clear n0_ n1_ n2_; clear hg hw hp_))
     go_roundg k1
     case measure => have := HK1.out; omega
     case rel => exact ⟨(y257), (wrap64 ((wrap64 ((wrap64 (x1_1 + 1)) + 1)) + 1)), (wrap64 (x5_1 + 1)), (by first | rfl | (simp; done) | (simp [*]; done)), (by first | rfl | (simp; done) | (simp [*]; done)), H', ⟨by have := HK1.out; omega⟩, ⟨by (with_reducible repeat (first | apply Kd.R_alloc | apply Kd.R_drewN | apply Kd.R_drew)); exact HO_0.out⟩, ⟨by repeat (first | (with_reducible first | exact HK.out | apply Kept.alloc | apply Kept.drewN | apply Kept.drew) | exact HK.out)⟩, ⟨by repeat (first | (with_reducible first | exact HB.out | apply below_alloc | apply pw_below_drewN | apply below_drew1) | exact HB.out)⟩⟩
    ·rw [if_neg c4] at H
     exact absurd H (by simp)
   ·rw [if_neg c3] at H
    have c3b0 : decide (x5_1 < (x0_1.length : Int)) = false := decide_eq_false c3
    clear c3
    simp only [Option.some.injEq, Prod.mk.injEq] at H
    obtain ⟨rfl, rfl⟩ := H
    obtain ⟨Ao15, co15, eo15⟩ := Kd.R_slice HO_0.out
    subst eo15
    go_wp2
    go_ret
    exact ⟨Sh.eR, by (with_reducible repeat (first | apply Kd.R_alloc | apply Kd.R_drewN | apply Kd.R_drew)); exact HO_0.out, Sh.bw, by repeat (first | (with_reducible first | exact HK.out | apply Kept.alloc | apply Kept.drewN | apply Kept.drew) | exact HK.out)⟩

end Go.Proofs.Ytijgdncmancolaa.P
namespace Go.Proofs.Ytijgdncmancolaa.P
open Go.RowKit Go.Proofs.YtijgdncmancolaaW.PrintWords Go.Proofs.YtijgdncmancolaaW.PrintLast Go.Proofs.YtijgdncmancolaaW.PrintMore Go.Proofs.Ytijgdncmancolaa.Hof
attribute [local go_sem] max2_int min2_int max_two min_two max_three min_three max_four min_four   -- for this text's walks alone
set_option linter.unusedVariables false
set_option linter.unusedSimpArgs false

/-! ### laws_markIntSS: function 31 -/
def laws_markIntSS.f (k : Nat) : List (List (Int)) → Int → Option (Int × List (List (Int)))
 | [], a => some (a, [])
 | x :: t, a => (laws_markIntS.f k x a).bind fun b => (laws_markIntSS.f k t b.1).bind fun c => some (c.1, b.2 :: c.2)
theorem laws_markIntSS.len (k : Nat) : ∀ (l : List (List (Int))) (a r1 : Int) (r2 : List (List (Int))), laws_markIntSS.f k l a = some (r1, r2) → r2.length = l.length
 | [], a, r1, r2, h => by
  simp only [laws_markIntSS.f, Option.some.injEq, Prod.mk.injEq] at h
  rw [← h.2]
 | x :: t, a, r1, r2, h => by
  simp only [laws_markIntSS.f] at h
  obtain ⟨b, hb, h⟩ := Option.bind_eq_some_iff.mp h
  obtain ⟨c, hc, h⟩ := Option.bind_eq_some_iff.mp h
  simp only [Option.some.injEq, Prod.mk.injEq] at h
  rw [← h.2, List.length_cons, List.length_cons, laws_markIntSS.len k t b.1 c.1 c.2 hc]
/-- The rows inside a row of rows of one's own: outer cells, and each inner row by itself. -/
def laws_markIntSS.I (P0 : Nat → Prop) (f : Nat → Nat) (base : Nat) (v : Value) (n : Nat) (inner : List Value) (W : World) (L : List (List (Int))) : Prop :=
 W.ownsRow base 22 1 v n inner ∧ L.length = n ∧ ∀ i, i < n → ∃ u, inner[i]? = some u ∧ Kd.R (Kd.int .i64) 3 W base (fun k => (P0 k ∧ some k ≠ v.ownBlock) ∧ f k = i) u (L.getD i [])
theorem laws_markIntSS.split {P0 : Nat → Prop} {base : Nat} {v : Value} {W : World} {l : List (List (Int))} (h : Kd.S (Kd.slice 3 (Kd.int .i64)) 22 W base P0 v l) :
  ∃ f inner, (∀ k, v.ownBlock = some k → P0 k) ∧ laws_markIntSS.I P0 f base v l.length inner W l := by
 obtain ⟨f, hok, inner, hown, hrep⟩ := h
 rw [List.length_zipIdx] at hown
 refine ⟨f, inner, hok, hown, rfl, fun i hi => ?_⟩
 obtain ⟨u, hu, hr⟩ := hrep.2 i (l[i], i) (by rw [List.getElem?_zipIdx, List.getElem?_eq_getElem hi]; simp)
 rw [show (Kd.tag f (Kd.slice 3 (Kd.int .i64))).sz = 1 from rfl, Nat.mul_one] at hu
 refine ⟨u, ?_, ?_⟩
 ·have := congrArg (fun c => c[0]?) hu
  simpa [List.getElem?_take, List.getElem?_drop] using this
 ·rw [List.getD_eq_getElem?_getD, List.getElem?_eq_getElem hi]; exact hr
theorem laws_markIntSS.join {P0 : Nat → Prop} {f : Nat → Nat} {base : Nat} {v : Value} {inner : List Value} {W : World} {L : List (List (Int))} (hok : ∀ k, v.ownBlock = some k → P0 k) (h : laws_markIntSS.I P0 f base v L.length inner W L) :
  Kd.S (Kd.slice 3 (Kd.int .i64)) 22 W base P0 v L := by
 obtain ⟨hown, _, hr⟩ := h
 refine ⟨f, hok, inner, by rw [List.length_zipIdx]; exact hown, ?_, fun j p hj => ?_⟩
 ·rw [List.length_zipIdx]; exact hown.1
 ·rw [List.getElem?_zipIdx] at hj
  obtain ⟨x, hx, rfl⟩ := Option.map_eq_some_iff.1 hj
  have hi := (List.getElem?_eq_some_iff.1 hx).1
  obtain ⟨u, hu, h1⟩ := hr j hi
  refine ⟨u, ?_, ?_⟩
  ·rw [show (Kd.tag f (Kd.slice 3 (Kd.int .i64))).sz = 1 from rfl, Nat.mul_one]
   have hl := hown.1
   apply List.ext_getElem?
   intro q
   rw [List.getElem?_take, List.getElem?_drop]
   by_cases hq : q < 1
   ·obtain rfl : q = 0 := by omega
    simpa using hu
   ·rw [if_neg hq]; rw [List.getElem?_eq_none (by simp; omega)]
  ·rw [List.getD_eq_getElem?_getD, hx] at h1
   simpa using h1
theorem laws_markIntSS.drop_consM {l : List (List (Int))} {j : Nat} (h : j < l.length) : l.drop j = l.getD j [] :: l.drop (j + 1) := by
 rw [List.drop_eq_getElem_cons h]
 simp [List.getD_eq_getElem?_getD, List.getElem?_eq_getElem h]
set_option maxHeartbeats 4000000 in
set_option maxRecDepth 100000 in
theorem laws_markIntSS.calls (k : Nat) (P0_ : Nat → Prop) (u9000_ : Value) (l0 : List (List (Int))) (a1 : Int) (r1 : Int) (r2 : List (List (Int))) (w0 w : World) (hB : Below w0.heap.size w0 w) (ho0 : Kd.S (Kd.slice 3 (Kd.int .i64)) 22 w w0.heap.size P0_ u9000_ l0) (h : laws_markIntSS.f k l0 a1 = some (r1, r2)) :
  Calls Try.prog 31 #[u9000_, .int .i64 a1] w fun e w' => e = .returned (.int .i64 r1) ∧ Kd.S (Kd.slice 3 (Kd.int .i64)) 22 w' w0.heap.size P0_ u9000_ r2 ∧ Below w0.heap.size w0 w' ∧ Kept w w' (fun k_ => P0_ k_) := by
 obtain ⟨f, inner, hok, hI⟩ := laws_markIntSS.split ho0
 have hn : l0.length ≤ 9223372036854775807 := (Kd.S_reads ho0).choose_spec.choose_spec.2.2.2.1
 obtain ⟨A, c, hv⟩ := Kd.S_slice ho0
 subst hv
 have HH := am_ h
 have HO := am_ hok
 have HI := am_ hI
 have HB := am_ hB
 have HK := am_ (Kept.refl w P0_)
 clear h hok hI hB ho0
 go_enter Try.func31, Try.ntmps31
 go_wp2
 go_loopg [1, 5] l0.length (fun gg v1 v5 wr => ∃ (j : Nat) (a : Int) (d t : List (List (Int))), j ≤ l0.length ∧ l0.length - j ≤ gg ∧ v1 = .int .i64 a ∧ v5 = .int .i64 j ∧ d.length = j ∧ Aside0 (laws_markIntSS.f k (l0.drop j) a = some (r1, t)) ∧ Aside0 (d ++ t = r2) ∧ Aside0 (laws_markIntSS.I P0_ f w0.heap.size (.slice A l0.length c) l0.length inner wr (d ++ l0.drop j)) ∧ Aside0 (Below w0.heap.size w0 wr) ∧ Aside0 (Kept w wr P0_))
 case atStart => exact ⟨0, a1, [], r2, Nat.zero_le _, by omega, rfl, rfl, rfl, HH, ⟨rfl⟩, HI, HB, HK⟩
 case round =>
  obtain ⟨j, a, d, t, hj, hg, rfl, rfl, hd, HF, HT, HI2, HB2, HK2⟩ := hrel
  clear HH HI HB HK
  by_cases hlt : j < l0.length
  ·have hltz : (j : Int) < (l0.length : Int) := by omega
   have hF := HF.out
   rw [laws_markIntSS.drop_consM hlt] at hF
   simp only [laws_markIntSS.f] at hF
   obtain ⟨b, hb0, hF⟩ := Option.bind_eq_some_iff.mp hF
   obtain ⟨cc, hc0, hF⟩ := Option.bind_eq_some_iff.mp hF
   simp only [Option.some.injEq, Prod.mk.injEq] at hF
   obtain ⟨rfl, rfl⟩ := hF
   obtain ⟨hown, hL, hrs⟩ := HI2.out
   obtain ⟨u, hu, hru⟩ := hrs j hlt
   have eL : (d ++ l0.drop j).getD j [] = l0.getD j [] := by
    rw [List.getD_eq_getElem?_getD, List.getElem?_append_right (by omega), hd, Nat.sub_self, List.getElem?_drop, List.getD_eq_getElem?_getD]; simp
   rw [eL] at hru
   obtain ⟨hl1, ⟨e1, hz⟩ | ⟨g, cap, cur, e1, hbg, hcur, hcap, _, hsz1, htake⟩⟩ := id hown
   ·omega
   have eA : A = some ⟨g, 0, none⟩ := by injection e1
   subst eA
   have hx : wr.cell? ⟨g, j, none⟩ = some u := by
    refine (blk_cell hcur j).trans ?_
    rw [← htake, List.getElem?_take] at hu
    rw [if_pos (by omega)] at hu
    simpa using hu
   have HF2 := am_ (And.intro hb0 hc0)
   have HRU := am_ hru
   have HRS := am_ hrs
   have HOW := am_ hown
   clear hF hb0 hc0 hru hrs hown hl1 e1 hbg hcur hcap hsz1 htake hL
   go_wp2_with (first | (go_at_call 12; go_loud (refine (laws_markIntS.calls k _ u (l0.getD j []) a b.1 b.2 w0 _ HB2.out HRU.out HF2.out.1).mono ?_); rintro e w' ⟨rfl, hR, hb, hkp⟩))
   go_roundg (l0.length - (j + 1))
   case measure => omega
   case rel =>
    refine ⟨j + 1, b.1, d ++ [b.2], cc.2, by omega, by omega, rfl, by go_num, by simp [hd], ⟨HF2.out.2⟩, ⟨by rw [← HT.out]; simp⟩, ⟨?_, ?_, ?_⟩, ⟨hb⟩, ⟨HK2.out.then_ hkp (fun k_ hk => .inl hk.1.1)⟩⟩
    ·exact own_move HOW.out (fun k_ hk => hkp.2 k_ (own_lt HOW.out k_ hk) (fun h_ => h_.1.2 hk.symm))
    ·simp [hd]; omega
    ·intro i hi
     by_cases hij : i = j
     ·subst hij
      refine ⟨u, hu, ?_⟩
      rw [show (d ++ [b.2] ++ l0.drop (i + 1)).getD i [] = b.2 by rw [List.getD_eq_getElem?_getD, List.append_assoc, List.getElem?_append_right (by omega), hd, Nat.sub_self]; simp]
      exact Kd.R_reok rfl hR (fun k_ e_ => HRU.out.1 k_ e_)
     ·obtain ⟨u2, hu2, hr2⟩ := HRS.out i hi
      refine ⟨u2, hu2, ?_⟩
      rw [show (d ++ [b.2] ++ l0.drop (j + 1)).getD i [] = (d ++ l0.drop j).getD i [] by
       rw [laws_markIntSS.drop_consM hlt, List.getD_eq_getElem?_getD, List.getD_eq_getElem?_getD]
       rcases Nat.lt_or_ge i j with h1 | h1
       ·rw [List.append_assoc, List.getElem?_append_left (by omega), List.getElem?_append_left (by omega)]
       ·have e1 : (d ++ ([b.2] ++ l0.drop (j + 1)))[i]? = ([b.2] ++ l0.drop (j + 1))[i - d.length]? := List.getElem?_append_right (by omega)
        have e2 : (d ++ (l0.getD j [] :: l0.drop (j + 1)))[i]? = (l0.getD j [] :: l0.drop (j + 1))[i - d.length]? := List.getElem?_append_right (by omega)
        rw [List.append_assoc, e1, e2, hd]
        obtain ⟨q, hq⟩ : ∃ q, i - j = q + 1 := ⟨i - j - 1, by omega⟩
        rw [hq]; simp]
      exact Kd.R_step hr2 (fun k_ hk hlt2 => hkp.2 k_ hlt2 (fun h_ => hij (hk.2.symm.trans h_.2)))
  ·have hltz : ¬ (j : Int) < (l0.length : Int) := by omega
   have hF := HF.out
   rw [List.drop_of_length_le (by omega)] at hF
   simp only [laws_markIntSS.f, Option.some.injEq, Prod.mk.injEq] at hF
   obtain ⟨rfl, rfl⟩ := hF
   go_wp2
   go_ret
   have hI := HI2.out
   rw [List.drop_of_length_le (by omega), HT.out] at hI
   have hl2 : r2.length = l0.length := hI.2.1
   refine ⟨rfl, ?_, HB2.out, HK2.out⟩
   rw [← hl2] at hI ⊢
   exact laws_markIntSS.join (f := f) (inner := inner) (by rw [hl2]; exact HO.out) hI

end Go.Proofs.Ytijgdncmancolaa.P
namespace Go.Proofs.Ytijgdncmancolaa.P
open Go.RowKit Go.Proofs.YtijgdncmancolaaW.PrintWords Go.Proofs.YtijgdncmancolaaW.PrintLast Go.Proofs.YtijgdncmancolaaW.PrintMore Go.Proofs.Ytijgdncmancolaa.Hof
attribute [local go_sem] max2_int min2_int max_two min_two max_three min_three max_four min_four   -- for this text's walks alone
set_option linter.unusedVariables false
set_option linter.unusedSimpArgs false

/-! ### laws_markAuto: function 11 -/
def laws_markAuto.f (k : Nat) (a0_0 : Int) (l0_1 : List Int) (l0_2 : List (S51)) (l0_3 : List (List Int)) (a1 : Int) : Option Int := (laws_markIntS.f k l0_1 a1).bind fun b => (laws_markEdgeS.f k l0_2 b.1).bind fun c => (laws_markIntSS.f k l0_3 c.1).bind fun d => some d.1
theorem laws_markAuto.typed {α : Type} {d : Kd α} {e : TypeId} {P : Nat → Prop} {base : Nat} {v : Value} {W : World} {l : List α} (h : d.R e W base P v l) : ∀ k, v.ownBlock = some k → P k ∧ ∃ cur : Array Value, W.heap[k]? = some (.cells cur e (0, 0)) := by
 obtain ⟨hok, inner, hown, hrep⟩ := h
 obtain ⟨hl, ⟨e1, hz⟩ | ⟨g, cap, cur, e1, hbg, hcur, hcap, _, hsz, htake⟩⟩ := hown
 ·intro k hk; rw [e1] at hk; simp [Value.ownBlock] at hk
 ·intro k hk
  refine ⟨hok k hk, cur, ?_⟩
  rw [e1] at hk
  simp [Value.ownBlock] at hk
  rw [← hk]; exact hcur
theorem laws_markAuto.typedS {P : Nat → Prop} {base : Nat} {v : Value} {W : World} {l : List (List Int)} (h : Kd.S (Kd.slice 3 (Kd.int .i64)) 22 W base P v l) : Kd.S (Kd.slice 3 (Kd.int .i64)) 22 W base (fun k => P k ∧ ∃ (cur : Array Value) (e : TypeId), e ≠ 51 ∧ W.heap[k]? = some (.cells cur e (0, 0))) v l := by
 have hR := laws_markAuto.typed (Kd.S_R h)
 obtain ⟨f, inner, hok, hI⟩ := laws_markIntSS.split h
 refine laws_markIntSS.join (f := f) (inner := inner) (fun k hk => ⟨hok k hk, ?_⟩) ⟨hI.1, hI.2.1, fun i hi => ?_⟩
 ·obtain ⟨_, cur, hc⟩ := hR k hk
  exact ⟨cur, 22, by decide, hc⟩
 ·obtain ⟨u, hu, hr⟩ := hI.2.2 i hi
  refine ⟨u, hu, Kd.R_reok rfl hr (fun k hk => ?_)⟩
  obtain ⟨hp, cur, hc⟩ := laws_markAuto.typed hr k hk
  exact ⟨⟨⟨hp.1.1, cur, 3, by decide, hc⟩, hp.1.2⟩, hp.2⟩
set_option maxHeartbeats 4000000 in
set_option maxRecDepth 100000 in
theorem laws_markAuto.calls (k : Nat) (P0_1_ : Nat → Prop) (a0_0 : Int) (u9001_ : Value) (l0_1 : List Int) (u9002_ : Value) (l0_2 : List (S51)) (u9003_ : Value) (l0_3 : List (List Int)) (a1 : Int) (r : Int) (w0 w : World) (hB : Below w0.heap.size w0 w) (ho0_1 : Kd.R (Kd.int .i64) 3 w w0.heap.size P0_1_ u9001_ l0_1) (ho0_2 : Kd.R k51 51 w w0.heap.size P0_1_ u9002_ l0_2) (ho0_3 : Kd.S (Kd.slice 3 (Kd.int .i64)) 22 w w0.heap.size (fun k_ => P0_1_ k_ ∧ some k_ ≠ u9001_.ownBlock) u9003_ l0_3) (h : laws_markAuto.f k a0_0 l0_1 l0_2 l0_3 a1 = some r) :
  Calls Try.prog 11 #[.agg #[.int .i64 a0_0, u9001_, u9002_, u9003_], .int .i64 a1] w fun e w' => e = .returned (.int .i64 r) ∧ Below w0.heap.size w0 w' ∧ Kept w w' (fun k_ => P0_1_ k_) := by
 obtain ⟨b, h1, h⟩ := Option.bind_eq_some_iff.mp h
 obtain ⟨c, h2, h⟩ := Option.bind_eq_some_iff.mp h
 obtain ⟨dd, h3, h⟩ := Option.bind_eq_some_iff.mp h
 obtain rfl := Option.some.inj h
 obtain ⟨b1, b2⟩ := b
 obtain ⟨c1, c2⟩ := c
 obtain ⟨d1, d2⟩ := dd
 simp only at h2 h3 h ⊢
 have H1 := am_ h1
 have H2 := am_ h2
 have H3 := am_ h3
 clear h1 h2 h3 h
 have t1 := laws_markAuto.typed ho0_1
 have t2 := laws_markAuto.typed ho0_2
 have n12 : ∀ k_, u9002_.ownBlock = some k_ → u9001_.ownBlock ≠ some k_ := fun k_ e2 e1 => by
  obtain ⟨_, _, x1⟩ := t1 k_ e1
  obtain ⟨_, _, x2⟩ := t2 k_ e2
  rw [x1] at x2; simp at x2
 have R1 : Kd.R (Kd.int .i64) 3 w w0.heap.size (fun k_ => (P0_1_ k_ ∧ k_ < w.heap.size) ∧ u9001_.ownBlock = some k_) u9001_ l0_1 := Kd.R_reok rfl ho0_1 (fun k_ e_ => ⟨⟨(t1 k_ e_).1, by obtain ⟨_, _, hc⟩ := t1 k_ e_; exact blk_lt hc⟩, e_⟩)
 have R2 : Kd.R k51 51 w w0.heap.size (fun k_ => (P0_1_ k_ ∧ k_ < w.heap.size) ∧ u9002_.ownBlock = some k_) u9002_ l0_2 := Kd.R_reok rfl ho0_2 (fun k_ e_ => ⟨⟨(t2 k_ e_).1, by obtain ⟨_, _, hc⟩ := t2 k_ e_; exact blk_lt hc⟩, e_⟩)
 have R3 : Kd.S (Kd.slice 3 (Kd.int .i64)) 22 w w0.heap.size (fun k_ => (P0_1_ k_ ∧ k_ < w.heap.size) ∧ u9001_.ownBlock ≠ some k_ ∧ u9002_.ownBlock ≠ some k_) u9003_ l0_3 := Kd.S_mono (Kd.S_bound (laws_markAuto.typedS ho0_3)) (fun k_ hk => ⟨⟨hk.1.1.1, hk.2.2.1⟩, fun h_ => hk.1.1.2 h_.symm, fun h_ => by
  obtain ⟨_, _, x2⟩ := t2 k_ h_
  obtain ⟨cur, e, he, x3⟩ := hk.1.2
  rw [x2] at x3; simp at x3; exact he x3.2.symm⟩)
 have HN := am_ n12
 have HR1 := am_ R1
 have HR2 := am_ R2
 have HR3 := am_ R3
 have HB := am_ hB
 have hu32 := Try.underlying32
 clear ho0_1 ho0_2 ho0_3 hB t1 t2 n12 R1 R2 R3
 go_enter Try.func11, Try.ntmps11
 go_wp2_with (first | ((with_reducible refine gate_dst (N := 2) rfl ?_); refine Sh.bx (N := 2) (cs := #[.int .i64 a0_0, u9001_, u9002_, u9003_]) (t := 32) (h := ?_); intro g hg w1 hbox hb; have HBX := am_ hbox; have HG := am_ hg; have HB1 := am_ (below_step HB.out hb); have HK := am_ (show Kept w w1 (fun k_ => P0_1_ k_ ∧ k_ < w.heap.size) from Kept.of_below hb _); have HQ1 := am_ (Kd.R_below HR1.out hb); have HQ2 := am_ (Kd.R_below HR2.out hb); have HQ3 := am_ (Kd.S_below HR3.out hb); have hx := (blk_cell hbox 1).trans (show _ = some u9001_ from rfl); have hfz := blk_frozen hbox 1; clear hg hbox hb) | (go_at_call 12; go_loud (refine (laws_markIntS.calls k _ u9001_ l0_1 a1 b1 b2 w0 _ HB1.out HQ1.out H1.out).mono ?_); rintro e w2 ⟨rfl, _, hb, hk⟩; have HB2 := am_ hb; have HK2 := am_ (HK.out.then_ hk (fun k_ h_ => .inl h_.1)); have hbox2 := blk_kept HBX.out hk (fun h_ => by have := HG.out; have := h_.1.2; omega); have HQ4 := am_ (Kd.R_kept HQ2.out hk (fun k_ h1_ h2_ => HN.out k_ h1_.2 h2_.2)); have HQ5 := am_ (Kd.S_kept HQ3.out hk (fun k_ h1_ h2_ => h1_.2.1 h2_.2)); have hx2 := (blk_cell hbox2 2).trans (show _ = some u9002_ from rfl); have hfz2 := blk_frozen hbox2 2; have HBY := am_ hbox2; clear hb hk hbox2 HK hx hfz) | (go_at_call 30; go_loud (refine (laws_markEdgeS.calls k _ u9002_ l0_2 b1 c1 c2 w0 _ HB2.out HQ4.out H2.out).mono ?_); rintro e w3 ⟨rfl, _, hb, hk⟩; have HB3 := am_ hb; have HK3 := am_ (HK2.out.then_ hk (fun k_ h_ => .inl h_.1)); have hbox3 := blk_kept HBY.out hk (fun h_ => by have := HG.out; have := h_.1.2; omega); have HQ6 := am_ (Kd.S_kept HQ5.out hk (fun k_ h1_ h2_ => h1_.2.2 h2_.2)); have hx3 := (blk_cell hbox3 3).trans (show _ = some u9003_ from rfl); have hfz3 := blk_frozen hbox3 3; clear hb hk hbox3 HK2 hx2 hfz2) | (go_at_call 31; go_loud (refine (laws_markIntSS.calls k _ u9003_ l0_3 c1 d1 d2 w0 _ HB3.out HQ6.out H3.out).mono ?_); rintro e w4 ⟨rfl, _, hb, hk⟩; have HB4 := am_ hb; have HK4 := am_ (HK3.out.then_ hk (fun k_ h_ => .inl h_.1)); clear hb hk))
 go_ret
 exact ⟨rfl, HB4.out, HK4.out.mono (fun k_ hk => hk.1)⟩

end Go.Proofs.Ytijgdncmancolaa.P
namespace Go.Proofs.Ytijgdncmancolaa.P
open Go.RowKit Go.Proofs.YtijgdncmancolaaW.PrintWords Go.Proofs.YtijgdncmancolaaW.PrintLast Go.Proofs.YtijgdncmancolaaW.PrintMore Go.Proofs.Ytijgdncmancolaa.Hof
attribute [local go_sem] max2_int min2_int max_two min_two max_three min_three max_four min_four   -- for this text's walks alone
set_option linter.unusedVariables false
set_option linter.unusedSimpArgs false

/-! ### laws_heldIntS: function 13 -/
def laws_heldIntS.l0 : Nat → List Int → Int → Int → Option (Int)
 | 0, _, _, _ => none
 | k + 1, x0, x1, x5 => if x5 < (x0.length : Int) then (if 0 ≤ x5 then (if (rd x0 x5) = x1 then (laws_heldIntS.l0 k x0 (wrap64 (x1 + 1)) (wrap64 (x5 + 1))) else (some (-1))) else (none)) else (some x1)
def laws_heldIntS.f (k : Nat) (l0 : List Int) (a1 : Int) : Option (Int) := laws_heldIntS.l0 k l0 a1 0
theorem laws_heldIntS.mono_l : ∀ k, (∀ y0 y1 y2, LeO (laws_heldIntS.l0 k y0 y1 y2) (laws_heldIntS.l0 (k + 1) y0 y1 y2))
 | 0 => fun _ _ _ r h => by simp [laws_heldIntS.l0] at h
 | k + 1 => by
  have ih0 := laws_heldIntS.mono_l k
  ·intro y0 y1 y2
   unfold laws_heldIntS.l0
   repeat' first
   | (with_reducible exact ih0 _ _ _)
   | (with_reducible exact LeO.refl _)
   | (with_reducible exact LeO.none _)
   | (with_reducible refine LeO.ite ?_ ?_)
   | (with_reducible refine LeO.bind ?_ (fun _ => ?_))
   | exact ih0 _ _ _
   | exact LeO.none _
   | refine LeO.ite ?_ ?_
   | refine LeO.bind ?_ (fun _ => ?_)
theorem laws_heldIntS.mono : ∀ a0 a1 k, LeO (laws_heldIntS.f k a0 a1) (laws_heldIntS.f (k + 1) a0 a1) := by
 intro a0 a1 k
 have ih0 := laws_heldIntS.mono_l k
 unfold laws_heldIntS.f
 repeat' first
   | (with_reducible exact ih0 _ _ _)
   | (with_reducible exact LeO.refl _)
   | (with_reducible exact LeO.none _)
   | (with_reducible refine LeO.ite ?_ ?_)
   | (with_reducible refine LeO.bind ?_ (fun _ => ?_))
   | exact ih0 _ _ _
   | exact LeO.none _
   | refine LeO.ite ?_ ?_
   | refine LeO.bind ?_ (fun _ => ?_)
set_option maxHeartbeats 8000000 in
set_option maxRecDepth 100000 in
theorem laws_heldIntS.calls (k : Nat) (A0 : Option Addr) (c0 : Nat) (l0 : List Int) (a1 : Int) (r : Int) (w : World) (hr0 : Kd.C (Kd.int .i64) w A0 l0.length l0) (hc0 : l0.length ≤ c0) (h : laws_heldIntS.f k l0 a1 = some r) :
  Calls Try.prog 13 #[.slice A0 l0.length c0, .int .i64 a1] w fun e w' => e = .returned (.int .i64 r) ∧ Drawn0 w w' := by
 have HR0 := am_ hr0
 have HC0 := am_ hc0
 clear hr0 hc0
 have H : (laws_heldIntS.l0 k l0 a1 0) = some r := h
 clear h
 have H' := am_ H
 clear H
 go_enter Try.func13, Try.ntmps13
 go_wp2
 go_loopg [1, 5] k (fun kq v1 v5 w' => ∃ (x1_1 : Int) (x5_1 : Int), v1 = .int .i64 x1_1 ∧ v5 = .int .i64 x5_1 ∧ Aside0 (laws_heldIntS.l0 kq l0 x1_1 x5_1 = some r) ∧ Aside0 (kq ≤ k) ∧ Drawn0 w w')
 case atStart => exact ⟨(a1), (0), (by first | rfl | (simp; done) | (simp [*]; done)), (by first | rfl | (simp; done) | (simp [*]; done)), H', ⟨Nat.le_refl _⟩, by repeat (first | exact Drawn0.refl _ | apply Drawn0.step)⟩
 case round =>
  clear H'
  try clear c1
  try clear p2
  obtain ⟨x1_1, x5_1, rfl, rfl, HA, HK1, ⟨m1, rfl⟩⟩ := hrel
  cases gk with
  | zero => exact absurd HA.out (by simp [laws_heldIntS.l0])
  | succ k1 =>
   have H := HA.out
   clear HA
   simp only [laws_heldIntS.l0] at H
   by_cases c3 : x5_1 < (l0.length : Int)
   ·rw [if_pos c3] at H
    have c3b0 : decide (x5_1 < (l0.length : Int)) = true := decide_eq_true c3
    clear c3
    by_cases c4 : 0 ≤ x5_1
    ·rw [if_pos c4] at H
     have c4b0 : decide (0 ≤ x5_1) = true := decide_eq_true c4
     clear c4
     by_cases c5 : (rd l0 x5_1) = x1_1
     ·rw [if_pos c5] at H
      have c5b0 : ((rd l0 x5_1) == x1_1) = true := beq_iff_eq.mpr c5
      have c5b1 : ((rd l0 x5_1) != x1_1) = false := bne_eq_false_iff_eq.mpr c5
      clear c5
      have H' := am_ H
      clear H
      have p258 : 0 ≤ (x5_1 : Int) := of_decide_eq_true (by first | (with_reducible assumption) | assumption)
      have q258 : x5_1 < (l0.length : Int) := of_decide_eq_true (by first | (with_reducible assumption) | assumption)
      obtain ⟨ad258, e258, hx258_0⟩ := Kd.at_int HR0.out x5_1 p258 q258
      cases e258
      replace p258 := eq_true p258
      replace q258 := eq_true q258
      go_wp2
      go_roundg k1
      case measure => have := HK1.out; omega
      case rel => exact ⟨(wrap64 (x1_1 + 1)), (wrap64 (x5_1 + 1)), (by first | rfl | (simp; done) | (simp [*]; done)), (by first | rfl | (simp; done) | (simp [*]; done)), H', ⟨by have := HK1.out; omega⟩, by repeat (first | exact Drawn0.refl _ | apply Drawn0.step)⟩
     ·rw [if_neg c5] at H
      have c5b0 : ((rd l0 x5_1) == x1_1) = false := beq_eq_false_iff_ne.mpr c5
      have c5b1 : ((rd l0 x5_1) != x1_1) = true := bne_iff_ne.mpr c5
      obtain rfl := Option.some.inj H
      have p258 : 0 ≤ (x5_1 : Int) := of_decide_eq_true (by first | (with_reducible assumption) | assumption)
      have q258 : x5_1 < (l0.length : Int) := of_decide_eq_true (by first | (with_reducible assumption) | assumption)
      obtain ⟨ad258, e258, hx258_0⟩ := Kd.at_int HR0.out x5_1 p258 q258
      cases e258
      replace p258 := eq_true p258
      replace q258 := eq_true q258
      go_wp2
      go_ret
      exact ⟨by first | rfl | (simp; done) | (simp [*]; done), by repeat (first | exact Drawn0.refl _ | apply Drawn0.step)⟩
    ·rw [if_neg c4] at H
     exact absurd H (by simp)
   ·rw [if_neg c3] at H
    have c3b0 : decide (x5_1 < (l0.length : Int)) = false := decide_eq_false c3
    clear c3
    obtain rfl := Option.some.inj H
    go_wp2
    go_ret
    exact ⟨by first | rfl | (simp; done) | (simp [*]; done), by repeat (first | exact Drawn0.refl _ | apply Drawn0.step)⟩

end Go.Proofs.Ytijgdncmancolaa.P
namespace Go.Proofs.Ytijgdncmancolaa.P
open Go.RowKit Go.Proofs.YtijgdncmancolaaW.PrintWords Go.Proofs.YtijgdncmancolaaW.PrintLast Go.Proofs.YtijgdncmancolaaW.PrintMore Go.Proofs.Ytijgdncmancolaa.Hof
attribute [local go_sem] max2_int min2_int max_two min_two max_three min_three max_four min_four   -- for this text's walks alone
set_option linter.unusedVariables false
set_option linter.unusedSimpArgs false

/-! ### laws_FnExactStepAuto: function 3, on its one way -/
open Go.Proofs.Ytijgdncmancolaa.Lw
def laws_FnExactStepAuto.Holds (k : Nat) (a0_0 : Int) (l0_1 : List Int) (l0_2 : List (S61)) (l0_3 : List (List Int)) (l1 : List Int) (a2 : Int) : Prop :=
 (1048576 < (l1.length : Int)) ∨ (¬ (1048576 < (l1.length : Int))) ∧ (∃ s6 : Int, laws_szAuto.f k a0_0 l0_1 l0_2 l0_3 1048576 = some s6 ∧ ((s6 < 0) ∨ (¬ (s6 < 0)) ∧ (∃ (y9 : List (S51)) (y36 : List Int) (y37 : Bool) (m120 : Int) (m122 : Int) (y123 : List Int) (m126 : Int) (y127 : List Int), laws_toAuto.f k a0_0 l0_1 l0_2 l0_3 = some (a0_0, l0_1, y9, l0_3) ∧ laws_toIntS.f k l1 = some l1 ∧ spec_StepAuto.f k a0_0 l0_1 y9 l0_3 l1 a2 = some (y36, y37) ∧ impl_StepAuto.f k a0_0 l0_1 y9 l0_3 l1 a2 = some (y36, y37) ∧ laws_eqIntS.f k y36 y36 = some true ∧ laws_eqAuto.f k a0_0 l0_1 y9 l0_3 a0_0 l0_1 y9 l0_3 = some true ∧ laws_eqIntS.f k l1 l1 = some true ∧ laws_markAuto.f k a0_0 l0_1 y9 l0_3 1 = some m120 ∧ laws_markIntS.f k l1 m120 = some (m122, y123) ∧ laws_markIntS.f k y36 1 = some (m126, y127) ∧ laws_heldIntS.f k y127 1 = some m126 ∧ ¬ m122 < 0 ∧ ¬ m126 < 0)))
set_option maxHeartbeats 40000000 in
set_option maxRecDepth 100000 in
theorem laws_FnExactStepAuto.calls (k : Nat) (a0_0 : Int) (A0_1 : Option Addr) (c0_1 : Nat) (l0_1 : List Int) (A0_2 : Option Addr) (c0_2 : Nat) (l0_2 : List (S61)) (A0_3 : Option Addr) (c0_3 : Nat) (l0_3 : List (List Int)) (A1 : Option Addr) (c1 : Nat) (l1 : List Int) (a2 : Int) (w : World) (hr0_1 : Kd.C (Kd.int .i64) w A0_1 l0_1.length l0_1) (hc0_1 : l0_1.length ≤ c0_1) (hr0_2 : Kd.C k61 w A0_2 l0_2.length l0_2) (hc0_2 : l0_2.length ≤ c0_2) (hr0_3 : Kd.C (Kd.slice 3 (Kd.int .i64)) w A0_3 l0_3.length l0_3) (hc0_3 : l0_3.length ≤ c0_3) (hr1 : Kd.C (Kd.int .i64) w A1 l1.length l1) (hc1 : l1.length ≤ c1) (h : laws_FnExactStepAuto.Holds k a0_0 l0_1 l0_2 l0_3 l1 a2) :
  Calls Try.prog 3 #[.agg #[.int .i64 a0_0, .slice A0_1 l0_1.length c0_1, .slice A0_2 l0_2.length c0_2, .slice A0_3 l0_3.length c0_3], .slice A1 l1.length c1, .int .i64 a2] w fun e w' => e = .returned (.bool true) ∧ Below w.heap.size w w' := by
 have hu26 := Try.underlying26
 have hu32 := Try.underlying32
 have HR0_1 := am_ hr0_1
 have HC0_1 := am_ hc0_1
 clear hr0_1 hc0_1
 have HR0_2 := am_ hr0_2
 have HC0_2 := am_ hc0_2
 clear hr0_2 hc0_2
 have HR0_3 := am_ hr0_3
 have HC0_3 := am_ hc0_3
 clear hr0_3 hc0_3
 have HR1 := am_ hr1
 have HC1 := am_ hc1
 clear hr1 hc1
 have HB := am_ (Below.refl w.heap.size w)
 have NW : 0 ≤ w.heap.size := Nat.zero_le _
 rcases h with c | ⟨c, h⟩
 ·have cb : decide (1048576 < (l1.length : Int)) = true := decide_eq_true c
  clear c
  go_enter Try.func3, Try.ntmps3
  go_wp2_with (first | ((with_reducible refine gate_dst (N := 3) rfl ?_); refine Sh.bx (N := 3) (cs := #[.int .i64 a0_0, .slice A0_1 l0_1.length c0_1, .slice A0_2 l0_2.length c0_2, .slice A0_3 l0_3.length c0_3]) (t := 26) (h := ?_); intro g1 hg w3 hbox hb; have BK2 := box_new (w := w) (W := w) HB.out hg hbox; have oa4 := new_g (W := w) hg NW; replace HB := am_ (below_step HB.out hb); replace NW := Nat.le_trans NW hb.size; replace NW := BK2.lt; clear hb hbox hg; have hczq5_0 : w3.cell? ⟨g1, 0, none⟩ = some (.int .i64 a0_0) := (blk_cell BK2.b 0).trans rfl; have hfzq5_0 := blk_frozen BK2.b 0; have hczq5_1 : w3.cell? ⟨g1, 1, none⟩ = some (.slice A0_1 l0_1.length c0_1) := (blk_cell BK2.b 1).trans rfl; have hfzq5_1 := blk_frozen BK2.b 1; have hczq5_2 : w3.cell? ⟨g1, 2, none⟩ = some (.slice A0_2 l0_2.length c0_2) := (blk_cell BK2.b 2).trans rfl; have hfzq5_2 := blk_frozen BK2.b 2; have hczq5_3 : w3.cell? ⟨g1, 3, none⟩ = some (.slice A0_3 l0_3.length c0_3) := (blk_cell BK2.b 3).trans rfl; have hfzq5_3 := blk_frozen BK2.b 3))
  go_ret
  exact ⟨rfl, HB.out⟩
 have cb0 : decide (1048576 < (l1.length : Int)) = false := decide_eq_false c
 clear c
 obtain ⟨s6, ESs6, h⟩ := h
 replace ESs6 := am_ ESs6
 rcases h with c | ⟨c, h⟩
 ·have cb : decide (s6 < 0) = true := decide_eq_true c
  clear c
  go_enter Try.func3, Try.ntmps3
  go_wp2_with (first | ((with_reducible refine gate_dst (N := 3) rfl ?_); refine Sh.bx (N := 3) (cs := #[.int .i64 a0_0, .slice A0_1 l0_1.length c0_1, .slice A0_2 l0_2.length c0_2, .slice A0_3 l0_3.length c0_3]) (t := 26) (h := ?_); intro g1 hg w3 hbox hb; have BK2 := box_new (w := w) (W := w) HB.out hg hbox; have oa4 := new_g (W := w) hg NW; replace HB := am_ (below_step HB.out hb); replace NW := Nat.le_trans NW hb.size; replace NW := BK2.lt; clear hb hbox hg; have hczq5_0 : w3.cell? ⟨g1, 0, none⟩ = some (.int .i64 a0_0) := (blk_cell BK2.b 0).trans rfl; have hfzq5_0 := blk_frozen BK2.b 0; have hczq5_1 : w3.cell? ⟨g1, 1, none⟩ = some (.slice A0_1 l0_1.length c0_1) := (blk_cell BK2.b 1).trans rfl; have hfzq5_1 := blk_frozen BK2.b 1; have hczq5_2 : w3.cell? ⟨g1, 2, none⟩ = some (.slice A0_2 l0_2.length c0_2) := (blk_cell BK2.b 2).trans rfl; have hfzq5_2 := blk_frozen BK2.b 2; have hczq5_3 : w3.cell? ⟨g1, 3, none⟩ = some (.slice A0_3 l0_3.length c0_3) := (blk_cell BK2.b 3).trans rfl; have hfzq5_3 := blk_frozen BK2.b 3) | ((with_reducible refine gate_callee (f := 4) rfl ?_); refine Sh.gL (some 24) Try.func4 #[.agg #[.int .i64 a0_0, .slice A0_1 l0_1.length c0_1, .slice A0_2 l0_2.length c0_2, .slice A0_3 l0_3.length c0_3], .int .i64 1048576] (h := ?_); (with_reducible refine (laws_szAuto.calls k a0_0 _ _ l0_1 _ _ l0_2 _ _ l0_3 1048576 s6 _ (Kd.C_below HR0_1.out HB.out) HC0_1.out (Kd.C_below HR0_2.out HB.out) HC0_2.out (Kd.C_below HR0_3.out HB.out) HC0_3.out ESs6.out).mono ?_); rintro e w7 ⟨rfl, hb⟩; refine ⟨_, rfl, ?_⟩; replace BK2 := BK2.same hb; replace HB := am_ (below_step HB.out hb); replace NW := Nat.le_trans NW hb.size; clear hb; have hczq8_0 : w7.cell? ⟨g1, 0, none⟩ = some (.int .i64 a0_0) := (blk_cell BK2.b 0).trans rfl; have hfzq8_0 := blk_frozen BK2.b 0; have hczq8_1 : w7.cell? ⟨g1, 1, none⟩ = some (.slice A0_1 l0_1.length c0_1) := (blk_cell BK2.b 1).trans rfl; have hfzq8_1 := blk_frozen BK2.b 1; have hczq8_2 : w7.cell? ⟨g1, 2, none⟩ = some (.slice A0_2 l0_2.length c0_2) := (blk_cell BK2.b 2).trans rfl; have hfzq8_2 := blk_frozen BK2.b 2; have hczq8_3 : w7.cell? ⟨g1, 3, none⟩ = some (.slice A0_3 l0_3.length c0_3) := (blk_cell BK2.b 3).trans rfl; have hfzq8_3 := blk_frozen BK2.b 3))
  go_ret
  exact ⟨rfl, HB.out⟩
 have cb1 : decide (s6 < 0) = false := decide_eq_false c
 clear c
 obtain ⟨y9, y36, y37, m120, m122, y123, m126, y127, E1, E2, E3, E4, E5, E6, E7, E8, E9, E10, E11, cd0, cd1⟩ := h
 replace E1 := am_ E1
 replace E2 := am_ E2
 replace E3 := am_ E3
 replace E4 := am_ E4
 replace E5 := am_ E5
 replace E6 := am_ E6
 replace E7 := am_ E7
 replace E8 := am_ E8
 replace E9 := am_ E9
 replace E10 := am_ E10
 replace E11 := am_ E11
 have ce0 : decide (m122 < 0) = false := decide_eq_false cd0
 clear cd0
 have ce1 : decide (m126 < 0) = false := decide_eq_false cd1
 clear cd1
 have cr0 : (y37 != y37) = false := bne_self_eq_false _
 go_enter Try.func3, Try.ntmps3
 go_upto_region 13 with (first | ((with_reducible refine gate_dst (N := 3) rfl ?_); refine Sh.bx (N := 3) (cs := #[.int .i64 a0_0, .slice A0_1 l0_1.length c0_1, .slice A0_2 l0_2.length c0_2, .slice A0_3 l0_3.length c0_3]) (t := 26) (h := ?_); intro g1 hg w3 hbox hb; have BK2 := box_new (w := w) (W := w) HB.out hg hbox; have oa4 := new_g (W := w) hg NW; replace HB := am_ (below_step HB.out hb); replace NW := Nat.le_trans NW hb.size; replace NW := BK2.lt; clear hb hbox hg; have hczq5_0 : w3.cell? ⟨g1, 0, none⟩ = some (.int .i64 a0_0) := (blk_cell BK2.b 0).trans rfl; have hfzq5_0 := blk_frozen BK2.b 0; have hczq5_1 : w3.cell? ⟨g1, 1, none⟩ = some (.slice A0_1 l0_1.length c0_1) := (blk_cell BK2.b 1).trans rfl; have hfzq5_1 := blk_frozen BK2.b 1; have hczq5_2 : w3.cell? ⟨g1, 2, none⟩ = some (.slice A0_2 l0_2.length c0_2) := (blk_cell BK2.b 2).trans rfl; have hfzq5_2 := blk_frozen BK2.b 2; have hczq5_3 : w3.cell? ⟨g1, 3, none⟩ = some (.slice A0_3 l0_3.length c0_3) := (blk_cell BK2.b 3).trans rfl; have hfzq5_3 := blk_frozen BK2.b 3) | ((with_reducible refine gate_callee (f := 4) rfl ?_); refine Sh.gL (some 24) Try.func4 #[.agg #[.int .i64 a0_0, .slice A0_1 l0_1.length c0_1, .slice A0_2 l0_2.length c0_2, .slice A0_3 l0_3.length c0_3], .int .i64 1048576] (h := ?_); (with_reducible refine (laws_szAuto.calls k a0_0 _ _ l0_1 _ _ l0_2 _ _ l0_3 1048576 s6 _ (Kd.C_below HR0_1.out HB.out) HC0_1.out (Kd.C_below HR0_2.out HB.out) HC0_2.out (Kd.C_below HR0_3.out HB.out) HC0_3.out ESs6.out).mono ?_); rintro e w7 ⟨rfl, hb⟩; refine ⟨_, rfl, ?_⟩; replace BK2 := BK2.same hb; replace HB := am_ (below_step HB.out hb); replace NW := Nat.le_trans NW hb.size; clear hb; have hczq8_0 : w7.cell? ⟨g1, 0, none⟩ = some (.int .i64 a0_0) := (blk_cell BK2.b 0).trans rfl; have hfzq8_0 := blk_frozen BK2.b 0; have hczq8_1 : w7.cell? ⟨g1, 1, none⟩ = some (.slice A0_1 l0_1.length c0_1) := (blk_cell BK2.b 1).trans rfl; have hfzq8_1 := blk_frozen BK2.b 1; have hczq8_2 : w7.cell? ⟨g1, 2, none⟩ = some (.slice A0_2 l0_2.length c0_2) := (blk_cell BK2.b 2).trans rfl; have hfzq8_2 := blk_frozen BK2.b 2; have hczq8_3 : w7.cell? ⟨g1, 3, none⟩ = some (.slice A0_3 l0_3.length c0_3) := (blk_cell BK2.b 3).trans rfl; have hfzq8_3 := blk_frozen BK2.b 3) | ((with_reducible refine gate_callee (f := 6) rfl ?_); refine Sh.gL (some 29) Try.func6 #[.agg #[.int .i64 a0_0, .slice A0_1 l0_1.length c0_1, .slice A0_2 l0_2.length c0_2, .slice A0_3 l0_3.length c0_3]] (h := ?_); (with_reducible refine (laws_toAuto.calls k a0_0 _ _ l0_1 _ _ l0_2 _ _ l0_3 a0_0 l0_1 y9 l0_3 _ (Kd.C_below HR0_1.out HB.out) HC0_1.out (Kd.C_below HR0_2.out HB.out) HC0_2.out (Kd.C_below HR0_3.out HB.out) HC0_3.out E1.out).mono ?_); rintro e w10 ⟨v1_, v2_, v3_, rfl, ho0, ho1, ho2, hb⟩; refine ⟨_, rfl, ?_⟩; obtain ⟨lo14, hi15, ⟨HO11, HO12, HO13⟩, oa16, ob17, NW2⟩ := new1 (F := fun lo_ hi_ => Held (Kd.int .i64) 3 w10 w.heap.size lo_ hi_ v1_ l0_1 ∧ Held k51 51 w10 w.heap.size lo_ hi_ v2_ y9 ∧ HeldQ (Kd.slice 3 (Kd.int .i64)) 22 w10 w.heap.size lo_ hi_ (fun k_ => some k_ ≠ (v1_ : Value).ownBlock) v3_ l0_3) ⟨held_new ho0 hb HB.out, held_new ho1 hb HB.out, heldQ_new ho2 hb HB.out⟩ hb NW; replace BK2 := BK2.same hb; replace HB := am_ (below_step HB.out hb); replace NW := Nat.le_trans NW hb.size; replace NW := NW2; skip; obtain ⟨A18, c19, e20⟩ := HO11.slice; subst e20; obtain ⟨A21, c22, e23⟩ := HO12.slice; subst e23; obtain ⟨A24, c25, e26⟩ := HO13.slice; subst e26; clear hb ho0 ho1 ho2) | ((with_reducible refine gate_callee (f := 7) rfl ?_); refine Sh.gL (some 31) Try.func7 #[.slice A1 l1.length c1] (h := ?_); (with_reducible refine (laws_toIntS.calls k _ _ l1 l1 _ (Kd.C_below HR1.out HB.out) HC1.out E2.out).mono ?_); rintro e w27 ⟨v0_, rfl, ho0, hb⟩; refine ⟨_, rfl, ?_⟩; obtain ⟨lo29, hi30, HO28, oa31, ob32, NW2⟩ := new1 (F := fun lo_ hi_ => Held (Kd.int .i64) 3 w27 w.heap.size lo_ hi_ v0_ l1) (held_new ho0 hb HB.out) hb NW; replace BK2 := BK2.same hb; replace HO11 := HO11.same hb; replace HO12 := HO12.same hb; replace HO13 := HO13.same hb; replace HB := am_ (below_step HB.out hb); replace NW := Nat.le_trans NW hb.size; replace NW := NW2; skip; obtain ⟨A33, c34, e35⟩ := HO28.slice; subst e35; clear hb ho0) | ((with_reducible refine gate_callee (f := 5) rfl ?_); refine Sh.gL (some 33) Try.func5 #[.agg #[.int .i64 a0_0, .slice A18 l0_1.length c19, .slice A21 y9.length c22, .slice A24 l0_3.length c25], .slice A33 l1.length c34, .int .i64 a2] (h := ?_); (with_reducible refine (spec_StepAuto.calls k a0_0 _ _ l0_1 _ _ y9 _ _ l0_3 _ _ l1 a2 y36 y37 _ HO11.C HO11.c HO12.C HO12.c HO13.C HO13.c HO28.C HO28.c E3.out).mono ?_); rintro e w38 ⟨v0_, rfl, ho0, hb⟩; refine ⟨_, rfl, ?_⟩; obtain ⟨lo40, hi41, HO39, oa42, ob43, NW2⟩ := new1 (F := fun lo_ hi_ => Held (Kd.int .i64) 3 w38 w.heap.size lo_ hi_ v0_ y36) (held_new ho0 hb HB.out) hb NW; replace BK2 := BK2.same hb; replace HO11 := HO11.same hb; replace HO12 := HO12.same hb; replace HO13 := HO13.same hb; replace HO28 := HO28.same hb; replace HB := am_ (below_step HB.out hb); replace NW := Nat.le_trans NW hb.size; replace NW := NW2; skip; obtain ⟨A44, c45, e46⟩ := HO39.slice; subst e46; clear hb ho0; have hczq47_0 : w38.cell? ⟨g1, 0, none⟩ = some (.int .i64 a0_0) := (blk_cell BK2.b 0).trans rfl; have hfzq47_0 := blk_frozen BK2.b 0; have hczq47_1 : w38.cell? ⟨g1, 1, none⟩ = some (.slice A0_1 l0_1.length c0_1) := (blk_cell BK2.b 1).trans rfl; have hfzq47_1 := blk_frozen BK2.b 1; have hczq47_2 : w38.cell? ⟨g1, 2, none⟩ = some (.slice A0_2 l0_2.length c0_2) := (blk_cell BK2.b 2).trans rfl; have hfzq47_2 := blk_frozen BK2.b 2; have hczq47_3 : w38.cell? ⟨g1, 3, none⟩ = some (.slice A0_3 l0_3.length c0_3) := (blk_cell BK2.b 3).trans rfl; have hfzq47_3 := blk_frozen BK2.b 3) | ((with_reducible refine gate_callee (f := 6) rfl ?_); refine Sh.gL (some 37) Try.func6 #[.agg #[.int .i64 a0_0, .slice A0_1 l0_1.length c0_1, .slice A0_2 l0_2.length c0_2, .slice A0_3 l0_3.length c0_3]] (h := ?_); (with_reducible refine (laws_toAuto.calls k a0_0 _ _ l0_1 _ _ l0_2 _ _ l0_3 a0_0 l0_1 y9 l0_3 _ (Kd.C_below HR0_1.out HB.out) HC0_1.out (Kd.C_below HR0_2.out HB.out) HC0_2.out (Kd.C_below HR0_3.out HB.out) HC0_3.out E1.out).mono ?_); rintro e w48 ⟨v1_, v2_, v3_, rfl, ho0, ho1, ho2, hb⟩; refine ⟨_, rfl, ?_⟩; obtain ⟨lo52, hi53, ⟨HO49, HO50, HO51⟩, oa54, ob55, NW2⟩ := new1 (F := fun lo_ hi_ => Held (Kd.int .i64) 3 w48 w.heap.size lo_ hi_ v1_ l0_1 ∧ Held k51 51 w48 w.heap.size lo_ hi_ v2_ y9 ∧ HeldQ (Kd.slice 3 (Kd.int .i64)) 22 w48 w.heap.size lo_ hi_ (fun k_ => some k_ ≠ (v1_ : Value).ownBlock) v3_ l0_3) ⟨held_new ho0 hb HB.out, held_new ho1 hb HB.out, heldQ_new ho2 hb HB.out⟩ hb NW; replace BK2 := BK2.same hb; replace HO11 := HO11.same hb; replace HO12 := HO12.same hb; replace HO13 := HO13.same hb; replace HO28 := HO28.same hb; replace HO39 := HO39.same hb; replace HB := am_ (below_step HB.out hb); replace NW := Nat.le_trans NW hb.size; replace NW := NW2; skip; obtain ⟨A56, c57, e58⟩ := HO49.slice; subst e58; obtain ⟨A59, c60, e61⟩ := HO50.slice; subst e61; obtain ⟨A62, c63, e64⟩ := HO51.slice; subst e64; clear hb ho0 ho1 ho2) | ((with_reducible refine gate_dst (N := 10) rfl ?_); refine Sh.bx (N := 10) (cs := #[.int .i64 0, .slice none 0 0, .slice none 0 0, .slice none 0 0]) (t := 32) (h := ?_); intro g65 hg w67 hbox hb; have BK66 := box_new (w := w) (W := w48) HB.out hg hbox; have oa68 := new_g (W := w48) hg NW; replace BK2 := BK2.same hb; replace HO11 := HO11.same hb; replace HO12 := HO12.same hb; replace HO13 := HO13.same hb; replace HO28 := HO28.same hb; replace HO39 := HO39.same hb; replace HO49 := HO49.same hb; replace HO50 := HO50.same hb; replace HO51 := HO51.same hb; replace HB := am_ (below_step HB.out hb); replace NW := Nat.le_trans NW hb.size; replace NW := BK66.lt; clear hb hbox hg) | ((with_reducible refine gate_ (.store 32 (.tmp 10) (.tmp 37)) rfl ?_); refine store_event 10 (.tmp 37) rfl rfl rfl BK66 rfl [.int .i64 a0_0, .slice A56 l0_1.length c57, .slice A59 y9.length c60, .slice A62 l0_3.length c63] rfl rfl ?hs rfl ?h1 ?_; (case hs => kernel_rfl); (case h1 => (simp only [List.mem_cons, List.not_mem_nil, or_false]; intro q_ h_; rcases h_ with h_ | h_ | h_ | h_ <;> (subst h_; rfl))); intro w69 hbx hb hk; replace BK2 := BK2.move hk (by omega); replace HO11 := HO11.move hk (by omega); replace HO12 := HO12.move hk (by omega); replace HO13 := HO13.move hk (by omega); replace HO28 := HO28.move hk (by omega); replace HO39 := HO39.move hk (by omega); replace HO49 := HO49.move hk (by omega); replace HO50 := HO50.move hk (by omega); replace HO51 := HO51.move hk (by omega); replace BK66 := hbx; replace NW := Nat.le_trans NW hk.1; replace HB := am_ (HB.out.trans hb); clear hk hb) | ((with_reducible refine gate_callee (f := 7) rfl ?_); refine Sh.gL (some 39) Try.func7 #[.slice A1 l1.length c1] (h := ?_); (with_reducible refine (laws_toIntS.calls k _ _ l1 l1 _ (Kd.C_below HR1.out HB.out) HC1.out E2.out).mono ?_); rintro e w70 ⟨v0_, rfl, ho0, hb⟩; refine ⟨_, rfl, ?_⟩; obtain ⟨lo72, hi73, HO71, oa74, ob75, NW2⟩ := new1 (F := fun lo_ hi_ => Held (Kd.int .i64) 3 w70 w.heap.size lo_ hi_ v0_ l1) (held_new ho0 hb HB.out) hb NW; replace BK2 := BK2.same hb; replace HO11 := HO11.same hb; replace HO12 := HO12.same hb; replace HO13 := HO13.same hb; replace HO28 := HO28.same hb; replace HO39 := HO39.same hb; replace HO49 := HO49.same hb; replace HO50 := HO50.same hb; replace HO51 := HO51.same hb; replace BK66 := BK66.same hb; replace HB := am_ (below_step HB.out hb); replace NW := Nat.le_trans NW hb.size; replace NW := NW2; skip; obtain ⟨A76, c77, e78⟩ := HO71.slice; subst e78; clear hb ho0; have hczq79_0 : w70.cell? ⟨g65, 0, none⟩ = some (.int .i64 a0_0) := (blk_cell BK66.b 0).trans rfl; have hfzq79_0 := blk_frozen BK66.b 0; have hczq79_1 : w70.cell? ⟨g65, 1, none⟩ = some (.slice A56 l0_1.length c57) := (blk_cell BK66.b 1).trans rfl; have hfzq79_1 := blk_frozen BK66.b 1; have hczq79_2 : w70.cell? ⟨g65, 2, none⟩ = some (.slice A59 y9.length c60) := (blk_cell BK66.b 2).trans rfl; have hfzq79_2 := blk_frozen BK66.b 2; have hczq79_3 : w70.cell? ⟨g65, 3, none⟩ = some (.slice A62 l0_3.length c63) := (blk_cell BK66.b 3).trans rfl; have hfzq79_3 := blk_frozen BK66.b 3) | ((with_reducible refine gate_callee (f := 8) rfl ?_); refine Sh.gL (some 44) Try.func8 #[.agg #[.int .i64 a0_0, .slice A56 l0_1.length c57, .slice A59 y9.length c60, .slice A62 l0_3.length c63], .slice A76 l1.length c77, .int .i64 a2] (h := ?_); (with_reducible refine (impl_StepAuto.calls k a0_0 _ _ l0_1 _ _ y9 _ _ l0_3 _ _ l1 a2 y36 y37 _ HO49.C HO49.c HO50.C HO50.c HO51.C HO51.c HO71.C HO71.c E4.out).mono ?_); rintro e w80 ⟨v0_, rfl, ho0, hb⟩; refine ⟨_, rfl, ?_⟩; obtain ⟨lo82, hi83, HO81, oa84, ob85, NW2⟩ := new1 (F := fun lo_ hi_ => Held (Kd.int .i64) 3 w80 w.heap.size lo_ hi_ v0_ y36) (held_new ho0 hb HB.out) hb NW; replace BK2 := BK2.same hb; replace HO11 := HO11.same hb; replace HO12 := HO12.same hb; replace HO13 := HO13.same hb; replace HO28 := HO28.same hb; replace HO39 := HO39.same hb; replace HO49 := HO49.same hb; replace HO50 := HO50.same hb; replace HO51 := HO51.same hb; replace BK66 := BK66.same hb; replace HO71 := HO71.same hb; replace HB := am_ (below_step HB.out hb); replace NW := Nat.le_trans NW hb.size; replace NW := NW2; skip; obtain ⟨A86, c87, e88⟩ := HO81.slice; subst e88; clear hb ho0) | ((with_reducible refine gate_callee (f := 9) rfl ?_); refine Sh.gL (some 49) Try.func9 #[.slice A86 y36.length c87, .slice A44 y36.length c45] (h := ?_); (with_reducible refine (laws_eqIntS.calls k _ _ y36 _ _ y36 true _ HO81.C HO81.c HO39.C HO39.c E5.out).mono ?_); rintro e w89 ⟨rfl, hb⟩; refine ⟨_, rfl, ?_⟩; replace hb := hb.below; replace BK2 := BK2.same hb; replace HO11 := HO11.same hb; replace HO12 := HO12.same hb; replace HO13 := HO13.same hb; replace HO28 := HO28.same hb; replace HO39 := HO39.same hb; replace HO49 := HO49.same hb; replace HO50 := HO50.same hb; replace HO51 := HO51.same hb; replace BK66 := BK66.same hb; replace HO71 := HO71.same hb; replace HO81 := HO81.same hb; replace HB := am_ (below_step HB.out hb); replace NW := Nat.le_trans NW hb.size; clear hb))
 (try simp only [Act.put, List.setIfInBounds_toArray, List.set_cons_zero, List.set_cons_succ])
 try go_wp2
 have hb : Below w89.heap.size w89 w89.drew := below_drew (Below.refl _ _)
 replace BK2 := BK2.same hb
 replace HO11 := HO11.same hb
 replace HO12 := HO12.same hb
 replace HO13 := HO13.same hb
 replace HO28 := HO28.same hb
 replace HO39 := HO39.same hb
 replace HO49 := HO49.same hb
 replace HO50 := HO50.same hb
 replace HO51 := HO51.same hb
 replace BK66 := BK66.same hb
 replace HO71 := HO71.same hb
 replace HO81 := HO81.same hb
 replace HB := am_ (below_step HB.out hb)
 replace NW := Nat.le_trans NW hb.size
 clear hb
 have hL_ : 0 ≤ 0 := Nat.le_refl 0
 refine start_ (n := 5) (S := fun w' => w'.cell? ⟨g65, 0, none⟩ = some (.int .i64 a0_0) ∧ w'.cell? ⟨g65, 1, none⟩ = some (.slice A56 l0_1.length c57) ∧ w'.cell? ⟨g65, 2, none⟩ = some (.slice A59 y9.length c60) ∧ w'.cell? ⟨g65, 3, none⟩ = some (.slice A62 l0_3.length c63) ∧ w'.cell? ⟨g1, 0, none⟩ = some (.int .i64 a0_0) ∧ w'.cell? ⟨g1, 1, none⟩ = some (.slice A0_1 l0_1.length c0_1) ∧ w'.cell? ⟨g1, 2, none⟩ = some (.slice A0_2 l0_2.length c0_2) ∧ w'.cell? ⟨g1, 3, none⟩ = some (.slice A0_3 l0_3.length c0_3)) (ds := []) #[false, false, false, false, false] (by kernel_rfl) rfl rfl ⟨(blk_cell BK66.b 0).trans rfl, (blk_cell BK66.b 1).trans rfl, (blk_cell BK66.b 2).trans rfl, (blk_cell BK66.b 3).trans rfl, (blk_cell BK2.b 0).trans rfl, (blk_cell BK2.b 1).trans rfl, (blk_cell BK2.b 2).trans rfl, (blk_cell BK2.b 3).trans rfl⟩ (fun hHeld => ?_)
 generalize w89.drew = w90 at BK2 HO11 HO12 HO13 HO28 HO39 HO49 HO50 HO51 BK66 HO71 HO81 HB NW hHeld ⊢
 clear hL_
 refine Sh.tA 0 56 #[true, false, false, false, false] (by kernel_rfl) hHeld ?_ (hy := by rintro w' ⟨s0, s1, s2, s3, s4, s5, s6, s7⟩; go_simp; with_reducible rfl)
 refine Sh.tA 1 57 #[true, true, false, false, false] (by kernel_rfl) hHeld ?_ (hy := by rintro w' ⟨s0, s1, s2, s3, s4, s5, s6, s7⟩; go_simp; with_reducible rfl)
 refine one_ (i := 2) (N := some 58) #[true, true, true, false, false] rfl rfl (by kernel_rfl) (by decide) (fun K hK => ?_)
 refine goes_ Try.func6 (by kernel_rfl) rfl #[.agg #[.int .i64 a0_0, .slice A0_1 l0_1.length c0_1, .slice A0_2 l0_2.length c0_2, .slice A0_3 l0_3.length c0_3]] (by rfl) rfl rfl (by (try simp only [List.map_toArray, List.map_cons, List.map_nil]); first | done | rfl | (simp only [List.length_drop, List.length_take]; rfl)) ?_
 with_reducible refine (laws_toAuto.calls k a0_0 _ _ l0_1 _ _ l0_2 _ _ l0_3 a0_0 l0_1 y9 l0_3 _ (Kd.C_below HR0_1.out HB.out) HC0_1.out (Kd.C_below HR0_2.out HB.out) HC0_2.out (Kd.C_below HR0_3.out HB.out) HC0_3.out E1.out).mono ?_
 rintro e w91 ⟨v1_, v2_, v3_, rfl, ho0, ho1, ho2, hb⟩
 refine ⟨_, rfl, ?_⟩
 obtain ⟨lo95, hi96, ⟨HO92, HO93, HO94⟩, oa97, ob98, NW2⟩ := new1 (F := fun lo_ hi_ => Held (Kd.int .i64) 3 w91 w.heap.size lo_ hi_ v1_ l0_1 ∧ Held k51 51 w91 w.heap.size lo_ hi_ v2_ y9 ∧ HeldQ (Kd.slice 3 (Kd.int .i64)) 22 w91 w.heap.size lo_ hi_ (fun k_ => some k_ ≠ (v1_ : Value).ownBlock) v3_ l0_3) ⟨held_new ho0 hb HB.out, held_new ho1 hb HB.out, heldQ_new ho2 hb HB.out⟩ hb NW
 replace BK2 := BK2.same hb
 replace HO11 := HO11.same hb
 replace HO12 := HO12.same hb
 replace HO13 := HO13.same hb
 replace HO28 := HO28.same hb
 replace HO39 := HO39.same hb
 replace HO49 := HO49.same hb
 replace HO50 := HO50.same hb
 replace HO51 := HO51.same hb
 replace BK66 := BK66.same hb
 replace HO71 := HO71.same hb
 replace HO81 := HO81.same hb
 replace HB := am_ (below_step HB.out hb)
 replace NW := Nat.le_trans NW hb.size
 replace NW := NW2
 skip
 obtain ⟨A99, c100, e101⟩ := HO92.slice
 subst e101
 obtain ⟨A102, c103, e104⟩ := HO93.slice
 subst e104
 obtain ⟨A105, c106, e107⟩ := HO94.slice
 subst e107
 clear hb ho0 ho1 ho2
 refine hK.out _ _ ⟨(blk_cell BK66.b 0).trans rfl, (blk_cell BK66.b 1).trans rfl, (blk_cell BK66.b 2).trans rfl, (blk_cell BK66.b 3).trans rfl, (blk_cell BK2.b 0).trans rfl, (blk_cell BK2.b 1).trans rfl, (blk_cell BK2.b 2).trans rfl, (blk_cell BK2.b 3).trans rfl⟩ (fun hHeld => ?_)
 clear hK K
 refine norm_ (a' := ?_) ?_ ?_
 rotate_left
 ·show Act.put _ (some 58) _ = _
  simp only [Act.put, List.setIfInBounds_toArray, List.set_cons_zero, List.set_cons_succ, i64_w, i32_w]
  rfl
 refine one_ (i := 3) (N := some 59) #[true, true, true, true, false] rfl rfl (by kernel_rfl) (by decide) (fun K hK => ?_)
 refine goes_ Try.func10 (by kernel_rfl) rfl #[.agg #[.int .i64 a0_0, .slice A56 l0_1.length c57, .slice A59 y9.length c60, .slice A62 l0_3.length c63], .agg #[.int .i64 a0_0, .slice A99 l0_1.length c100, .slice A102 y9.length c103, .slice A105 l0_3.length c106]] (by rfl) rfl rfl (by (try simp only [List.map_toArray, List.map_cons, List.map_nil]); first | done | rfl | (simp only [List.length_drop, List.length_take]; rfl)) ?_
 with_reducible refine (laws_eqAuto.calls k a0_0 _ _ l0_1 _ _ y9 _ _ l0_3 a0_0 _ _ l0_1 _ _ y9 _ _ l0_3 true _ HO49.C HO49.c HO50.C HO50.c HO51.C HO51.c HO92.C HO92.c HO93.C HO93.c HO94.C HO94.c E6.out).mono ?_
 rintro e w108 ⟨rfl, hb⟩
 refine ⟨_, rfl, ?_⟩
 replace BK2 := BK2.same hb
 replace HO11 := HO11.same hb
 replace HO12 := HO12.same hb
 replace HO13 := HO13.same hb
 replace HO28 := HO28.same hb
 replace HO39 := HO39.same hb
 replace HO49 := HO49.same hb
 replace HO50 := HO50.same hb
 replace HO51 := HO51.same hb
 replace BK66 := BK66.same hb
 replace HO71 := HO71.same hb
 replace HO81 := HO81.same hb
 replace HO92 := HO92.same hb
 replace HO93 := HO93.same hb
 replace HO94 := HO94.same hb
 replace HB := am_ (below_step HB.out hb)
 replace NW := Nat.le_trans NW hb.size
 clear hb
 refine hK.out _ _ ⟨(blk_cell BK66.b 0).trans rfl, (blk_cell BK66.b 1).trans rfl, (blk_cell BK66.b 2).trans rfl, (blk_cell BK66.b 3).trans rfl, (blk_cell BK2.b 0).trans rfl, (blk_cell BK2.b 1).trans rfl, (blk_cell BK2.b 2).trans rfl, (blk_cell BK2.b 3).trans rfl⟩ (fun hHeld => ?_)
 clear hK K
 refine norm_ (a' := ?_) ?_ ?_
 rotate_left
 ·show Act.put _ (some 59) _ = _
  simp only [Act.put, List.setIfInBounds_toArray, List.set_cons_zero, List.set_cons_succ, i64_w, i32_w]
  rfl
 refine Sh.pA 4 60 #[true, true, true, true, true] (by kernel_rfl) ?_
 refine done_ (by kernel_rfl) ?_
 go_wp2_with (first | ((with_reducible refine gate_callee (f := 7) rfl ?_); refine Sh.gL (some 63) Try.func7 #[.slice A1 l1.length c1] (h := ?_); (with_reducible refine (laws_toIntS.calls k _ _ l1 l1 _ (Kd.C_below HR1.out HB.out) HC1.out E2.out).mono ?_); rintro e w109 ⟨v0_, rfl, ho0, hb⟩; refine ⟨_, rfl, ?_⟩; obtain ⟨lo111, hi112, HO110, oa113, ob114, NW2⟩ := new1 (F := fun lo_ hi_ => Held (Kd.int .i64) 3 w109 w.heap.size lo_ hi_ v0_ l1) (held_new ho0 hb HB.out) hb NW; replace BK2 := BK2.same hb; replace HO11 := HO11.same hb; replace HO12 := HO12.same hb; replace HO13 := HO13.same hb; replace HO28 := HO28.same hb; replace HO39 := HO39.same hb; replace HO49 := HO49.same hb; replace HO50 := HO50.same hb; replace HO51 := HO51.same hb; replace BK66 := BK66.same hb; replace HO71 := HO71.same hb; replace HO81 := HO81.same hb; replace HO92 := HO92.same hb; replace HO93 := HO93.same hb; replace HO94 := HO94.same hb; replace HB := am_ (below_step HB.out hb); replace NW := Nat.le_trans NW hb.size; replace NW := NW2; skip; obtain ⟨A115, c116, e117⟩ := HO110.slice; subst e117; clear hb ho0) | ((with_reducible refine gate_callee (f := 9) rfl ?_); refine Sh.gL (some 64) Try.func9 #[.slice A76 l1.length c77, .slice A115 l1.length c116] (h := ?_); (with_reducible refine (laws_eqIntS.calls k _ _ l1 _ _ l1 true _ HO71.C HO71.c HO110.C HO110.c E7.out).mono ?_); rintro e w118 ⟨rfl, hb⟩; refine ⟨_, rfl, ?_⟩; replace hb := hb.below; replace BK2 := BK2.same hb; replace HO11 := HO11.same hb; replace HO12 := HO12.same hb; replace HO13 := HO13.same hb; replace HO28 := HO28.same hb; replace HO39 := HO39.same hb; replace HO49 := HO49.same hb; replace HO50 := HO50.same hb; replace HO51 := HO51.same hb; replace BK66 := BK66.same hb; replace HO71 := HO71.same hb; replace HO81 := HO81.same hb; replace HO92 := HO92.same hb; replace HO93 := HO93.same hb; replace HO94 := HO94.same hb; replace HO110 := HO110.same hb; replace HB := am_ (below_step HB.out hb); replace NW := Nat.le_trans NW hb.size; clear hb; have hczq119_0 : w118.cell? ⟨g65, 0, none⟩ = some (.int .i64 a0_0) := (blk_cell BK66.b 0).trans rfl; have hfzq119_0 := blk_frozen BK66.b 0; have hczq119_1 : w118.cell? ⟨g65, 1, none⟩ = some (.slice A56 l0_1.length c57) := (blk_cell BK66.b 1).trans rfl; have hfzq119_1 := blk_frozen BK66.b 1; have hczq119_2 : w118.cell? ⟨g65, 2, none⟩ = some (.slice A59 y9.length c60) := (blk_cell BK66.b 2).trans rfl; have hfzq119_2 := blk_frozen BK66.b 2; have hczq119_3 : w118.cell? ⟨g65, 3, none⟩ = some (.slice A62 l0_3.length c63) := (blk_cell BK66.b 3).trans rfl; have hfzq119_3 := blk_frozen BK66.b 3) | ((with_reducible refine gate_callee (f := 11) rfl ?_); refine Sh.gL (some 68) Try.func11 #[.agg #[.int .i64 a0_0, .slice A56 l0_1.length c57, .slice A59 y9.length c60, .slice A62 l0_3.length c63], .int .i64 1] (h := ?_); (with_reducible refine (laws_markAuto.calls k (fun k_ => lo52 ≤ k_ ∧ k_ < hi53) a0_0 _ l0_1 _ y9 _ l0_3 1 m120 w _ HB.out HO49.r HO50.r HO51.r E8.out).mono ?_); rintro e w121 ⟨rfl, hb, hk⟩; refine ⟨_, rfl, ?_⟩; replace hk : Kept w118 w121 (fun k_ => lo52 ≤ k_ ∧ k_ < hi53) := hk; replace BK2 := BK2.move hk (by omega); replace HO11 := HO11.move hk (by omega); replace HO12 := HO12.move hk (by omega); replace HO13 := HO13.move hk (by omega); replace HO28 := HO28.move hk (by omega); replace HO39 := HO39.move hk (by omega); replace BK66 := BK66.move hk (by omega); replace HO71 := HO71.move hk (by omega); replace HO81 := HO81.move hk (by omega); replace HO92 := HO92.move hk (by omega); replace HO93 := HO93.move hk (by omega); replace HO94 := HO94.move hk (by omega); replace HO110 := HO110.move hk (by omega); clear HO49 HO50 HO51; replace NW := Nat.le_trans NW hk.1; replace HB := am_ hb; clear hk hb) | ((with_reducible refine gate_callee (f := 12) rfl ?_); refine Sh.gL (some 71) Try.func12 #[.slice A76 l1.length c77, .int .i64 m120] (h := ?_); (with_reducible refine (laws_markIntS.calls k (fun k_ => lo72 ≤ k_ ∧ k_ < hi73) _ l1 m120 m122 y123 w _ HB.out HO71.r E9.out).mono ?_); rintro e w124 ⟨rfl, hm0, hb, hk⟩; refine ⟨_, rfl, ?_⟩; replace hk : Kept w121 w124 (fun k_ => lo72 ≤ k_ ∧ k_ < hi73) := hk; replace BK2 := BK2.move hk (by omega); replace HO11 := HO11.move hk (by omega); replace HO12 := HO12.move hk (by omega); replace HO13 := HO13.move hk (by omega); replace HO28 := HO28.move hk (by omega); replace HO39 := HO39.move hk (by omega); replace BK66 := BK66.move hk (by omega); replace HO81 := HO81.move hk (by omega); replace HO92 := HO92.move hk (by omega); replace HO93 := HO93.move hk (by omega); replace HO94 := HO94.move hk (by omega); replace HO110 := HO110.move hk (by omega); replace HO71 := HO71.marked rfl hm0 hk; replace NW := Nat.le_trans NW hk.1; replace HB := am_ hb; clear hk hb hm0) | ((with_reducible refine gate_callee (f := 9) rfl ?_); (with_reducible refine gate_dst (N := 77) rfl ?_); (try simp only [ce0, ce1, cr0]); refine gate_guard (by rfl) ?_; dsimp only; refine Sh.gL (some 77) Try.func9 #[.slice A86 y36.length c87, .slice A44 y36.length c45] (h := ?_); (with_reducible refine (laws_eqIntS.calls k _ _ y36 _ _ y36 true _ HO81.C HO81.c HO39.C HO39.c E5.out).mono ?_); rintro e w125 ⟨rfl, hb⟩; refine ⟨_, rfl, ?_⟩; replace hb := hb.below; replace BK2 := BK2.same hb; replace HO11 := HO11.same hb; replace HO12 := HO12.same hb; replace HO13 := HO13.same hb; replace HO28 := HO28.same hb; replace HO39 := HO39.same hb; replace BK66 := BK66.same hb; replace HO71 := HO71.same hb; replace HO81 := HO81.same hb; replace HO92 := HO92.same hb; replace HO93 := HO93.same hb; replace HO94 := HO94.same hb; replace HO110 := HO110.same hb; replace HB := am_ (below_step HB.out hb); replace NW := Nat.le_trans NW hb.size; clear hb) | ((with_reducible refine gate_callee (f := 12) rfl ?_); refine Sh.gL (some 87) Try.func12 #[.slice A86 y36.length c87, .int .i64 1] (h := ?_); (with_reducible refine (laws_markIntS.calls k (fun k_ => lo82 ≤ k_ ∧ k_ < hi83) _ y36 1 m126 y127 w _ HB.out HO81.r E10.out).mono ?_); rintro e w128 ⟨rfl, hm0, hb, hk⟩; refine ⟨_, rfl, ?_⟩; replace hk : Kept w125 w128 (fun k_ => lo82 ≤ k_ ∧ k_ < hi83) := hk; replace BK2 := BK2.move hk (by omega); replace HO11 := HO11.move hk (by omega); replace HO12 := HO12.move hk (by omega); replace HO13 := HO13.move hk (by omega); replace HO28 := HO28.move hk (by omega); replace HO39 := HO39.move hk (by omega); replace BK66 := BK66.move hk (by omega); replace HO71 := HO71.move hk (by omega); replace HO92 := HO92.move hk (by omega); replace HO93 := HO93.move hk (by omega); replace HO94 := HO94.move hk (by omega); replace HO110 := HO110.move hk (by omega); replace HO81 := HO81.marked rfl hm0 hk; replace NW := Nat.le_trans NW hk.1; replace HB := am_ hb; clear hk hb hm0) | ((with_reducible refine gate_callee (f := 13) rfl ?_); refine Sh.gL (some 90) Try.func13 #[.slice A86 y36.length c87, .int .i64 1] (h := ?_); refine calls_of_args (args' := #[.slice A86 y127.length c87, .int .i64 1]) (by rw [← HO81.n]) ?_; (with_reducible refine (laws_heldIntS.calls k _ _ y127 1 m126 _ HO81.C HO81.c E11.out).mono ?_); rintro e w129 ⟨rfl, hb⟩; refine ⟨_, rfl, ?_⟩; replace hb := hb.below; replace BK2 := BK2.same hb; replace HO11 := HO11.same hb; replace HO12 := HO12.same hb; replace HO13 := HO13.same hb; replace HO28 := HO28.same hb; replace HO39 := HO39.same hb; replace BK66 := BK66.same hb; replace HO71 := HO71.same hb; replace HO81 := HO81.same hb; replace HO92 := HO92.same hb; replace HO93 := HO93.same hb; replace HO94 := HO94.same hb; replace HO110 := HO110.same hb; replace HB := am_ (below_step HB.out hb); replace NW := Nat.le_trans NW hb.size; clear hb; have hczq130_0 : w129.cell? ⟨g1, 0, none⟩ = some (.int .i64 a0_0) := (blk_cell BK2.b 0).trans rfl; have hfzq130_0 := blk_frozen BK2.b 0; have hczq130_1 : w129.cell? ⟨g1, 1, none⟩ = some (.slice A0_1 l0_1.length c0_1) := (blk_cell BK2.b 1).trans rfl; have hfzq130_1 := blk_frozen BK2.b 1; have hczq130_2 : w129.cell? ⟨g1, 2, none⟩ = some (.slice A0_2 l0_2.length c0_2) := (blk_cell BK2.b 2).trans rfl; have hfzq130_2 := blk_frozen BK2.b 2; have hczq130_3 : w129.cell? ⟨g1, 3, none⟩ = some (.slice A0_3 l0_3.length c0_3) := (blk_cell BK2.b 3).trans rfl; have hfzq130_3 := blk_frozen BK2.b 3) | ((with_reducible refine gate_callee (f := 6) rfl ?_); refine Sh.gL (some 98) Try.func6 #[.agg #[.int .i64 a0_0, .slice A0_1 l0_1.length c0_1, .slice A0_2 l0_2.length c0_2, .slice A0_3 l0_3.length c0_3]] (h := ?_); (with_reducible refine (laws_toAuto.calls k a0_0 _ _ l0_1 _ _ l0_2 _ _ l0_3 a0_0 l0_1 y9 l0_3 _ (Kd.C_below HR0_1.out HB.out) HC0_1.out (Kd.C_below HR0_2.out HB.out) HC0_2.out (Kd.C_below HR0_3.out HB.out) HC0_3.out E1.out).mono ?_); rintro e w131 ⟨v1_, v2_, v3_, rfl, ho0, ho1, ho2, hb⟩; refine ⟨_, rfl, ?_⟩; obtain ⟨lo135, hi136, ⟨HO132, HO133, HO134⟩, oa137, ob138, NW2⟩ := new1 (F := fun lo_ hi_ => Held (Kd.int .i64) 3 w131 w.heap.size lo_ hi_ v1_ l0_1 ∧ Held k51 51 w131 w.heap.size lo_ hi_ v2_ y9 ∧ HeldQ (Kd.slice 3 (Kd.int .i64)) 22 w131 w.heap.size lo_ hi_ (fun k_ => some k_ ≠ (v1_ : Value).ownBlock) v3_ l0_3) ⟨held_new ho0 hb HB.out, held_new ho1 hb HB.out, heldQ_new ho2 hb HB.out⟩ hb NW; replace BK2 := BK2.same hb; replace HO11 := HO11.same hb; replace HO12 := HO12.same hb; replace HO13 := HO13.same hb; replace HO28 := HO28.same hb; replace HO39 := HO39.same hb; replace BK66 := BK66.same hb; replace HO71 := HO71.same hb; replace HO81 := HO81.same hb; replace HO92 := HO92.same hb; replace HO93 := HO93.same hb; replace HO94 := HO94.same hb; replace HO110 := HO110.same hb; replace HB := am_ (below_step HB.out hb); replace NW := Nat.le_trans NW hb.size; replace NW := NW2; skip; obtain ⟨A139, c140, e141⟩ := HO132.slice; subst e141; obtain ⟨A142, c143, e144⟩ := HO133.slice; subst e144; obtain ⟨A145, c146, e147⟩ := HO134.slice; subst e147; clear hb ho0 ho1 ho2) | ((with_reducible refine gate_callee (f := 7) rfl ?_); refine Sh.gL (some 100) Try.func7 #[.slice A1 l1.length c1] (h := ?_); (with_reducible refine (laws_toIntS.calls k _ _ l1 l1 _ (Kd.C_below HR1.out HB.out) HC1.out E2.out).mono ?_); rintro e w148 ⟨v0_, rfl, ho0, hb⟩; refine ⟨_, rfl, ?_⟩; obtain ⟨lo150, hi151, HO149, oa152, ob153, NW2⟩ := new1 (F := fun lo_ hi_ => Held (Kd.int .i64) 3 w148 w.heap.size lo_ hi_ v0_ l1) (held_new ho0 hb HB.out) hb NW; replace BK2 := BK2.same hb; replace HO11 := HO11.same hb; replace HO12 := HO12.same hb; replace HO13 := HO13.same hb; replace HO28 := HO28.same hb; replace HO39 := HO39.same hb; replace BK66 := BK66.same hb; replace HO71 := HO71.same hb; replace HO81 := HO81.same hb; replace HO92 := HO92.same hb; replace HO93 := HO93.same hb; replace HO94 := HO94.same hb; replace HO110 := HO110.same hb; replace HO132 := HO132.same hb; replace HO133 := HO133.same hb; replace HO134 := HO134.same hb; replace HB := am_ (below_step HB.out hb); replace NW := Nat.le_trans NW hb.size; replace NW := NW2; skip; obtain ⟨A154, c155, e156⟩ := HO149.slice; subst e156; clear hb ho0) | ((with_reducible refine gate_callee (f := 8) rfl ?_); refine Sh.gL (some 102) Try.func8 #[.agg #[.int .i64 a0_0, .slice A139 l0_1.length c140, .slice A142 y9.length c143, .slice A145 l0_3.length c146], .slice A154 l1.length c155, .int .i64 a2] (h := ?_); (with_reducible refine (impl_StepAuto.calls k a0_0 _ _ l0_1 _ _ y9 _ _ l0_3 _ _ l1 a2 y36 y37 _ HO132.C HO132.c HO133.C HO133.c HO134.C HO134.c HO149.C HO149.c E4.out).mono ?_); rintro e w157 ⟨v0_, rfl, ho0, hb⟩; refine ⟨_, rfl, ?_⟩; obtain ⟨lo159, hi160, HO158, oa161, ob162, NW2⟩ := new1 (F := fun lo_ hi_ => Held (Kd.int .i64) 3 w157 w.heap.size lo_ hi_ v0_ y36) (held_new ho0 hb HB.out) hb NW; replace BK2 := BK2.same hb; replace HO11 := HO11.same hb; replace HO12 := HO12.same hb; replace HO13 := HO13.same hb; replace HO28 := HO28.same hb; replace HO39 := HO39.same hb; replace BK66 := BK66.same hb; replace HO71 := HO71.same hb; replace HO81 := HO81.same hb; replace HO92 := HO92.same hb; replace HO93 := HO93.same hb; replace HO94 := HO94.same hb; replace HO110 := HO110.same hb; replace HO132 := HO132.same hb; replace HO133 := HO133.same hb; replace HO134 := HO134.same hb; replace HO149 := HO149.same hb; replace HB := am_ (below_step HB.out hb); replace NW := Nat.le_trans NW hb.size; replace NW := NW2; skip; obtain ⟨A163, c164, e165⟩ := HO158.slice; subst e165; clear hb ho0) | ((with_reducible refine gate_callee (f := 9) rfl ?_); refine Sh.gL (some 107) Try.func9 #[.slice A163 y36.length c164, .slice A44 y36.length c45] (h := ?_); (with_reducible refine (laws_eqIntS.calls k _ _ y36 _ _ y36 true _ HO158.C HO158.c HO39.C HO39.c E5.out).mono ?_); rintro e w166 ⟨rfl, hb⟩; refine ⟨_, rfl, ?_⟩; replace hb := hb.below; replace BK2 := BK2.same hb; replace HO11 := HO11.same hb; replace HO12 := HO12.same hb; replace HO13 := HO13.same hb; replace HO28 := HO28.same hb; replace HO39 := HO39.same hb; replace BK66 := BK66.same hb; replace HO71 := HO71.same hb; replace HO81 := HO81.same hb; replace HO92 := HO92.same hb; replace HO93 := HO93.same hb; replace HO94 := HO94.same hb; replace HO110 := HO110.same hb; replace HO132 := HO132.same hb; replace HO133 := HO133.same hb; replace HO134 := HO134.same hb; replace HO149 := HO149.same hb; replace HO158 := HO158.same hb; replace HB := am_ (below_step HB.out hb); replace NW := Nat.le_trans NW hb.size; clear hb) | ((with_reducible refine gate_callee (f := 13) rfl ?_); refine Sh.gL (some 116) Try.func13 #[.slice A86 y36.length c87, .int .i64 1] (h := ?_); refine calls_of_args (args' := #[.slice A86 y127.length c87, .int .i64 1]) (by rw [← HO81.n]) ?_; (with_reducible refine (laws_heldIntS.calls k _ _ y127 1 m126 _ HO81.C HO81.c E11.out).mono ?_); rintro e w167 ⟨rfl, hb⟩; refine ⟨_, rfl, ?_⟩; replace hb := hb.below; replace BK2 := BK2.same hb; replace HO11 := HO11.same hb; replace HO12 := HO12.same hb; replace HO13 := HO13.same hb; replace HO28 := HO28.same hb; replace HO39 := HO39.same hb; replace BK66 := BK66.same hb; replace HO71 := HO71.same hb; replace HO81 := HO81.same hb; replace HO92 := HO92.same hb; replace HO93 := HO93.same hb; replace HO94 := HO94.same hb; replace HO110 := HO110.same hb; replace HO132 := HO132.same hb; replace HO133 := HO133.same hb; replace HO134 := HO134.same hb; replace HO149 := HO149.same hb; replace HO158 := HO158.same hb; replace HB := am_ (below_step HB.out hb); replace NW := Nat.le_trans NW hb.size; clear hb))
 go_ret
 exact ⟨rfl, HB.out⟩

end Go.Proofs.Ytijgdncmancolaa.P
