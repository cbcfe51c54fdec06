/- Go functions of this seat as Lean functions, and the proofs that the calls come to what these say; printed by a program of this session. No condition. -/
import Derived.Test.YtdaodonjikaalaaP0
import Derived.Test.YtdaodonjikaalaaP35
import Derived.Test.YtdaodonjikaalaaP37
namespace Go.Proofs.Ytdaodonjikaalaa.P
open Go.RowKit Go.Proofs.YtdaodonjikaalaaW.PrintWords Go.Proofs.YtdaodonjikaalaaW.PrintLast Go.Proofs.YtdaodonjikaalaaW.PrintMore Go.Proofs.Ytdaodonjikaalaa.Hof
attribute [local go_sem] max2_int min2_int max_two min_two max_three min_three max_four min_four   -- for this text's walks alone
set_option linter.unusedVariables false
set_option linter.unusedSimpArgs false

/-! ### impl_NextDepth: function 56 -/
mutual
def impl_NextDepth.l0 : Nat → List Int → List (S85) → Int → Int → Option (Int × Bool)
  | 0, _, _, _, _ => none
  | k + 1, x4, x15, x16, x17 => if x17 < x16 then (if 0 ≤ x17 then (if x17 < (x15.length : Int) then ((impl_operandsOfSaid.f k ((rd_T85 x15 x17).f0)).bind fun t335 => (if 0 ≤ (wrap64 ((x4.length : Int) - t335)) then (if (wrap64 ((x4.length : Int) - t335)) ≤ (x4.length : Int) then ((some (x4.drop ((wrap64 ((x4.length : Int) - t335)) : Int).toNat : List Int)).bind fun y336 => (impl_NextDepth.l1 k x4 (wrap64 ((x4.length : Int) - t335)) 0 x15 x16 x17 y336 (y336.length : Int) 0 ((rd_T85 x15 x17).f0) ((rd_T85 x15 x17).f1))) else (none)) else (none))) else (none)) else (none)) else (if 0 < (x4.length : Int) then (some (rd x4 0, true)) else (none))
def impl_NextDepth.l1 : Nat → List Int → Int → Int → List (S85) → Int → Int → List Int → Int → Int → Int → Int → Option (Int × Bool)
  | 0, _, _, _, _, _, _, _, _, _, _, _ => none
  | k + 1, x4, x7, x8, x15, x16, x17, x29, x30, x31, x335000, x335001 => if x31 < x30 then (if 0 ≤ x31 then (if x31 < (x29.length : Int) then (impl_NextDepth.l1 k x4 x7 (mx x8 (rd x29 x31)) x15 x16 x17 x29 x30 (wrap64 (x31 + 1)) x335000 x335001) else (none)) else (none)) else (if x335000 = 4 then (if 0 ≤ x7 then (if x7 ≤ (x4.length : Int) then ((some (x4.take (x7 : Int).toNat : List Int)).bind fun y341 => (if y341.length < 17592186044416 then (impl_NextDepth.l0 k (y341 ++ [wrap64 (x8 + 1)]) x15 x16 (wrap64 (x17 + 1))) else (none))) else (none)) else (none)) else (if 0 ≤ x7 then (if x7 ≤ (x4.length : Int) then ((some (x4.take (x7 : Int).toNat : List Int)).bind fun y347 => (if y347.length < 17592186044416 then (impl_NextDepth.l0 k (y347 ++ [x8]) x15 x16 (wrap64 (x17 + 1))) else (none))) else (none)) else (none)))
end
def impl_NextDepth.f (k : Nat) (l0 : List (S85)) : Option (Int × Bool) := (impl_GoodSaid.f k l0).bind fun t328 => (if t328 = true then (impl_NextDepth.l0 k (([] : List Int)) l0 (l0.length : Int) 0) else (some (0, false)))
theorem impl_NextDepth.mono_l : ∀ k, (∀ y0 y1 y2 y3, LeO (impl_NextDepth.l0 k y0 y1 y2 y3) (impl_NextDepth.l0 (k + 1) y0 y1 y2 y3)) ∧ (∀ y0 y1 y2 y3 y4 y5 y6 y7 y8 y9 y10, LeO (impl_NextDepth.l1 k y0 y1 y2 y3 y4 y5 y6 y7 y8 y9 y10) (impl_NextDepth.l1 (k + 1) y0 y1 y2 y3 y4 y5 y6 y7 y8 y9 y10))
  | 0 => ⟨fun _ _ _ _ r h => by simp [impl_NextDepth.l0] at h, fun _ _ _ _ _ _ _ _ _ _ _ r h => by simp [impl_NextDepth.l1] at h⟩
  | k + 1 => by
    obtain ⟨ih0, ih1⟩ := impl_NextDepth.mono_l k
    refine ⟨?_, ?_⟩
    · intro y0 y1 y2 y3
      unfold impl_NextDepth.l0
      repeat' first
      | (with_reducible exact ih0 _ _ _ _)
      | (with_reducible exact ih1 _ _ _ _ _ _ _ _ _ _ _)
      | (with_reducible exact impl_GoodSaid.mono _ _)
      | (with_reducible exact impl_operandsOfSaid.mono _ _)
      | (with_reducible exact LeO.refl _)
      | (with_reducible exact LeO.none _)
      | (with_reducible refine LeO.ite ?_ ?_)
      | (with_reducible refine LeO.bind ?_ (fun _ => ?_))
      | exact ih0 _ _ _ _
      | exact ih1 _ _ _ _ _ _ _ _ _ _ _
      | exact impl_GoodSaid.mono _ _
      | exact impl_operandsOfSaid.mono _ _
      | exact LeO.none _
      | refine LeO.ite ?_ ?_
      | refine LeO.bind ?_ (fun _ => ?_)
    · intro y0 y1 y2 y3 y4 y5 y6 y7 y8 y9 y10
      unfold impl_NextDepth.l1
      repeat' first
      | (with_reducible exact ih0 _ _ _ _)
      | (with_reducible exact ih1 _ _ _ _ _ _ _ _ _ _ _)
      | (with_reducible exact impl_GoodSaid.mono _ _)
      | (with_reducible exact impl_operandsOfSaid.mono _ _)
      | (with_reducible exact LeO.refl _)
      | (with_reducible exact LeO.none _)
      | (with_reducible refine LeO.ite ?_ ?_)
      | (with_reducible refine LeO.bind ?_ (fun _ => ?_))
      | exact ih0 _ _ _ _
      | exact ih1 _ _ _ _ _ _ _ _ _ _ _
      | exact impl_GoodSaid.mono _ _
      | exact impl_operandsOfSaid.mono _ _
      | exact LeO.none _
      | refine LeO.ite ?_ ?_
      | refine LeO.bind ?_ (fun _ => ?_)
theorem impl_NextDepth.mono : ∀ a0 k, LeO (impl_NextDepth.f k a0) (impl_NextDepth.f (k + 1) a0) := by
  intro a0 k
  obtain ⟨ih0, ih1⟩ := impl_NextDepth.mono_l k
  unfold impl_NextDepth.f
  repeat' first
      | (with_reducible exact ih0 _ _ _ _)
      | (with_reducible exact ih1 _ _ _ _ _ _ _ _ _ _ _)
      | (with_reducible exact impl_GoodSaid.mono _ _)
      | (with_reducible exact impl_operandsOfSaid.mono _ _)
      | (with_reducible exact LeO.refl _)
      | (with_reducible exact LeO.none _)
      | (with_reducible refine LeO.ite ?_ ?_)
      | (with_reducible refine LeO.bind ?_ (fun _ => ?_))
      | exact ih0 _ _ _ _
      | exact ih1 _ _ _ _ _ _ _ _ _ _ _
      | exact impl_GoodSaid.mono _ _
      | exact impl_operandsOfSaid.mono _ _
      | exact LeO.none _
      | refine LeO.ite ?_ ?_
      | refine LeO.bind ?_ (fun _ => ?_)
set_option maxHeartbeats 8000000 in
set_option maxRecDepth 100000 in
theorem impl_NextDepth.calls (k : Nat) (A0 : Option Addr) (c0 : Nat) (l0 : List (S85)) (r1 : Int) (r2 : Bool) (w : World) (hr0 : Kd.C k85 w A0 l0.length l0) (hc0 : l0.length ≤ c0) (h : impl_NextDepth.f k l0 = some (r1, r2)) :
    Calls Try.prog 56 #[.slice A0 l0.length c0] w fun e w' => e = .returned (.tuple #[.int .i64 r1, .bool r2]) ∧ Below w.heap.size w w' := by
  have hu85 := Try.underlying85
  have HR0 := Aside0.mk hr0
  have HC0 := Aside0.mk hc0
  clear hr0 hc0
  have HB := Aside0.mk (Below.refl w.heap.size w)
  have H : ((impl_GoodSaid.f k l0).bind fun t328 => (if t328 = true then (impl_NextDepth.l0 k (([] : List Int)) l0 (l0.length : Int) 0) else (some (0, false)))) = some (r1, r2) := h
  clear h
  replace H := Option.bind_eq_some_iff.mp H
  obtain ⟨t328, A20, H⟩ := H
  replace H : (if t328 = true then (impl_NextDepth.l0 k (([] : List Int)) l0 (l0.length : Int) 0) else (some (0, false))) = some (r1, r2) := H
  have A2 := Aside0.mk A20
  clear A20
  by_cases c3 : t328 = true
  · subst c3
    have H1 : (impl_NextDepth.l0 k (([] : List Int)) l0 (l0.length : Int) 0) = some (r1, r2) := by rw [if_pos rfl] at H; exact H
    clear H
    have H := H1
    clear H1
    obtain ⟨y329, hy329⟩ : ∃ y_ : List Int, y_ = (([] : List Int)) := ⟨_, rfl⟩
    replace H : (impl_NextDepth.l0 k y329 l0 (l0.length : Int) 0) = some (r1, r2) := by first | (rw [hy329]; with_reducible exact H) | (have H2_ := (Option.bind_some _ _).symm.trans H; rw [hy329]; with_reducible exact H2_) | (have H2_ := (Option.bind_some _ _).symm.trans H; with_reducible exact H2_) | with_reducible exact H | (rw [hy329]; exact H) | exact H
    have Ny329 := Aside0.mk hy329
    clear hy329
    have H' := Aside0.mk H
    clear H
    go_enter Try.func56, Try.ntmps56
    go_wp2_with (first | ((with_reducible refine gate_callee (f := 25) rfl ?_); refine goesL_ (some 12) rfl rfl Try.func25 (by kernel_rfl) rfl #[.slice A0 l0.length c0] rfl (by (try simp only [List.map_toArray, List.map_cons, List.map_nil]); first | done | rfl | (simp only [List.length_drop, List.length_take]; rfl)) ?_; (with_reducible refine (impl_GoodSaid.calls k _ _ l0 true _ ?side1 ?side2 A2.out).mono ?_); (case side1 => repeat (first | exact HR0.out | (with_reducible refine Kd.C_alloc ?_ _) | (with_reducible refine Kd.C_drewN ?_ _) | (with_reducible refine Kd.C_drew ?_))); (case side2 => exact HC0.out); rintro e w4 ⟨rfl, hb⟩; refine ⟨_, rfl, ?_⟩; have n0_ := Aside0.mk (below_step (by repeat (first | (with_reducible first | exact HB.out | apply below_alloc | apply pw_below_drewN | apply below_drew1) | exact HB.out)) hb); clear HB; have HB := n0_; clear n0_; (try clear hb); (try clear hb2); (try clear hk); (try clear hi)) | ((with_reducible refine gate_dst (N := 14) rfl ?_); refine Kd.R_lit (Kd.int .i64) _ 3 ?hg (N := 14) ?hd (xs := ([] : List Int)) (inner := []) (ok := fun _ => True) (okp := fun _ => True) ?hr ?hp (fun _ hk => hk) trivial (Below.refl _ _) (Nat.le_refl _) (by simp) ?_; (case hd => rfl); (case hg => rfl); (case hr => first | (go_simp; done) | (go_simp; rfl)); (case hp => exact (Reps.none _ _)); intro v330 w5 ho6 hb hg_ hnew_; clear hg_ hnew_; (first | rw [← Ny329.out] at ho6 | (simp only [Int.reduceToNat] at ho6; rw [← Ny329.out] at ho6)); have n0_ := Aside0.mk (Kd.R_lower ho6 (below_size (by repeat (first | (with_reducible first | exact HB.out | apply below_alloc | apply pw_below_drewN | apply below_drew1) | exact HB.out)))); have n1_ := Aside0.mk (below_step (by repeat (first | (with_reducible first | exact HB.out | apply below_alloc | apply pw_below_drewN | apply below_drew1) | exact HB.out)) hb); clear HB; have HO331 := n0_; have HB := n1_; clear n0_ n1_; clear hb ho6))
    go_loopg [4, 17] k (fun kq v4 v17 w' => ∃ (x4_1 : List Int) (x17_1 : Int), v17 = .int .i64 x17_1 ∧ Aside0 (impl_NextDepth.l0 kq x4_1 l0 (l0.length : Int) x17_1 = some (r1, r2)) ∧ Aside0 (kq ≤ k) ∧ Aside0 (Kd.R (Kd.int .i64) 3 w' w.heap.size (fun _ => True) v4 x4_1) ∧ Aside0 (Below w.heap.size w w'))
    case atStart => exact ⟨(y329), (0), (by first | rfl | (simp; done) | (simp [*]; done)), H', ⟨Nat.le_refl _⟩, ⟨by (with_reducible repeat (first | apply Kd.R_alloc | apply Kd.R_drewN | apply Kd.R_drew)); exact HO331.out⟩, ⟨by repeat (first | (with_reducible first | exact HB.out | apply below_alloc | apply pw_below_drewN | apply below_drew1) | exact HB.out)⟩⟩
    case round =>
      clear H'
      try clear c2
      try clear p2
      try clear c3
      try clear c5
      obtain ⟨x4_1, x17_1, rfl, HA, HK1, HO_4, HB⟩ := hrel
      cases gk with
      | zero => exact absurd HA.out (by simp [impl_NextDepth.l0])
      | succ k1 =>
        have H := HA.out
        clear HA
        simp only [impl_NextDepth.l0] at H
        by_cases c7 : x17_1 < (l0.length : Int)
        · rw [if_pos c7] at H
          have c7b0 : decide (x17_1 < (l0.length : Int)) = true := decide_eq_true c7
          clear c7
          by_cases c8 : 0 ≤ x17_1
          · rw [if_pos c8] at H
            have c8b0 : decide (0 ≤ x17_1) = true := decide_eq_true c8
            clear c8
            by_cases c9 : x17_1 < (l0.length : Int)
            · rw [if_pos c9] at H
              have c9b0 : decide (x17_1 < (l0.length : Int)) = true := decide_eq_true c9
              clear c9
              replace H := Option.bind_eq_some_iff.mp H
              obtain ⟨t335, A100, H⟩ := H
              replace H : (if 0 ≤ (wrap64 ((x4_1.length : Int) - t335)) then (if (wrap64 ((x4_1.length : Int) - t335)) ≤ (x4_1.length : Int) then ((some (x4_1.drop ((wrap64 ((x4_1.length : Int) - t335)) : Int).toNat : List Int)).bind fun y336 => (impl_NextDepth.l1 k1 x4_1 (wrap64 ((x4_1.length : Int) - t335)) 0 l0 (l0.length : Int) x17_1 y336 (y336.length : Int) 0 ((rd_T85 l0 x17_1).f0) ((rd_T85 l0 x17_1).f1))) else (none)) else (none)) = some (r1, r2) := H
              have A10 := Aside0.mk A100
              clear A100
              obtain ⟨ji11, hji11⟩ : ∃ j_ : Int, (wrap64 ((x4_1.length : Int) - t335)) = j_ := ⟨_, rfl⟩
              replace H : (if 0 ≤ (ji11) then (if (ji11) ≤ (x4_1.length : Int) then ((some (x4_1.drop ((ji11) : Int).toNat : List Int)).bind fun y336 => (impl_NextDepth.l1 k1 x4_1 ji11 0 l0 (l0.length : Int) x17_1 y336 (y336.length : Int) 0 ((rd_T85 l0 x17_1).f0) ((rd_T85 l0 x17_1).f1))) else (none)) else (none)) = some (r1, r2) := by first | (rw [hji11] at H; exact H) | (simp only [hji11] at H ⊢; exact H)
              (try rw [hji11] at A10)
              have hji11w : (IntKind.i64.wrap ((x4_1.length : Int) - t335)) = ji11 := (i64_w _).trans hji11
              by_cases c12 : 0 ≤ (ji11)
              · rw [if_pos c12] at H
                have c12b0 := eq_true c12
                have c12b1 : decide (0 ≤ (ji11)) = true := decide_eq_true c12
                clear c12
                by_cases c13 : (ji11) ≤ (x4_1.length : Int)
                · rw [if_pos c13] at H
                  have c13b0 := eq_true c13
                  have c13b1 : decide ((ji11) ≤ (x4_1.length : Int)) = true := decide_eq_true c13
                  clear c13
                  obtain ⟨y336, hy336⟩ : ∃ y_ : List Int, y_ = (x4_1.drop ((ji11) : Int).toNat) := ⟨_, rfl⟩
                  replace H : (impl_NextDepth.l1 k1 x4_1 ji11 0 l0 (l0.length : Int) x17_1 y336 (y336.length : Int) 0 ((rd_T85 l0 x17_1).f0) ((rd_T85 l0 x17_1).f1)) = some (r1, r2) := by first | (rw [hy336]; with_reducible exact H) | (have H2_ := (Option.bind_some _ _).symm.trans H; rw [hy336]; with_reducible exact H2_) | (have H2_ := (Option.bind_some _ _).symm.trans H; with_reducible exact H2_) | with_reducible exact H | (rw [hy336]; exact H) | exact H
                  have Ny336 := Aside0.mk hy336
                  clear hy336
                  have H' := Aside0.mk H
                  clear H
                  have p333 : 0 ≤ (x17_1 : Int) := of_decide_eq_true (by first | (with_reducible assumption) | assumption)
                  have q333 : x17_1 < (l0.length : Int) := of_decide_eq_true (by first | (with_reducible assumption) | assumption)
                  obtain ⟨ad333, e333, hx333_0, hx333_1⟩ := at_T85 HR0.out x17_1 p333 q333
                  cases e333
                  (try replace hx333_0 := (HB.out.cell (World.block_lt_of_cell? w _ hx333_0)).trans hx333_0)
                  (try replace hx333_1 := (HB.out.cell (World.block_lt_of_cell? w _ hx333_1)).trans hx333_1)
                  replace p333 := eq_true p333
                  replace q333 := eq_true q333
                  go_wp2_with (first | ((with_reducible refine gate_dst (N := 6) rfl ?_); refine box_event ?hg (N := 6) ?hd (cs := #[.int .i64 0, .int .i64 0]) (t := 85) ?hr ?_; (case hd => rfl); (case hg => rfl); (case hr => first | (go_simp; done) | (go_simp; rfl)); intro gb334 hg w14 hbox hb; have n0_ := Aside0.mk (Kd.R_below (by (with_reducible repeat (first | apply Kd.R_alloc | apply Kd.R_drewN | apply Kd.R_drew)); exact HO_4.out) hb); have n1_ := Aside0.mk (below_step (by repeat (first | (with_reducible first | exact HB.out | apply below_alloc | apply pw_below_drewN | apply below_drew1) | exact HB.out)) hb); have n2_ := Aside0.mk (hbox); have n3_ := Aside0.mk ((by rw [hg]; exact (below_size (by repeat (first | (with_reducible first | exact HB.out | apply below_alloc | apply pw_below_drewN | apply below_drew1) | exact HB.out))) : w.heap.size ≤ gb334)); have n4_ := Aside0.mk ((by rw [hg]; exact (below_size (by repeat (first | (with_reducible first | exact HB.out | apply below_alloc | apply pw_below_drewN | apply below_drew1) | exact HB.out))) : w.heap.size ≤ gb334)); clear HO_4; clear HB; have HO_4 := n0_; have HB := n1_; have BK334 := n2_; have GW334 := n3_; have GE334 := n4_; clear n0_ n1_ n2_ n3_ n4_; clear hb hbox hg; have hcz15_0 : w14.cell? ⟨gb334, 0, none⟩ = some (.int .i64 0) := (blk_cell BK334.out 0).trans rfl; have hcz15_1 : w14.cell? ⟨gb334, 1, none⟩ = some (.int .i64 0) := (blk_cell BK334.out 1).trans rfl; have hfz15_0 := blk_frozen BK334.out 0; have hfz15_1 := blk_frozen BK334.out 1) | ((with_reducible refine gate_store (t := 85) (p := 6) rfl ?_); refine store_event (t := 85) (p := 6) (v := ?vo_w16) (w1 := ((w14.setCell ⟨gb334, 0, none⟩ (.int .i64 ((rd_T85 l0 x17_1).f0))).setCell ⟨gb334, 1, none⟩ (.int .i64 ((rd_T85 l0 x17_1).f1)))) ?hg ?ho ?hn ?hr ?_; (case ho => rfl); (case hg => rfl); (case hn => rfl); (case hr => first | (go_simp; done) | (go_simp; rfl)); intro w16 hw; have n0_ : Aside0 (Kd.R (Kd.int .i64) 3 w16 w.heap.size (fun _ => True) u4 x4_1) := ⟨(by rw [hw]; exact (by (with_reducible repeat (first | apply Kd.R_alloc | apply Kd.R_drewN | apply Kd.R_drew)); exact Kd.R_mono (Kd.R_far (p := ⟨gb334, 1, none⟩) (Kd.R_far (p := ⟨gb334, 0, none⟩) (Kd.R_types HO_4.out BK334.out (by decide)) (fun _ hk => hk.2) (.int .i64 ((rd_T85 l0 x17_1).f0))) (fun _ hk => hk.2) (.int .i64 ((rd_T85 l0 x17_1).f1))) (fun _ hk => trivial)))⟩; have n1_ : Aside0 (w16.heap[gb334]? = some (.cells #[.int .i64 ((rd_T85 l0 x17_1).f0), .int .i64 ((rd_T85 l0 x17_1).f1)] 85 (0, 0))) := ⟨(by rw [hw]; exact (by (with_reducible repeat (first | refine blk_drewN ?_ _ | refine blk_drew ?_ | refine blk_alloc ?_ _)); refine blk_put (cs := #[.int .i64 ((rd_T85 l0 x17_1).f0), .int .i64 0]) ?_ 1 _ rfl; (with_reducible repeat (first | refine blk_drewN ?_ _ | refine blk_drew ?_ | refine blk_alloc ?_ _)); refine blk_put (cs := #[.int .i64 0, .int .i64 0]) ?_ 0 _ rfl; (with_reducible repeat (first | refine blk_drewN ?_ _ | refine blk_drew ?_ | refine blk_alloc ?_ _)); exact BK334.out))⟩; have n2_ : Aside0 (Below w.heap.size w w16) := ⟨(by rw [hw]; exact (by repeat (first | (with_reducible first | exact HB.out | apply below_alloc | apply pw_below_drewN | apply below_drew1 | refine below_set ?_ GE334.out) | exact HB.out)))⟩; clear hw; clear HO_4; clear BK334; clear HB; have HO_4 := n0_; have BK334 := n1_; have HB := n2_; clear n0_ n1_ n2_; obtain ⟨Ao17, co17, eo17⟩ := Kd.R_slice HO_4.out; subst eo17; have hcz18_0 : w16.cell? ⟨gb334, 0, none⟩ = some (.int .i64 ((rd_T85 l0 x17_1).f0)) := (blk_cell BK334.out 0).trans rfl; have hcz18_1 : w16.cell? ⟨gb334, 1, none⟩ = some (.int .i64 ((rd_T85 l0 x17_1).f1)) := (blk_cell BK334.out 1).trans rfl; have hfz18_0 := blk_frozen BK334.out 0; have hfz18_1 := blk_frozen BK334.out 1) | ((with_reducible refine gate_callee (f := 77) rfl ?_); refine goesL_ (some 25) rfl rfl Try.func77 (by kernel_rfl) rfl #[.int .i64 ((rd_T85 l0 x17_1).f0)] rfl (by (try simp only [List.map_toArray, List.map_cons, List.map_nil]); first | done | rfl | (simp only [List.length_drop, List.length_take]; rfl)) ?_; (with_reducible refine (impl_operandsOfSaid.calls k1 ((rd_T85 l0 x17_1).f0) t335 _ A10.out).mono ?_); rintro e w' ⟨rfl, ⟨nd, rfl⟩⟩; refine ⟨_, rfl, ?_⟩; have q19 : ((ji11) : Int) ≤ ((x4_1.length : Int) : Int) := of_decide_eq_true (by first | (with_reducible assumption) | assumption); obtain ⟨i019, hi019, _, hsz19, _⟩ := info_parts info3; have hroom19 : x4_1.length ≤ co17 := (Kd.R_reads' HO_4.out).2.1; have hC19 : Kd.C (Kd.int .i64) _ Ao17 x4_1.length x4_1 := (Kd.R_reads' HO_4.out).2.2; have q019 : (0 : Int) ≤ ((ji11) : Int) := of_decide_eq_true (by first | (with_reducible assumption) | assumption); have hcut19 := cut_from (P := Try.prog) 22 3 .i64 Try.underlying22 hi019 1 hsz19 Ao17 x4_1.length co17 (ji11) q019 q19; have hr19 := Kd.C_drop (m := ((ji11) : Int).toNat) (c := co17) hC19 (by omega) hroom19; obtain ⟨A19, hA19⟩ : ∃ A1, A1 = (if co17 = ((ji11) : Int).toNat then Ao17 else (Ao17 : Option Addr).map (·.add (((ji11) : Int).toNat * 1))) := ⟨_, rfl⟩; obtain ⟨c19, hc19⟩ : ∃ c1, c1 = co17 - ((ji11) : Int).toNat := ⟨_, rfl⟩; have hy19 : y336.length = x4_1.length - ((ji11) : Int).toNat := (by rw [Ny336.out, List.length_drop] <;> omega); rw [show (x4_1).drop ((ji11) : Int).toNat = y336 from Ny336.out.symm] at hr19; replace hr19 : Kd.C (Kd.int .i64) _ A19 y336.length y336 := (by rw [hA19]; exact hr19); rw [← hy19, ← hA19, ← hc19] at hcut19; have HR339 := Aside0.mk hr19; have HC339 := Aside0.mk (show y336.length ≤ c19 from by rw [hy19, hc19]; exact Nat.sub_le_sub_right hroom19 _); clear hr19 hC19 hroom19 hi019 hsz19 hc19; have KY19 := Aside0.mk hy19; have KA19 := Aside0.mk hA19; clear hy19 hA19; have KL19 := Aside0.mk (show ((ji11) : Int).toNat ≤ x4_1.length from by omega); replace q19 := eq_true q19))
                  go_loopg [8, 31] k1 (fun kq v8 v31 w' => ∃ (x8_2 : Int) (x31_2 : Int), v8 = .int .i64 x8_2 ∧ v31 = .int .i64 x31_2 ∧ Aside0 (impl_NextDepth.l1 kq x4_1 ji11 x8_2 l0 (l0.length : Int) x17_1 y336 (y336.length : Int) x31_2 ((rd_T85 l0 x17_1).f0) ((rd_T85 l0 x17_1).f1) = some (r1, r2)) ∧ Aside0 (kq ≤ k1) ∧ Aside0 (Kd.R (Kd.int .i64) 3 w' w.heap.size (fun _ => True) (.slice Ao17 x4_1.length co17) x4_1) ∧ Aside0 (w'.heap[gb334]? = some (.cells #[.int .i64 ((rd_T85 l0 x17_1).f0), .int .i64 ((rd_T85 l0 x17_1).f1)] 85 (0, 0))) ∧ Aside0 (Kd.C (Kd.int .i64) w' A19 y336.length y336) ∧ Aside0 (Below w.heap.size w w'))
                  case atStart => exact ⟨(0), (0), (by first | rfl | (simp; done) | (simp [*]; done)), (by first | rfl | (simp; done) | (simp [*]; done)), H', ⟨Nat.le_refl _⟩, ⟨by (with_reducible repeat (first | apply Kd.R_alloc | apply Kd.R_drewN | apply Kd.R_drew)); exact HO_4.out⟩, ⟨by (with_reducible repeat (first | refine blk_drewN ?_ _ | refine blk_drew ?_ | refine blk_alloc ?_ _)); exact BK334.out⟩, ⟨by repeat (first | (with_reducible exact HR339.out) | (with_reducible refine Kd.C_alloc ?_ _) | (with_reducible refine Kd.C_drewN ?_ _) | (with_reducible refine Kd.C_drew ?_) | exact HR339.out)⟩, ⟨by repeat (first | (with_reducible first | exact HB.out | apply below_alloc | apply pw_below_drewN | apply below_drew1 | refine below_set ?_ GE334.out) | exact HB.out)⟩⟩
                  case round =>
                    clear H'
                    try clear c1
                    try clear q1
                    try clear c2
                    try clear p2
                    try clear c3
                    try clear p3
                    try clear q3
                    try clear hx3
                    try clear c5
                    try clear p6
                    try clear c7
                    try clear c7b0
                    try clear c8
                    try clear c8b0
                    try clear c9
                    try clear c9b0
                    try clear c12
                    try clear c12b0
                    try clear c12b1
                    try clear c13
                    try clear c13b0
                    try clear c13b1
                    try clear c19
                    try clear q19
                    try clear hcz15_0
                    try clear hcz15_1
                    try clear hcz18_0
                    try clear hcz18_1
                    try clear hfz15_0
                    try clear hfz15_1
                    try clear hfz18_0
                    try clear hfz18_1
                    try clear hx333_0
                    try clear hx333_1
                    try clear p2
                    try clear p333
                    try clear q019
                    try clear q19
                    try clear q333
                    obtain ⟨x8_2, x31_2, rfl, rfl, HA, HK2, HO_4, BK334, HR339, HB⟩ := hrel
                    cases gk with
                    | zero => exact absurd HA.out (by simp [impl_NextDepth.l1])
                    | succ k2 =>
                      have H := HA.out
                      clear HA
                      simp only [impl_NextDepth.l1] at H
                      by_cases c20 : x31_2 < (y336.length : Int)
                      · rw [if_pos c20] at H
                        have c20b0 : decide (x31_2 < (y336.length : Int)) = true := decide_eq_true c20
                        clear c20
                        by_cases c21 : 0 ≤ x31_2
                        · rw [if_pos c21] at H
                          have c21b0 : decide (0 ≤ x31_2) = true := decide_eq_true c21
                          clear c21
                          by_cases c22 : x31_2 < (y336.length : Int)
                          · rw [if_pos c22] at H
                            have c22b0 : decide (x31_2 < (y336.length : Int)) = true := decide_eq_true c22
                            clear c22
                            obtain ⟨ji23, hji23⟩ : ∃ j_ : Int, (mx x8_2 (rd y336 x31_2)) = j_ := ⟨_, rfl⟩
                            replace H : (impl_NextDepth.l1 k2 x4_1 ji11 ji23 l0 (l0.length : Int) x17_1 y336 (y336.length : Int) (wrap64 (x31_2 + 1)) ((rd_T85 l0 x17_1).f0) ((rd_T85 l0 x17_1).f1)) = some (r1, r2) := by first | (rw [hji23] at H; exact H) | (simp only [hji23] at H ⊢; exact H)
                            have hji23_ : (if x8_2 < (rd y336 x31_2) then (rd y336 x31_2) else x8_2) = ji23 := hji23
                            have H' := Aside0.mk H
                            clear H
                            have p340 : 0 ≤ (x31_2 : Int) := of_decide_eq_true (by first | (with_reducible assumption) | assumption)
                            have q340 : x31_2 < (y336.length : Int) := of_decide_eq_true (by first | (with_reducible assumption) | assumption)
                            obtain ⟨ad340, e340, hx340_0⟩ := Kd.at_int HR339.out x31_2 p340 q340
                            cases e340
                            (try replace hx340_0 := (HB.out.cell (World.block_lt_of_cell? w _ hx340_0)).trans hx340_0)
                            replace p340 := eq_true p340
                            replace q340 := eq_true q340
                            go_wp2
                            go_roundg k2
                            case measure => have := HK1.out; have := HK2.out; omega
                            case rel => exact ⟨(ji23), (wrap64 (x31_2 + 1)), (by first | rfl | (simp; done) | (simp only [← hji23] <;> (first | rfl | simp)) | (simp [*]; done)), (by first | rfl | (simp; done) | (simp [*]; done)), H', ⟨by have := HK1.out; have := HK2.out; omega⟩, ⟨by (with_reducible repeat (first | apply Kd.R_alloc | apply Kd.R_drewN | apply Kd.R_drew)); exact HO_4.out⟩, ⟨by (with_reducible repeat (first | refine blk_drewN ?_ _ | refine blk_drew ?_ | refine blk_alloc ?_ _)); exact BK334.out⟩, ⟨by repeat (first | (with_reducible exact HR339.out) | (with_reducible refine Kd.C_alloc ?_ _) | (with_reducible refine Kd.C_drewN ?_ _) | (with_reducible refine Kd.C_drew ?_) | exact HR339.out)⟩, ⟨by repeat (first | (with_reducible first | exact HB.out | apply below_alloc | apply pw_below_drewN | apply below_drew1 | refine below_set ?_ GE334.out) | exact HB.out)⟩⟩
                          · rw [if_neg c22] at H
                            exact absurd H (by simp)
                        · rw [if_neg c21] at H
                          exact absurd H (by simp)
                      · rw [if_neg c20] at H
                        have c20b0 : decide (x31_2 < (y336.length : Int)) = false := decide_eq_false c20
                        clear c20
                        by_cases c24 : ((rd_T85 l0 x17_1).f0) = 4
                        · rw [if_pos c24] at H
                          have c24b0 : (((rd_T85 l0 x17_1).f0) == 4) = true := beq_iff_eq.mpr c24
                          have c24b1 : (((rd_T85 l0 x17_1).f0) != 4) = false := bne_eq_false_iff_eq.mpr c24
                          clear c24
                          by_cases c25 : 0 ≤ ji11
                          · rw [if_pos c25] at H
                            have c25b0 := eq_true c25
                            have c25b1 : decide (0 ≤ ji11) = true := decide_eq_true c25
                            clear c25
                            by_cases c26 : ji11 ≤ (x4_1.length : Int)
                            · rw [if_pos c26] at H
                              have c26b0 := eq_true c26
                              have c26b1 : decide (ji11 ≤ (x4_1.length : Int)) = true := decide_eq_true c26
                              clear c26
                              obtain ⟨y341, hy341⟩ : ∃ y_ : List Int, y_ = (x4_1.take (ji11 : Int).toNat) := ⟨_, rfl⟩
                              replace H : (if y341.length < 17592186044416 then (impl_NextDepth.l0 k2 (y341 ++ [wrap64 (x8_2 + 1)]) l0 (l0.length : Int) (wrap64 (x17_1 + 1))) else (none)) = some (r1, r2) := by first | (rw [hy341]; with_reducible exact H) | (have H2_ := (Option.bind_some _ _).symm.trans H; rw [hy341]; with_reducible exact H2_) | (have H2_ := (Option.bind_some _ _).symm.trans H; with_reducible exact H2_) | with_reducible exact H | (rw [hy341]; exact H) | exact H
                              have Ny341 := Aside0.mk hy341
                              clear hy341
                              by_cases c27 : y341.length < 17592186044416
                              · rw [if_pos c27] at H
                                have LMc27 := Aside0.mk c27
                                clear c27
                                obtain ⟨y344, hy344⟩ : ∃ y_ : List Int, y_ = (y341 ++ [wrap64 (x8_2 + 1)]) := ⟨_, rfl⟩
                                replace H : (impl_NextDepth.l0 k2 y344 l0 (l0.length : Int) (wrap64 (x17_1 + 1))) = some (r1, r2) := by first | (rw [hy344]; with_reducible exact H) | (have H2_ := (Option.bind_some _ _).symm.trans H; rw [hy344]; with_reducible exact H2_) | (have H2_ := (Option.bind_some _ _).symm.trans H; with_reducible exact H2_) | with_reducible exact H | (rw [hy344]; exact H) | exact H
                                have Ny344 := Aside0.mk hy344
                                clear hy344
                                have H' := Aside0.mk H
                                clear H
                                have hcz28_0 : wr.cell? ⟨gb334, 0, none⟩ = some (.int .i64 ((rd_T85 l0 x17_1).f0)) := (blk_cell BK334.out 0).trans rfl
                                have hcz28_1 : wr.cell? ⟨gb334, 1, none⟩ = some (.int .i64 ((rd_T85 l0 x17_1).f1)) := (blk_cell BK334.out 1).trans rfl
                                have hfz28_0 := blk_frozen BK334.out 0
                                have hfz28_1 := blk_frozen BK334.out 1
                                have q29 : (ji11 : Int) ≤ ((x4_1.length : Int) : Int) := of_decide_eq_true (by first | (with_reducible assumption) | assumption)
                                obtain ⟨i029, hi029, _, hsz29, _⟩ := info_parts info3
                                have hcut29 := cut_to (P := Try.prog) 22 3 .i64 Try.underlying22 hi029 Ao17 x4_1.length co17 ji11 (of_decide_eq_true (by first | (with_reducible assumption) | assumption)) q29 (Kd.R_reads' HO_4.out).2.1
                                have hr29 := Kd.R_take (m := (ji11 : Int).toNat) HO_4.out (by omega)
                                have hy29 : y341.length = (ji11 : Int).toNat := (by rw [Ny341.out, List.length_take]; omega)
                                rw [← Ny341.out] at hr29
                                rw [← hy29] at hr29 hcut29
                                clear hy29 hi029 hsz29 HO_4
                                have HO343 := Aside0.mk hr29
                                clear hr29
                                replace q29 := eq_true q29
                                go_wp2_with (first | ((with_reducible refine gate_builtin (b := .append) (xs := #[.tmp 46, .tmp 48]) rfl ?_); at_builtin; refine Kd.R_append (Kd.int .i64) (w0 := w) w.heap.size rfl (.tmp 46) (.tmp 48) 22 3 (.int .i64 0) 8 rfl Try.underlying22 info3 rfl (by decide) (by omega) (.slice Ao17 y341.length co17) y341 (wrap64 (x8_2 + 1)) [.int .i64 (wrap64 (x8_2 + 1))] (fun _ => True) (fun _ => False) rfl rfl ?aP (fun _ hk => hk.elim) ?aF ?aO ?aB ?aS ?aL ?_; (case aP => exact rfl); (case aB => exact (by repeat (first | (with_reducible first | exact HB.out | apply below_alloc | apply pw_below_drewN | apply below_drew1 | refine below_set ?_ GE334.out) | exact HB.out))); (case aF => exact (fun _ _ => trivial)); (case aO => exact (by (with_reducible repeat (first | apply Kd.R_alloc | apply Kd.R_drewN | apply Kd.R_drew)); exact HO343.out)); (case aS => exact (below_size (by repeat (first | (with_reducible first | exact HB.out | apply below_alloc | apply pw_below_drewN | apply below_drew1 | refine below_set ?_ GE334.out) | exact HB.out)))); (case aL => have := LMc27.out; omega); intro v345 w30 ho hb hg hat; rw [← Ny344.out] at ho; have n0_ := Aside0.mk (blk_grown (g := gb334) (o := .cells #[.int .i64 ((rd_T85 l0 x17_1).f0), .int .i64 ((rd_T85 l0 x17_1).f1)] 85 (0, 0)) (by (with_reducible repeat (first | refine blk_drewN ?_ _ | refine blk_drew ?_ | refine blk_alloc ?_ _)); exact BK334.out) hg (Kd.R_ne HO343.out BK334.out (by decide))); have n1_ := Aside0.mk (hb); have n2_ := Aside0.mk (ho); clear BK334; clear HB; clear HO343; have BK334 := n0_; have HB := n1_; have HO346 := n2_; clear n0_ n1_ n2_; clear ho hb hg hat))
                                go_roundg k2
                                case measure => have := HK1.out; have := HK2.out; omega
                                case rel => exact ⟨(y344), (wrap64 (x17_1 + 1)), (by first | rfl | (simp; done) | (simp [*]; done)), H', ⟨by have := HK1.out; have := HK2.out; omega⟩, ⟨by (with_reducible repeat (first | apply Kd.R_alloc | apply Kd.R_drewN | apply Kd.R_drew)); exact HO346.out⟩, ⟨by repeat (first | (with_reducible first | exact HB.out | apply below_alloc | apply pw_below_drewN | apply below_drew1 | refine below_set ?_ GE334.out) | exact HB.out)⟩⟩
                              · rw [if_neg c27] at H
                                exact absurd H (by simp)
                            · rw [if_neg c26] at H
                              exact absurd H (by simp)
                          · rw [if_neg c25] at H
                            exact absurd H (by simp)
                        · rw [if_neg c24] at H
                          have c24b0 : (((rd_T85 l0 x17_1).f0) == 4) = false := beq_eq_false_iff_ne.mpr c24
                          have c24b1 : (((rd_T85 l0 x17_1).f0) != 4) = true := bne_iff_ne.mpr c24
                          by_cases c31 : 0 ≤ ji11
                          · rw [if_pos c31] at H
                            have c31b0 := eq_true c31
                            have c31b1 : decide (0 ≤ ji11) = true := decide_eq_true c31
                            clear c31
                            by_cases c32 : ji11 ≤ (x4_1.length : Int)
                            · rw [if_pos c32] at H
                              have c32b0 := eq_true c32
                              have c32b1 : decide (ji11 ≤ (x4_1.length : Int)) = true := decide_eq_true c32
                              clear c32
                              obtain ⟨y347, hy347⟩ : ∃ y_ : List Int, y_ = (x4_1.take (ji11 : Int).toNat) := ⟨_, rfl⟩
                              replace H : (if y347.length < 17592186044416 then (impl_NextDepth.l0 k2 (y347 ++ [x8_2]) l0 (l0.length : Int) (wrap64 (x17_1 + 1))) else (none)) = some (r1, r2) := by first | (rw [hy347]; with_reducible exact H) | (have H2_ := (Option.bind_some _ _).symm.trans H; rw [hy347]; with_reducible exact H2_) | (have H2_ := (Option.bind_some _ _).symm.trans H; with_reducible exact H2_) | with_reducible exact H | (rw [hy347]; exact H) | exact H
                              have Ny347 := Aside0.mk hy347
                              clear hy347
                              by_cases c33 : y347.length < 17592186044416
                              · rw [if_pos c33] at H
                                have LMc33 := Aside0.mk c33
                                clear c33
                                obtain ⟨y350, hy350⟩ : ∃ y_ : List Int, y_ = (y347 ++ [x8_2]) := ⟨_, rfl⟩
                                replace H : (impl_NextDepth.l0 k2 y350 l0 (l0.length : Int) (wrap64 (x17_1 + 1))) = some (r1, r2) := by first | (rw [hy350]; with_reducible exact H) | (have H2_ := (Option.bind_some _ _).symm.trans H; rw [hy350]; with_reducible exact H2_) | (have H2_ := (Option.bind_some _ _).symm.trans H; with_reducible exact H2_) | with_reducible exact H | (rw [hy350]; exact H) | exact H
                                have Ny350 := Aside0.mk hy350
                                clear hy350
                                have H' := Aside0.mk H
                                clear H
                                have hcz34_0 : wr.cell? ⟨gb334, 0, none⟩ = some (.int .i64 ((rd_T85 l0 x17_1).f0)) := (blk_cell BK334.out 0).trans rfl
                                have hcz34_1 : wr.cell? ⟨gb334, 1, none⟩ = some (.int .i64 ((rd_T85 l0 x17_1).f1)) := (blk_cell BK334.out 1).trans rfl
                                have hfz34_0 := blk_frozen BK334.out 0
                                have hfz34_1 := blk_frozen BK334.out 1
                                have q35 : (ji11 : Int) ≤ ((x4_1.length : Int) : Int) := of_decide_eq_true (by first | (with_reducible assumption) | assumption)
                                obtain ⟨i035, hi035, _, hsz35, _⟩ := info_parts info3
                                have hcut35 := cut_to (P := Try.prog) 22 3 .i64 Try.underlying22 hi035 Ao17 x4_1.length co17 ji11 (of_decide_eq_true (by first | (with_reducible assumption) | assumption)) q35 (Kd.R_reads' HO_4.out).2.1
                                have hr35 := Kd.R_take (m := (ji11 : Int).toNat) HO_4.out (by omega)
                                have hy35 : y347.length = (ji11 : Int).toNat := (by rw [Ny347.out, List.length_take]; omega)
                                rw [← Ny347.out] at hr35
                                rw [← hy35] at hr35 hcut35
                                clear hy35 hi035 hsz35 HO_4
                                have HO349 := Aside0.mk hr35
                                clear hr35
                                replace q35 := eq_true q35
                                go_wp2_with (first | ((with_reducible refine gate_builtin (b := .append) (xs := #[.tmp 46, .tmp 48]) rfl ?_); at_builtin; refine Kd.R_append (Kd.int .i64) (w0 := w) w.heap.size rfl (.tmp 46) (.tmp 48) 22 3 (.int .i64 0) 8 rfl Try.underlying22 info3 rfl (by decide) (by omega) (.slice Ao17 y347.length co17) y347 x8_2 [.int .i64 x8_2] (fun _ => True) (fun _ => False) rfl rfl ?aP (fun _ hk => hk.elim) ?aF ?aO ?aB ?aS ?aL ?_; (case aP => exact rfl); (case aB => exact (by repeat (first | (with_reducible first | exact HB.out | apply below_alloc | apply pw_below_drewN | apply below_drew1 | refine below_set ?_ GE334.out) | exact HB.out))); (case aF => exact (fun _ _ => trivial)); (case aO => exact (by (with_reducible repeat (first | apply Kd.R_alloc | apply Kd.R_drewN | apply Kd.R_drew)); exact HO349.out)); (case aS => exact (below_size (by repeat (first | (with_reducible first | exact HB.out | apply below_alloc | apply pw_below_drewN | apply below_drew1 | refine below_set ?_ GE334.out) | exact HB.out)))); (case aL => have := LMc33.out; omega); intro v351 w36 ho hb hg hat; rw [← Ny350.out] at ho; have n0_ := Aside0.mk (blk_grown (g := gb334) (o := .cells #[.int .i64 ((rd_T85 l0 x17_1).f0), .int .i64 ((rd_T85 l0 x17_1).f1)] 85 (0, 0)) (by (with_reducible repeat (first | refine blk_drewN ?_ _ | refine blk_drew ?_ | refine blk_alloc ?_ _)); exact BK334.out) hg (Kd.R_ne HO349.out BK334.out (by decide))); have n1_ := Aside0.mk (hb); have n2_ := Aside0.mk (ho); clear BK334; clear HB; clear HO349; have BK334 := n0_; have HB := n1_; have HO352 := n2_; clear n0_ n1_ n2_; clear ho hb hg hat))
                                go_roundg k2
                                case measure => have := HK1.out; have := HK2.out; omega
                                case rel => exact ⟨(y350), (wrap64 (x17_1 + 1)), (by first | rfl | (simp; done) | (simp [*]; done)), H', ⟨by have := HK1.out; have := HK2.out; omega⟩, ⟨by (with_reducible repeat (first | apply Kd.R_alloc | apply Kd.R_drewN | apply Kd.R_drew)); exact HO352.out⟩, ⟨by repeat (first | (with_reducible first | exact HB.out | apply below_alloc | apply pw_below_drewN | apply below_drew1 | refine below_set ?_ GE334.out) | exact HB.out)⟩⟩
                              · rw [if_neg c33] at H
                                exact absurd H (by simp)
                            · rw [if_neg c32] at H
                              exact absurd H (by simp)
                          · rw [if_neg c31] at H
                            exact absurd H (by simp)
                · rw [if_neg c13] at H
                  exact absurd H (by simp)
              · rw [if_neg c12] at H
                exact absurd H (by simp)
            · rw [if_neg c9] at H
              exact absurd H (by simp)
          · rw [if_neg c8] at H
            exact absurd H (by simp)
        · rw [if_neg c7] at H
          have c7b0 : decide (x17_1 < (l0.length : Int)) = false := decide_eq_false c7
          clear c7
          by_cases c37 : 0 < (x4_1.length : Int)
          · rw [if_pos c37] at H
            have c37b0 : decide (0 < (x4_1.length : Int)) = true := decide_eq_true c37
            have c37b1 : decide (0 < x4_1.length) = true := decide_eq_true (by omega)
            clear c37
            simp only [Option.some.injEq, Prod.mk.injEq] at H
            obtain ⟨rfl, rfl⟩ := H
            obtain ⟨Ao38, co38, eo38⟩ := Kd.R_slice HO_4.out
            subst eo38
            have p332 : 0 ≤ (0 : Int) := (by omega)
            have q332 : 0 < (x4_1.length : Int) := of_decide_eq_true (by first | (with_reducible assumption) | assumption)
            obtain ⟨ad332, e332, hx332_0⟩ := Kd.at_int (Kd.R_reads' HO_4.out).2.2 0 p332 q332
            cases e332
            have qi332 : (0 < x4_1.length) = True := eq_true (by omega)
            (try rw [show ((0 : Int)).toNat = 0 from rfl] at hx332_0)
            (try rw [Addr.add_zero'] at hx332_0)
            replace p332 := eq_true p332
            replace q332 := eq_true q332
            go_wp2
            go_ret2
            exact ⟨by first | rfl | (simp [errW_none, errW_some] <;> rfl) | (simp [*, errW_none, errW_some] <;> rfl), by repeat (first | (with_reducible first | exact HB.out | apply below_alloc | apply pw_below_drewN | apply below_drew1) | exact HB.out)⟩
          · rw [if_neg c37] at H
            exact absurd H (by simp)
  · replace c3 := Bool.eq_false_iff.mpr c3
    subst c3
    have H1 : (some (0, false)) = some (r1, r2) := by rw [if_neg (show ¬ (false = true) by decide)] at H; exact H
    clear H
    have H := H1
    clear H1
    simp only [Option.some.injEq, Prod.mk.injEq] at H
    obtain ⟨rfl, rfl⟩ := H
    go_enter Try.func56, Try.ntmps56
    go_wp2_with (first | ((with_reducible refine gate_callee (f := 25) rfl ?_); refine goesL_ (some 12) rfl rfl Try.func25 (by kernel_rfl) rfl #[.slice A0 l0.length c0] rfl (by (try simp only [List.map_toArray, List.map_cons, List.map_nil]); first | done | rfl | (simp only [List.length_drop, List.length_take]; rfl)) ?_; (with_reducible refine (impl_GoodSaid.calls k _ _ l0 false _ ?side1 ?side2 A2.out).mono ?_); (case side1 => repeat (first | exact HR0.out | (with_reducible refine Kd.C_alloc ?_ _) | (with_reducible refine Kd.C_drewN ?_ _) | (with_reducible refine Kd.C_drew ?_))); (case side2 => exact HC0.out); rintro e w39 ⟨rfl, hb⟩; refine ⟨_, rfl, ?_⟩; have n0_ := Aside0.mk (below_step (by repeat (first | (with_reducible first | exact HB.out | apply below_alloc | apply pw_below_drewN | apply below_drew1) | exact HB.out)) hb); clear HB; have HB := n0_; clear n0_; (try clear hb); (try clear hb2); (try clear hk); (try clear hi)))
    go_ret2
    exact ⟨by first | rfl | (simp [errW_none, errW_some] <;> rfl) | (simp [*, errW_none, errW_some] <;> rfl), by repeat (first | (with_reducible first | exact HB.out | apply below_alloc | apply pw_below_drewN | apply below_drew1) | exact HB.out)⟩

end Go.Proofs.Ytdaodonjikaalaa.P
