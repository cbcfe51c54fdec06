/- Go functions of this seat as Lean functions, and the proofs that the calls come to what these say; printed by a program of this session. No condition. -/
import Derived.Test.YtbgbidgnlioomaaP0
import Derived.Test.YtbgbidgnlioomaaMFnExactShortPath1
namespace Go.Proofs.Ytbgbidgnlioomaa.P
open Go.RowKit Go.Proofs.YtbgbidgnlioomaaW.PrintWords Go.Proofs.YtbgbidgnlioomaaW.PrintLast Go.Proofs.YtbgbidgnlioomaaW.PrintMore Go.Proofs.Ytbgbidgnlioomaa.Hof
attribute [local go_sem] max2_int min2_int max_two min_two max_three min_three max_four min_four   -- for this text's walks alone
set_option linter.unusedVariables false
set_option linter.unusedSimpArgs false

/-! ### impl_stepsFrom: function 139 -/
mutual
def impl_stepsFrom.l0 : Nat → List (List Int) → List Int → List Int → List Int → Int → Int → Option (List Int)
 | 0, _, _, _, _, _, _ => none
 | k + 1, x0, x5, x6, x17, x18, x19 => if x19 < x18 then (if 0 ≤ x19 then (if x19 < (x17.length : Int) then (if 0 ≤ (rd x17 x19) then (if (rd x17 x19) < (x5.length : Int) then (impl_stepsFrom.l0 k x0 (x5.set ((rd x17 x19) : Int).toNat 0) x6 x17 x18 (wrap64 (x19 + 1))) else (none)) else (none)) else (none)) else (none)) else (impl_stepsFrom.l1 k x0 x5 x6)
def impl_stepsFrom.l1 : Nat → List (List Int) → List Int → List Int → Option (List Int)
 | 0, _, _, _ => none
 | k + 1, x0, x5, x6 => if (x6.length : Int) > 0 then (if 0 < (x6.length : Int) then (if 0 ≤ (rd x6 0) then (if (rd x6 0) < (x0.length : Int) then (impl_stepsFrom.l2 k x0 x5 x6 (rd_L1 x0 (rd x6 0)) ((rd_L1 x0 (rd x6 0)).length : Int) 0) else (none)) else (none)) else (none)) else (some x5)
def impl_stepsFrom.l2 : Nat → List (List Int) → List Int → List Int → List Int → Int → Int → Option (List Int)
 | 0, _, _, _, _, _, _ => none
 | k + 1, x0, x5, x6, x37, x38, x39 => if x39 < x38 then (if 0 ≤ x39 then (if x39 < (x37.length : Int) then (if 0 ≤ (rd x37 x39) then (if (rd x37 x39) < (x5.length : Int) then (if (rd x5 (rd x37 x39)) < 0 then (if 0 < (x6.length : Int) then (if 0 ≤ (rd x6 0) then (if (rd x6 0) < (x5.length : Int) then (if x6.length < 17592186044416 then (impl_stepsFrom.l2 k x0 (x5.set ((rd x37 x39) : Int).toNat (wrap64 ((rd x5 (rd x6 0)) + 1))) (x6 ++ [rd x37 x39]) x37 x38 (wrap64 (x39 + 1))) else (none)) else (none)) else (none)) else (none)) else (impl_stepsFrom.l2 k x0 x5 x6 x37 x38 (wrap64 (x39 + 1)))) else (none)) else (none)) else (none)) else (none)) else (if 1 ≤ (x6.length : Int) then (impl_stepsFrom.l1 k x0 x5 (x6.drop (1 : Int).toNat)) else (none))
end
def impl_stepsFrom.f (k : Nat) (l0 : List (List Int)) (l1 : List Int) : Option (List Int) := (slices_Repeat_int_int.f (([(-1)] : List Int)) (l0.length : Int)).bind fun t567 => ((slices_Clone_int_int.f l1).bind fun t570 => (impl_stepsFrom.l0 k l0 t567 t570 l1 (l1.length : Int) 0))
theorem impl_stepsFrom.mono_l : ∀ k, (∀ y0 y1 y2 y3 y4 y5, LeO (impl_stepsFrom.l0 k y0 y1 y2 y3 y4 y5) (impl_stepsFrom.l0 (k + 1) y0 y1 y2 y3 y4 y5)) ∧ (∀ y0 y1 y2, LeO (impl_stepsFrom.l1 k y0 y1 y2) (impl_stepsFrom.l1 (k + 1) y0 y1 y2)) ∧ (∀ y0 y1 y2 y3 y4 y5, LeO (impl_stepsFrom.l2 k y0 y1 y2 y3 y4 y5) (impl_stepsFrom.l2 (k + 1) y0 y1 y2 y3 y4 y5))
 | 0 => ⟨fun _ _ _ _ _ _ r h => by simp [impl_stepsFrom.l0] at h, fun _ _ _ r h => by simp [impl_stepsFrom.l1] at h, fun _ _ _ _ _ _ r h => by simp [impl_stepsFrom.l2] at h⟩
 | k + 1 => by
  obtain ⟨ih0, ih1, ih2⟩ := impl_stepsFrom.mono_l k
  refine ⟨?_, ?_, ?_⟩
  ·intro y0 y1 y2 y3 y4 y5
   unfold impl_stepsFrom.l0
   repeat' first
   | (with_reducible exact ih0 _ _ _ _ _ _)
   | (with_reducible exact ih1 _ _ _)
   | (with_reducible exact ih2 _ _ _ _ _ _)
   | (with_reducible exact LeO.refl _)
   | (with_reducible exact LeO.none _)
   | (with_reducible refine LeO.ite ?_ ?_)
   | (with_reducible refine LeO.bind ?_ (fun _ => ?_))
   | exact ih0 _ _ _ _ _ _
   | exact ih1 _ _ _
   | exact ih2 _ _ _ _ _ _
   | exact LeO.none _
   | refine LeO.ite ?_ ?_
   | refine LeO.bind ?_ (fun _ => ?_)
  ·intro y0 y1 y2
   unfold impl_stepsFrom.l1
   repeat' first
   | (with_reducible exact ih0 _ _ _ _ _ _)
   | (with_reducible exact ih1 _ _ _)
   | (with_reducible exact ih2 _ _ _ _ _ _)
   | (with_reducible exact LeO.refl _)
   | (with_reducible exact LeO.none _)
   | (with_reducible refine LeO.ite ?_ ?_)
   | (with_reducible refine LeO.bind ?_ (fun _ => ?_))
   | exact ih0 _ _ _ _ _ _
   | exact ih1 _ _ _
   | exact ih2 _ _ _ _ _ _
   | exact LeO.none _
   | refine LeO.ite ?_ ?_
   | refine LeO.bind ?_ (fun _ => ?_)
  ·intro y0 y1 y2 y3 y4 y5
   unfold impl_stepsFrom.l2
   repeat' first
   | (with_reducible exact ih0 _ _ _ _ _ _)
   | (with_reducible exact ih1 _ _ _)
   | (with_reducible exact ih2 _ _ _ _ _ _)
   | (with_reducible exact LeO.refl _)
   | (with_reducible exact LeO.none _)
   | (with_reducible refine LeO.ite ?_ ?_)
   | (with_reducible refine LeO.bind ?_ (fun _ => ?_))
   | exact ih0 _ _ _ _ _ _
   | exact ih1 _ _ _
   | exact ih2 _ _ _ _ _ _
   | exact LeO.none _
   | refine LeO.ite ?_ ?_
   | refine LeO.bind ?_ (fun _ => ?_)
theorem impl_stepsFrom.mono : ∀ a0 a1 k, LeO (impl_stepsFrom.f k a0 a1) (impl_stepsFrom.f (k + 1) a0 a1) := by
 intro a0 a1 k
 obtain ⟨ih0, ih1, ih2⟩ := impl_stepsFrom.mono_l k
 unfold impl_stepsFrom.f
 repeat' first
   | (with_reducible exact ih0 _ _ _ _ _ _)
   | (with_reducible exact ih1 _ _ _)
   | (with_reducible exact ih2 _ _ _ _ _ _)
   | (with_reducible exact LeO.refl _)
   | (with_reducible exact LeO.none _)
   | (with_reducible refine LeO.ite ?_ ?_)
   | (with_reducible refine LeO.bind ?_ (fun _ => ?_))
   | exact ih0 _ _ _ _ _ _
   | exact ih1 _ _ _
   | exact ih2 _ _ _ _ _ _
   | exact LeO.none _
   | refine LeO.ite ?_ ?_
   | refine LeO.bind ?_ (fun _ => ?_)
set_option maxHeartbeats 8000000 in
set_option maxRecDepth 100000 in
theorem impl_stepsFrom.calls (k : Nat) (A0 : Option Addr) (c0 : Nat) (l0 : List (List Int)) (A1 : Option Addr) (c1 : Nat) (l1 : List Int) (r : List Int) (w : World) (hr0 : Kd.C (Kd.slice 3 (Kd.int .i64)) w A0 l0.length l0) (hc0 : l0.length ≤ c0) (hr1 : Kd.C (Kd.int .i64) w A1 l1.length l1) (hc1 : l1.length ≤ c1) (h : impl_stepsFrom.f k l0 l1 = some r) :
  Calls Try.prog 139 #[.slice A0 l0.length c0, .slice A1 l1.length c1] w fun e w' => ∃ v0_ : Value, e = .returned (v0_) ∧ Kd.R (Kd.int .i64) 3 w' w.heap.size (fun _ => True) v0_ r ∧ Below w.heap.size w w' := by
 have HR0 := am_ hr0
 have HC0 := am_ hc0
 clear hr0 hc0
 have HR1 := am_ hr1
 have HC1 := am_ hc1
 clear hr1 hc1
 have HB := am_ (Below.refl w.heap.size w)
 have H : ((slices_Repeat_int_int.f (([(-1)] : List Int)) (l0.length : Int)).bind fun t567 => ((slices_Clone_int_int.f l1).bind fun t570 => (impl_stepsFrom.l0 k l0 t567 t570 l1 (l1.length : Int) 0))) = some r := h
 clear h
 obtain ⟨y564, hy564⟩ : ∃ y_ : List Int, y_ = (([(-1)] : List Int)) := ⟨_, rfl⟩
 replace H : ((slices_Repeat_int_int.f y564 (l0.length : Int)).bind fun t567 => ((slices_Clone_int_int.f l1).bind fun t570 => (impl_stepsFrom.l0 k l0 t567 t570 l1 (l1.length : Int) 0))) = some r := by first | (rw [hy564]; with_reducible exact H) | (have H2_ := (Option.bind_some _ _).symm.trans H; rw [hy564]; with_reducible exact H2_) | (have H2_ := (Option.bind_some _ _).symm.trans H; with_reducible exact H2_) | with_reducible exact H | (rw [hy564]; exact H) | exact H
 have Ny564 := am_ hy564
 clear hy564
 replace H := Option.bind_eq_some_iff.mp H
 obtain ⟨t567, A30, H⟩ := H
 replace H : ((slices_Clone_int_int.f l1).bind fun t570 => (impl_stepsFrom.l0 k l0 t567 t570 l1 (l1.length : Int) 0)) = some r := H
 have A3 := am_ A30
 clear A30
 replace H := Option.bind_eq_some_iff.mp H
 obtain ⟨t570, A40, H⟩ := H
 replace H : (impl_stepsFrom.l0 k l0 t567 t570 l1 (l1.length : Int) 0) = some r := H
 have A4 := am_ A40
 clear A40
 have H' := am_ H
 clear H
 go_enter Try.func139, Try.ntmps139
 go_wp2_with (first | ((with_reducible refine gate_dst (N := 11) rfl ?_); refine Kd.R_lit (Kd.int .i64) _ 3 ?hg (N := 11) ?hd (xs := ([(-1)] : List Int)) (inner := [.int .i64 (-1)]) (ok := fun _ => True) (okp := fun _ => True) ?hr ?hp (fun _ hk => hk) trivial (Below.refl _ _) (Nat.le_refl _) (by simp) ?_; (case hd => rfl); (case hg => rfl); (case hr => first | (go_simp; done) | (go_simp; rfl)); (case hp => exact (Reps.one (show Kd.M (Kd.int .i64) _ _ _ (-1) [.int .i64 (-1)] from rfl) (Reps.none _ _))); intro v565 w5 ho6 hb hg_ hnew_; clear hg_ hnew_; (first | rw [← Ny564.out] at ho6 | (simp only [Int.reduceToNat] at ho6; rw [← Ny564.out] at ho6)); have n0_ := am_ (Kd.R_lower ho6 (below_size Sh.bw)); have n1_ := am_ (below_step Sh.bw hb); clear HB; have HO566 := n0_; have HB := n1_; clear n0_ n1_; clear hb ho6; obtain ⟨Ao7, co7, eo7⟩ := Kd.R_slice HO566.out; subst eo7) | ((with_reducible refine gate_callee (f := 141) rfl ?_); refine Sh.gL (some 14) Try.func141 #[.slice Ao7 y564.length co7, .int .i64 (l0.length : Int)] (h := ?_); (with_reducible refine (slices_Repeat_int_int.calls _ _ y564 (l0.length : Int) t567 _ (Sh.cR (Kd.R_reads' HO566.out).2.2) (Kd.R_reads' HO566.out).2.1 A3.out).mono ?_); rintro e w8 ⟨v568, rfl, ho0, hb⟩; refine ⟨_, rfl, ?_⟩; have n0_ := am_ (Kd.R_elder' (by (with_reducible repeat (first | apply Kd.R_alloc | apply Kd.R_drewN | apply Kd.R_drew)); exact HO566.out) (Kd.R_base ho0) hb); have n1_ := am_ (Kd.R_lower (Kd.R_new' ho0 (Kd.R_lt (by (with_reducible repeat (first | apply Kd.R_alloc | apply Kd.R_drewN | apply Kd.R_drew)); exact HO566.out))) (below_size Sh.bw)); have n2_ := am_ (below_step Sh.bw hb); clear HO566; clear HB; have HO566 := n0_; have HO569 := n1_; have HB := n2_; clear n0_ n1_ n2_; (try clear hb); (try clear hb2); (try clear hk); (try clear hi); (try clear ho0)) | ((with_reducible refine gate_callee (f := 76) rfl ?_); refine Sh.gL (some 16) Try.func76 #[.slice A1 l1.length c1] (h := ?_); (with_reducible refine (slices_Clone_int_int.calls _ _ l1 t570 _ (Sh.cB HR1.out) HC1.out A4.out).mono ?_); rintro e w9 ⟨v571, rfl, ho0, hb⟩; refine ⟨_, rfl, ?_⟩; have n0_ := am_ (Kd.R_elder' (by (with_reducible repeat (first | apply Kd.R_alloc | apply Kd.R_drewN | apply Kd.R_drew)); exact HO566.out) (Kd.R_base ho0) hb); have n1_ := am_ (Kd.R_elder' (by (with_reducible repeat (first | apply Kd.R_alloc | apply Kd.R_drewN | apply Kd.R_drew)); exact HO569.out) (Kd.R_base ho0) hb); have n2_ := am_ (Kd.R_lower (Kd.R_new' (Kd.R_new' ho0 (Kd.R_lt (by (with_reducible repeat (first | apply Kd.R_alloc | apply Kd.R_drewN | apply Kd.R_drew)); exact HO566.out))) (Kd.R_lt (by (with_reducible repeat (first | apply Kd.R_alloc | apply Kd.R_drewN | apply Kd.R_drew)); exact HO569.out))) (below_size Sh.bw)); have n3_ := am_ (below_step Sh.bw hb); clear HO566; clear HO569; clear HB; have HO566 := n0_; have HO569 := n1_; have HO572 := n2_; have HB := n3_; clear n0_ n1_ n2_ n3_; (try clear hb); (try clear hb2); (try clear hk); (try clear hi); (try clear ho0)))
 go_loopg [19] k (fun kq v19 w' => ∃ (x5_1 : List Int) (x19_1 : Int), v19 = .int .i64 x19_1 ∧ Aside0 (impl_stepsFrom.l0 kq l0 x5_1 t570 l1 (l1.length : Int) x19_1 = some r) ∧ Aside0 (kq ≤ k) ∧ Aside0 (Kd.R (Kd.int .i64) 3 w' w.heap.size (fun k_ => some k_ ≠ (v571 : Value).ownBlock) v568 x5_1) ∧ Aside0 (Kd.Q (Kd.int .i64) 3 w' w.heap.size (fun k_ => some k_ ≠ (v568 : Value).ownBlock) v571 t570) ∧ Aside0 (Below w.heap.size w w'))
 case atStart => exact ⟨(t567), (0), (by first | rfl | (simp; done) | (simp [*]; done)), H', ⟨Nat.le_refl _⟩, ⟨by (with_reducible repeat (first | apply Kd.R_alloc | apply Kd.R_drewN | apply Kd.R_drew)); exact Kd.R_mono HO569.out (fun _ hk => hk.2)⟩, ⟨Kd.Q_of_R (by (with_reducible repeat (first | apply Kd.R_alloc | apply Kd.R_drewN | apply Kd.R_drew)); exact Kd.R_mono HO572.out (fun _ hk => hk.2))⟩, ⟨by repeat (first | (with_reducible first | exact HB.out | apply below_alloc | apply pw_below_drewN | apply below_drew1) | exact HB.out)⟩⟩
 case round =>
  clear H'
  try clear c1
  try clear p2
  try clear c7
  obtain ⟨x5_1, x19_1, rfl, HA, HK1, HO_5, HO_6, HB⟩ := hrel
  cases gk with
  | zero => exact absurd HA.out (by simp [impl_stepsFrom.l0])
  | succ k1 =>
   have H := HA.out
   clear HA
   simp only [impl_stepsFrom.l0] at H
   by_cases c10 : x19_1 < (l1.length : Int)
   ·rw [if_pos c10] at H
    have c10b0 : decide (x19_1 < (l1.length : Int)) = true := decide_eq_true c10
    clear c10
    by_cases c11 : 0 ≤ x19_1
    ·rw [if_pos c11] at H
     have c11b0 : decide (0 ≤ x19_1) = true := decide_eq_true c11
     clear c11
     by_cases c12 : x19_1 < (l1.length : Int)
     ·rw [if_pos c12] at H
      have c12b0 : decide (x19_1 < (l1.length : Int)) = true := decide_eq_true c12
      clear c12
      by_cases c13 : 0 ≤ (rd l1 x19_1)
      ·rw [if_pos c13] at H
       have c13b0 : decide (0 ≤ (rd l1 x19_1)) = true := decide_eq_true c13
       clear c13
       by_cases c14 : (rd l1 x19_1) < (x5_1.length : Int)
       ·rw [if_pos c14] at H
        have c14b0 : decide ((rd l1 x19_1) < (x5_1.length : Int)) = true := decide_eq_true c14
        clear c14
        obtain ⟨y574, hy574⟩ : ∃ y_ : List Int, y_ = (x5_1.set ((rd l1 x19_1) : Int).toNat 0) := ⟨_, rfl⟩
        replace H : (impl_stepsFrom.l0 k1 l0 y574 t570 l1 (l1.length : Int) (wrap64 (x19_1 + 1))) = some r := by first | (rw [hy574]; with_reducible exact H) | (have H2_ := (Option.bind_some _ _).symm.trans H; rw [hy574]; with_reducible exact H2_) | (have H2_ := (Option.bind_some _ _).symm.trans H; with_reducible exact H2_) | with_reducible exact H | (rw [hy574]; exact H) | exact H
        have Ny574 := am_ hy574
        clear hy574
        have H' := am_ H
        clear H
        have p573 : 0 ≤ (x19_1 : Int) := of_decide_eq_true (by first | (with_reducible assumption) | assumption)
        have q573 : x19_1 < (l1.length : Int) := of_decide_eq_true (by first | (with_reducible assumption) | assumption)
        obtain ⟨ad573, e573, hx573_0⟩ := Kd.at_int HR1.out x19_1 p573 q573
        cases e573
        (try replace hx573_0 := (HB.out.cell (World.block_lt_of_cell? w _ hx573_0)).trans hx573_0)
        replace p573 := eq_true p573
        replace q573 := eq_true q573
        have p15 : 0 ≤ ((rd l1 x19_1) : Int) := of_decide_eq_true (by first | (with_reducible assumption) | assumption)
        have q15 : ((rd l1 x19_1) : Int) < ((x5_1.length : Int) : Int) := of_decide_eq_true (by first | (with_reducible assumption) | assumption)
        obtain ⟨go15, co15, eo15, gb15, gl15, cl15, HG15⟩ := Kd.R_form HO_5.out (by omega)
        (first | cases eo15 | (injection eo15 with ea_ en_ ec_; (first | subst ea_ | (injection ea_ with ea_; subst ea_)); subst ec_; clear en_))
        have GB15 := am_ gb15
        have GG15 := am_ HG15
        clear gb15 gl15 HG15
        obtain ⟨hx15_0, hf15_0⟩ := Kd.R_celln 0 HO_5.out ((rd l1 x19_1) : Int) p15 q15
        replace p15 := eq_true p15
        replace q15 := eq_true q15
        have HP16 := Kd.R_putg HO_5.out ((rd l1 x19_1) : Int) 0
        go_wp2_with (first | ((with_reducible refine gate_store (t := 3) (p := 25) rfl ?_); refine store_event (t := 3) (p := 25) (v := ?vo_w17) (w1 := (wr.setCell ⟨go15, ((rd l1 x19_1) : Int).toNat, none⟩ (.int .i64 0))) ?hg ?ho ?hn ?hr ?_; (case ho => rfl); (case hg => rfl); (case hn => rfl); (case hr => first | (go_simp; done) | (go_simp; rfl)); intro w17 hw; have hg : wr.grownBy w17 (some go15) := (by rw [hw]; exact HP16.2); have hp_ : Kd.R (Kd.int .i64) 3 w17 w.heap.size (fun k_ => some k_ ≠ (v571 : Value).ownBlock) (.slice (some ⟨go15, 0, none⟩) x5_1.length co15) y574 := (by rw [hw, Ny574.out]; exact HP16.1); clear HP16; have n0_ := am_ (hp_); have n1_ := am_ (Kd.Q_after (v := (.slice (some ⟨go15, 0, none⟩) x5_1.length co15)) (v1 := (.slice (some ⟨go15, 0, none⟩) x5_1.length co15)) (ok := (fun _ => True)) (by (with_reducible repeat (first | apply Kd.Q_alloc | apply Kd.Q_drewN | apply Kd.Q_drew)); exact Kd.Q_mono HO_6.out (fun _ hk => ⟨trivial, hk⟩)) hg (.inl rfl)); have n2_ := am_ ((by rw [hw]; exact below_set (HB.out) GB15.out : Below w.heap.size w w17)); clear HO_5; clear HO_6; clear HB; have HO_5 := n0_; have HO_6 := n1_; have HB := n2_; clear n0_ n1_ n2_; clear hg hw hp_))
        go_roundg k1
        case measure => have := HK1.out; omega
        case rel => exact ⟨(y574), (wrap64 (x19_1 + 1)), (by first | rfl | (simp; done) | (simp [*]; done)), H', ⟨by have := HK1.out; omega⟩, ⟨by (with_reducible repeat (first | apply Kd.R_alloc | apply Kd.R_drewN | apply Kd.R_drew)); exact HO_5.out⟩, ⟨by (with_reducible repeat (first | apply Kd.Q_alloc | apply Kd.Q_drewN | apply Kd.Q_drew)); exact Kd.Q_mono HO_6.out (fun _ hk => hk.2)⟩, ⟨by repeat (first | (with_reducible first | exact HB.out | apply below_alloc | apply pw_below_drewN | apply below_drew1) | exact HB.out)⟩⟩
       ·rw [if_neg c14] at H
        exact absurd H (by simp)
      ·rw [if_neg c13] at H
       exact absurd H (by simp)
     ·rw [if_neg c12] at H
      exact absurd H (by simp)
    ·rw [if_neg c11] at H
     exact absurd H (by simp)
   ·rw [if_neg c10] at H
    have c10b0 : decide (x19_1 < (l1.length : Int)) = false := decide_eq_false c10
    clear c10
    have H' := am_ H
    clear H
    go_wp2
    go_loopg [6] k1 (fun kq v6 w' => ∃ (x5_2 : List Int) (x6_2 : List Int), Aside0 (impl_stepsFrom.l1 kq l0 x5_2 x6_2 = some r) ∧ Aside0 (kq ≤ k1) ∧ Aside0 (Kd.R (Kd.int .i64) 3 w' w.heap.size (fun k_ => some k_ ≠ (v6 : Value).ownBlock) v568 x5_2) ∧ Aside0 (Kd.Q (Kd.int .i64) 3 w' w.heap.size (fun k_ => some k_ ≠ (v568 : Value).ownBlock) v6 x6_2) ∧ Aside0 (Below w.heap.size w w'))
    case atStart => exact ⟨(x5_1), (t570), H', ⟨Nat.le_refl _⟩, ⟨by (with_reducible repeat (first | apply Kd.R_alloc | apply Kd.R_drewN | apply Kd.R_drew)); exact HO_5.out⟩, ⟨by (with_reducible repeat (first | apply Kd.Q_alloc | apply Kd.Q_drewN | apply Kd.Q_drew)); exact HO_6.out⟩, ⟨by repeat (first | (with_reducible first | exact HB.out | apply below_alloc | apply pw_below_drewN | apply below_drew1) | exact HB.out)⟩⟩
    case round =>
     clear H'
     try clear c1
     try clear p1
     try clear q1
     try clear hx1
     try clear p2
     try clear p5
     try clear q5
     try clear hx5
     try clear p6
     try clear c7
     try clear c10
     try clear c10b0
     try clear c11
     try clear c11b0
     try clear c12
     try clear c12b0
     try clear c13
     try clear c13b0
     try clear c14
     try clear c14b0
     try clear p15
     try clear q15
     try clear hx15
     try clear hf15
     try clear hx15_0
     try clear hx573_0
     try clear p15
     try clear p2
     try clear p573
     try clear q15
     try clear q573
     obtain ⟨x5_2, x6_2, HA, HK2, HO_5, HO_6, HB⟩ := hrel
     cases gk with
     | zero => exact absurd HA.out (by simp [impl_stepsFrom.l1])
     | succ k2 =>
      have H := HA.out
      clear HA
      simp only [impl_stepsFrom.l1] at H
      by_cases c18 : (x6_2.length : Int) > 0
      ·rw [if_pos c18] at H
       have c18b0 : decide (0 < (x6_2.length : Int)) = true := decide_eq_true c18
       have c18b1 : decide (0 < x6_2.length) = true := decide_eq_true (by omega)
       clear c18
       by_cases c19 : 0 < (x6_2.length : Int)
       ·rw [if_pos c19] at H
        have c19b0 : decide (0 < (x6_2.length : Int)) = true := decide_eq_true c19
        have c19b1 : decide (0 < x6_2.length) = true := decide_eq_true (by omega)
        clear c19
        by_cases c20 : 0 ≤ (rd x6_2 0)
        ·rw [if_pos c20] at H
         have c20b0 : decide (0 ≤ (rd x6_2 0)) = true := decide_eq_true c20
         clear c20
         by_cases c21 : (rd x6_2 0) < (l0.length : Int)
         ·rw [if_pos c21] at H
          have c21b0 : decide ((rd x6_2 0) < (l0.length : Int)) = true := decide_eq_true c21
          clear c21
          have H' := am_ H
          clear H
          obtain ⟨Ao22, co22, eo22, _⟩ := Kd.Q_slice HO_6.out
          subst eo22
          have p575 : 0 ≤ (0 : Int) := (by omega)
          have q575 : 0 < (x6_2.length : Int) := of_decide_eq_true (by first | (with_reducible assumption) | assumption)
          obtain ⟨ad575, e575, hx575_0⟩ := Kd.at_int (Kd.Q_reads' HO_6.out).2.2 0 p575 q575
          cases e575
          have qi575 : (0 < x6_2.length) = True := eq_true (by omega)
          (try rw [show ((0 : Int)).toNat = 0 from rfl] at hx575_0)
          (try rw [Addr.add_zero'] at hx575_0)
          replace p575 := eq_true p575
          replace q575 := eq_true q575
          have p576 : 0 ≤ ((rd x6_2 0) : Int) := of_decide_eq_true (by first | (with_reducible assumption) | assumption)
          have q576 : (rd x6_2 0) < (l0.length : Int) := of_decide_eq_true (by first | (with_reducible assumption) | assumption)
          obtain ⟨ad576, A576_0, c576_0, e576, hx576_0, hl576_0, hi576_0⟩ := at_L1 HR0.out (rd x6_2 0) p576 q576
          cases e576
          (try replace hx576_0 := (HB.out.cell (World.block_lt_of_cell? w _ hx576_0)).trans hx576_0)
          have HR576_0 := am_ hi576_0
          have HC576_0 := am_ hl576_0
          clear hi576_0 hl576_0
          replace p576 := eq_true p576
          replace q576 := eq_true q576
          go_wp2
          go_loopg [6, 39] k2 (fun kq v6 v39 w' => ∃ (x5_3 : List Int) (x6_3 : List Int) (x39_3 : Int), v39 = .int .i64 x39_3 ∧ Aside0 (impl_stepsFrom.l2 kq l0 x5_3 x6_3 (rd_L1 l0 (rd x6_2 0)) ((rd_L1 l0 (rd x6_2 0)).length : Int) x39_3 = some r) ∧ Aside0 (kq ≤ k2) ∧ Aside0 (Kd.R (Kd.int .i64) 3 w' w.heap.size (fun k_ => some k_ ≠ (v6 : Value).ownBlock) v568 x5_3) ∧ Aside0 (Kd.Q (Kd.int .i64) 3 w' w.heap.size (fun k_ => some k_ ≠ (v568 : Value).ownBlock) v6 x6_3) ∧ Aside0 (Below w.heap.size w w'))
          case atStart => exact ⟨(x5_2), (x6_2), (0), (by first | rfl | (simp; done) | (simp [*]; done)), H', ⟨Nat.le_refl _⟩, ⟨by (with_reducible repeat (first | apply Kd.R_alloc | apply Kd.R_drewN | apply Kd.R_drew)); exact HO_5.out⟩, ⟨by (with_reducible repeat (first | apply Kd.Q_alloc | apply Kd.Q_drewN | apply Kd.Q_drew)); exact HO_6.out⟩, ⟨by repeat (first | (with_reducible first | exact HB.out | apply below_alloc | apply pw_below_drewN | apply below_drew1) | exact HB.out)⟩⟩
          case round =>
           clear H'
           try clear c1
           try clear p1
           try clear q1
           try clear hx1
           try clear c2
           try clear p2
           try clear c5
           try clear p5
           try clear q5
           try clear hx5
           try clear qi5
           try clear p6
           try clear c7
           try clear c10
           try clear c10b0
           try clear c11
           try clear c11b0
           try clear c12
           try clear c12b0
           try clear c13
           try clear c13b0
           try clear c14
           try clear c14b0
           try clear p15
           try clear q15
           try clear hx15
           try clear hf15
           try clear c18
           try clear c18b0
           try clear c18b1
           try clear c19
           try clear c19b0
           try clear c19b1
           try clear c20
           try clear c20b0
           try clear c21
           try clear c21b0
           try clear hx15_0
           try clear hx573_0
           try clear hx575_0
           try clear hx576_0
           try clear p1
           try clear p15
           try clear p2
           try clear p5
           try clear p573
           try clear p575
           try clear p576
           try clear p6
           try clear q1
           try clear q15
           try clear q5
           try clear q573
           try clear q575
           try clear q576
           obtain ⟨x5_3, x6_3, x39_3, rfl, HA, HK3, HO_5, HO_6, HB⟩ := hrel
           cases gk with
           | zero => exact absurd HA.out (by simp [impl_stepsFrom.l2])
           | succ k3 =>
            have H := HA.out
            clear HA
            simp only [impl_stepsFrom.l2] at H
            by_cases c23 : x39_3 < ((rd_L1 l0 (rd x6_2 0)).length : Int)
            ·rw [if_pos c23] at H
             have c23b0 : decide (x39_3 < ((rd_L1 l0 (rd x6_2 0)).length : Int)) = true := decide_eq_true c23
             clear c23
             by_cases c24 : 0 ≤ x39_3
             ·rw [if_pos c24] at H
              have c24b0 : decide (0 ≤ x39_3) = true := decide_eq_true c24
              clear c24
              by_cases c25 : x39_3 < ((rd_L1 l0 (rd x6_2 0)).length : Int)
              ·rw [if_pos c25] at H
               have c25b0 : decide (x39_3 < ((rd_L1 l0 (rd x6_2 0)).length : Int)) = true := decide_eq_true c25
               clear c25
               by_cases c26 : 0 ≤ (rd (rd_L1 l0 (rd x6_2 0)) x39_3)
               ·rw [if_pos c26] at H
                have c26b0 : decide (0 ≤ (rd (rd_L1 l0 (rd x6_2 0)) x39_3)) = true := decide_eq_true c26
                clear c26
                by_cases c27 : (rd (rd_L1 l0 (rd x6_2 0)) x39_3) < (x5_3.length : Int)
                ·rw [if_pos c27] at H
                 have c27b0 : decide ((rd (rd_L1 l0 (rd x6_2 0)) x39_3) < (x5_3.length : Int)) = true := decide_eq_true c27
                 clear c27
                 by_cases c28 : (rd x5_3 (rd (rd_L1 l0 (rd x6_2 0)) x39_3)) < 0
                 ·rw [if_pos c28] at H
                  have c28b0 : decide ((rd x5_3 (rd (rd_L1 l0 (rd x6_2 0)) x39_3)) < 0) = true := decide_eq_true c28
                  clear c28
                  by_cases c29 : 0 < (x6_3.length : Int)
                  ·rw [if_pos c29] at H
                   have c29b0 : decide (0 < (x6_3.length : Int)) = true := decide_eq_true c29
                   have c29b1 : decide (0 < x6_3.length) = true := decide_eq_true (by omega)
                   clear c29
                   by_cases c30 : 0 ≤ (rd x6_3 0)
                   ·rw [if_pos c30] at H
                    have c30b0 : decide (0 ≤ (rd x6_3 0)) = true := decide_eq_true c30
                    clear c30
                    by_cases c31 : (rd x6_3 0) < (x5_3.length : Int)
                    ·rw [if_pos c31] at H
                     have c31b0 : decide ((rd x6_3 0) < (x5_3.length : Int)) = true := decide_eq_true c31
                     clear c31
                     obtain ⟨y581, hy581⟩ : ∃ y_ : List Int, y_ = (x5_3.set ((rd (rd_L1 l0 (rd x6_2 0)) x39_3) : Int).toNat (wrap64 ((rd x5_3 (rd x6_3 0)) + 1))) := ⟨_, rfl⟩
                     replace H : (if x6_3.length < 17592186044416 then (impl_stepsFrom.l2 k3 l0 y581 (x6_3 ++ [rd (rd_L1 l0 (rd x6_2 0)) x39_3]) (rd_L1 l0 (rd x6_2 0)) ((rd_L1 l0 (rd x6_2 0)).length : Int) (wrap64 (x39_3 + 1))) else (none)) = some r := by first | (rw [hy581]; with_reducible exact H) | (have H2_ := (Option.bind_some _ _).symm.trans H; rw [hy581]; with_reducible exact H2_) | (have H2_ := (Option.bind_some _ _).symm.trans H; with_reducible exact H2_) | with_reducible exact H | (rw [hy581]; exact H) | exact H
                     have Ny581 := am_ hy581
                     clear hy581
                     by_cases c33 : x6_3.length < 17592186044416
                     ·rw [if_pos c33] at H
                      have LMc33 := am_ c33
                      clear c33
                      obtain ⟨y582, hy582⟩ : ∃ y_ : List Int, y_ = (x6_3 ++ [rd (rd_L1 l0 (rd x6_2 0)) x39_3]) := ⟨_, rfl⟩
                      replace H : (impl_stepsFrom.l2 k3 l0 y581 y582 (rd_L1 l0 (rd x6_2 0)) ((rd_L1 l0 (rd x6_2 0)).length : Int) (wrap64 (x39_3 + 1))) = some r := by first | (rw [hy582]; with_reducible exact H) | (have H2_ := (Option.bind_some _ _).symm.trans H; rw [hy582]; with_reducible exact H2_) | (have H2_ := (Option.bind_some _ _).symm.trans H; with_reducible exact H2_) | with_reducible exact H | (rw [hy582]; exact H) | exact H
                      have Ny582 := am_ hy582
                      clear hy582
                      have H' := am_ H
                      clear H
                      have p577 : 0 ≤ (x39_3 : Int) := of_decide_eq_true (by first | (with_reducible assumption) | assumption)
                      have q577 : x39_3 < ((rd_L1 l0 (rd x6_2 0)).length : Int) := of_decide_eq_true (by first | (with_reducible assumption) | assumption)
                      obtain ⟨ad577, e577, hx577_0⟩ := Kd.at_int HR576_0.out x39_3 p577 q577
                      cases e577
                      (try replace hx577_0 := (HB.out.cell (World.block_lt_of_cell? w _ hx577_0)).trans hx577_0)
                      replace p577 := eq_true p577
                      replace q577 := eq_true q577
                      obtain ⟨Ao34, co34, eo34⟩ := Kd.R_slice HO_5.out
                      subst eo34
                      have p578 : 0 ≤ ((rd (rd_L1 l0 (rd x6_2 0)) x39_3) : Int) := of_decide_eq_true (by first | (with_reducible assumption) | assumption)
                      have q578 : (rd (rd_L1 l0 (rd x6_2 0)) x39_3) < (x5_3.length : Int) := of_decide_eq_true (by first | (with_reducible assumption) | assumption)
                      obtain ⟨ad578, e578, hx578_0⟩ := Kd.at_int (Kd.R_reads' HO_5.out).2.2 (rd (rd_L1 l0 (rd x6_2 0)) x39_3) p578 q578
                      cases e578
                      replace p578 := eq_true p578
                      replace q578 := eq_true q578
                      obtain ⟨Ao35, co35, eo35, _⟩ := Kd.Q_slice HO_6.out
                      subst eo35
                      have p579 : 0 ≤ (0 : Int) := (by omega)
                      have q579 : 0 < (x6_3.length : Int) := of_decide_eq_true (by first | (with_reducible assumption) | assumption)
                      obtain ⟨ad579, e579, hx579_0⟩ := Kd.at_int (Kd.Q_reads' HO_6.out).2.2 0 p579 q579
                      cases e579
                      have qi579 : (0 < x6_3.length) = True := eq_true (by omega)
                      (try rw [show ((0 : Int)).toNat = 0 from rfl] at hx579_0)
                      (try rw [Addr.add_zero'] at hx579_0)
                      replace p579 := eq_true p579
                      replace q579 := eq_true q579
                      have p580 : 0 ≤ ((rd x6_3 0) : Int) := of_decide_eq_true (by first | (with_reducible assumption) | assumption)
                      have q580 : (rd x6_3 0) < (x5_3.length : Int) := of_decide_eq_true (by first | (with_reducible assumption) | assumption)
                      obtain ⟨ad580, e580, hx580_0⟩ := Kd.at_int (Kd.R_reads' HO_5.out).2.2 (rd x6_3 0) p580 q580
                      obtain rfl : ad578 = ad580 := (by injection e580)
                      replace p580 := eq_true p580
                      replace q580 := eq_true q580
                      have p32 : 0 ≤ ((rd (rd_L1 l0 (rd x6_2 0)) x39_3) : Int) := of_decide_eq_true (by first | (with_reducible assumption) | assumption)
                      have q32 : ((rd (rd_L1 l0 (rd x6_2 0)) x39_3) : Int) < ((x5_3.length : Int) : Int) := of_decide_eq_true (by first | (with_reducible assumption) | assumption)
                      obtain ⟨go32, co32, eo32, gb32, gl32, cl32, HG32⟩ := Kd.R_form HO_5.out (by omega)
                      (first | cases eo32 | (injection eo32 with ea_ en_ ec_; (first | subst ea_ | (injection ea_ with ea_; subst ea_)); subst ec_; clear en_))
                      have GB32 := am_ gb32
                      have GG32 := am_ HG32
                      clear gb32 gl32 HG32
                      (first | simp only [add_plain] at hx578_0 | skip)
                      (first | simp only [add_plain] at hx580_0 | skip)
                      obtain ⟨hx32_0, hf32_0⟩ := Kd.R_celln 0 HO_5.out ((rd (rd_L1 l0 (rd x6_2 0)) x39_3) : Int) p32 q32
                      replace p32 := eq_true p32
                      replace q32 := eq_true q32
                      have HP36 := Kd.R_putg HO_5.out ((rd (rd_L1 l0 (rd x6_2 0)) x39_3) : Int) (wrap64 ((rd x5_3 (rd x6_3 0)) + 1))
                      go_wp2_with (first | ((with_reducible refine gate_store (t := 3) (p := 57) rfl ?_); refine store_event (t := 3) (p := 57) (v := ?vo_w37) (w1 := (wr.setCell ⟨go32, ((rd (rd_L1 l0 (rd x6_2 0)) x39_3) : Int).toNat, none⟩ (.int .i64 (wrap64 ((rd x5_3 (rd x6_3 0)) + 1))))) ?hg ?ho ?hn ?hr ?_; (case ho => rfl); (case hg => rfl); (case hn => rfl); (case hr => first | (go_simp; done) | (go_simp; rfl)); intro w37 hw; have hg : wr.grownBy w37 (some go32) := (by rw [hw]; exact HP36.2); have hp_ : Kd.R (Kd.int .i64) 3 w37 w.heap.size (fun k_ => some k_ ≠ (.slice (some ad579) x6_3.length co35 : Value).ownBlock) (.slice (some ⟨go32, 0, none⟩) x5_3.length co34) y581 := (by rw [hw, Ny581.out]; exact HP36.1); clear HP36; have n0_ := am_ (hp_); have n1_ := am_ (Kd.Q_after (v := (.slice (some ⟨go32, 0, none⟩) x5_3.length co34)) (v1 := (.slice (some ⟨go32, 0, none⟩) x5_3.length co34)) (ok := (fun _ => True)) (by (with_reducible repeat (first | apply Kd.Q_alloc | apply Kd.Q_drewN | apply Kd.Q_drew)); exact Kd.Q_mono HO_6.out (fun _ hk => ⟨trivial, hk⟩)) hg (.inl rfl)); have n2_ := am_ ((by rw [hw]; exact below_set (HB.out) GB32.out : Below w.heap.size w w37)); clear HO_5; clear HO_6; clear HB; have HO_5 := n0_; have HO_6 := n1_; have HB := n2_; clear n0_ n1_ n2_; clear hg hw hp_) | ((with_reducible refine gate_builtin (b := .append) (xs := #[.tmp 58, .tmp 60]) rfl ?_); at_builtin; refine Kd.Q_append (Kd.int .i64) (w0 := w) w.heap.size rfl (.tmp 58) (.tmp 60) 31 3 (.int .i64 0) 8 rfl Try.underlying31 info3 rfl (by decide) (by omega) (.slice (some ad579) x6_3.length co35) x6_3 (rd (rd_L1 l0 (rd x6_2 0)) x39_3) [.int .i64 (rd (rd_L1 l0 (rd x6_2 0)) x39_3)] (fun k_ => some k_ ≠ (.slice (some ⟨go32, 0, none⟩) x5_3.length co34 : Value).ownBlock) (fun _ => False) rfl rfl ?aP (fun _ hk => hk.elim) ?aF ?aO ?aB ?aS ?aL ?_; (case aP => exact rfl); (case aB => exact Sh.bw); (case aF => exact (fun k_ hk => Kd.fresh' (Kd.R_lt (by (with_reducible repeat (first | apply Kd.R_alloc | apply Kd.R_drewN | apply Kd.R_drew)); exact HO_5.out)) k_ hk)); (case aO => exact (by (with_reducible repeat (first | apply Kd.Q_alloc | apply Kd.Q_drewN | apply Kd.Q_drew)); exact Kd.Q_mono HO_6.out (fun _ hk => hk.2))); (case aS => exact (below_size Sh.bw)); (case aL => have := LMc33.out; omega); intro v583 w38 ho hb hg hat; rw [← Ny582.out] at ho; have n0_ := am_ (Kd.R_after (ok := (fun _ => True)) (by (with_reducible repeat (first | apply Kd.R_alloc | apply Kd.R_drewN | apply Kd.R_drew)); exact Kd.R_mono HO_5.out (fun _ hk => ⟨trivial, hk⟩)) hg hat); have n1_ := am_ (hb); have n2_ := am_ (ho); clear HO_5; clear HB; clear HO_6; have HO_5 := n0_; have HB := n1_; have HO584 := n2_; clear n0_ n1_ n2_; clear ho hb hg hat))
                      go_roundg k3
                      case measure => have := HK1.out; have := HK2.out; have := HK3.out; omega
                      case rel => exact ⟨(y581), (y582), (wrap64 (x39_3 + 1)), (by first | rfl | (simp; done) | (simp [*]; done)), H', ⟨by have := HK1.out; have := HK2.out; have := HK3.out; omega⟩, ⟨by (with_reducible repeat (first | apply Kd.R_alloc | apply Kd.R_drewN | apply Kd.R_drew)); exact Kd.R_mono HO_5.out (fun _ hk => hk.2)⟩, ⟨by (with_reducible repeat (first | apply Kd.Q_alloc | apply Kd.Q_drewN | apply Kd.Q_drew)); exact HO584.out⟩, ⟨by repeat (first | (with_reducible first | exact HB.out | apply below_alloc | apply pw_below_drewN | apply below_drew1) | exact HB.out)⟩⟩
                     ·rw [if_neg c33] at H
                      exact absurd H (by simp)
                    ·rw [if_neg c31] at H
                     exact absurd H (by simp)
                   ·rw [if_neg c30] at H
                    exact absurd H (by simp)
                  ·rw [if_neg c29] at H
                   exact absurd H (by simp)
                 ·rw [if_neg c28] at H
                  have c28b0 : decide ((rd x5_3 (rd (rd_L1 l0 (rd x6_2 0)) x39_3)) < 0) = false := decide_eq_false c28
                  clear c28
                  have H' := am_ H
                  clear H
                  have p577 : 0 ≤ (x39_3 : Int) := of_decide_eq_true (by first | (with_reducible assumption) | assumption)
                  have q577 : x39_3 < ((rd_L1 l0 (rd x6_2 0)).length : Int) := of_decide_eq_true (by first | (with_reducible assumption) | assumption)
                  obtain ⟨ad577, e577, hx577_0⟩ := Kd.at_int HR576_0.out x39_3 p577 q577
                  cases e577
                  (try replace hx577_0 := (HB.out.cell (World.block_lt_of_cell? w _ hx577_0)).trans hx577_0)
                  replace p577 := eq_true p577
                  replace q577 := eq_true q577
                  obtain ⟨Ao39, co39, eo39⟩ := Kd.R_slice HO_5.out
                  subst eo39
                  have p578 : 0 ≤ ((rd (rd_L1 l0 (rd x6_2 0)) x39_3) : Int) := of_decide_eq_true (by first | (with_reducible assumption) | assumption)
                  have q578 : (rd (rd_L1 l0 (rd x6_2 0)) x39_3) < (x5_3.length : Int) := of_decide_eq_true (by first | (with_reducible assumption) | assumption)
                  obtain ⟨ad578, e578, hx578_0⟩ := Kd.at_int (Kd.R_reads' HO_5.out).2.2 (rd (rd_L1 l0 (rd x6_2 0)) x39_3) p578 q578
                  cases e578
                  replace p578 := eq_true p578
                  replace q578 := eq_true q578
                  go_wp2
                  go_roundg k3
                  case measure => have := HK1.out; have := HK2.out; have := HK3.out; omega
                  case rel => exact ⟨(x5_3), (x6_3), (wrap64 (x39_3 + 1)), (by first | rfl | (simp; done) | (simp [*]; done)), H', ⟨by have := HK1.out; have := HK2.out; have := HK3.out; omega⟩, ⟨by (with_reducible repeat (first | apply Kd.R_alloc | apply Kd.R_drewN | apply Kd.R_drew)); exact HO_5.out⟩, ⟨by (with_reducible repeat (first | apply Kd.Q_alloc | apply Kd.Q_drewN | apply Kd.Q_drew)); exact HO_6.out⟩, ⟨by repeat (first | (with_reducible first | exact HB.out | apply below_alloc | apply pw_below_drewN | apply below_drew1) | exact HB.out)⟩⟩
                ·rw [if_neg c27] at H
                 exact absurd H (by simp)
               ·rw [if_neg c26] at H
                exact absurd H (by simp)
              ·rw [if_neg c25] at H
               exact absurd H (by simp)
             ·rw [if_neg c24] at H
              exact absurd H (by simp)
            ·rw [if_neg c23] at H
             have c23b0 : decide (x39_3 < ((rd_L1 l0 (rd x6_2 0)).length : Int)) = false := decide_eq_false c23
             clear c23
             by_cases c40 : 1 ≤ (x6_3.length : Int)
             ·rw [if_pos c40] at H
              have c40b0 := eq_true c40
              have c40b1 : decide (1 ≤ (x6_3.length : Int)) = true := decide_eq_true c40
              clear c40
              obtain ⟨y585, hy585⟩ : ∃ y_ : List Int, y_ = (x6_3.drop (1 : Int).toNat) := ⟨_, rfl⟩
              replace H : (impl_stepsFrom.l1 k3 l0 x5_3 y585) = some r := by first | (rw [hy585]; with_reducible exact H) | (have H2_ := (Option.bind_some _ _).symm.trans H; rw [hy585]; with_reducible exact H2_) | (have H2_ := (Option.bind_some _ _).symm.trans H; with_reducible exact H2_) | with_reducible exact H | (rw [hy585]; exact H) | exact H
              have Ny585 := am_ hy585
              clear hy585
              have H' := am_ H
              clear H
              obtain ⟨Ao41, co41, eo41, _⟩ := Kd.Q_slice HO_6.out
              subst eo41
              have q42 : (1 : Int) ≤ ((x6_3.length : Int) : Int) := of_decide_eq_true (by first | (with_reducible assumption) | assumption)
              obtain ⟨i042, hi042, _, hsz42, _⟩ := info_parts info3
              have hcut42 := cut_from (P := Try.prog) 31 3 .i64 Try.underlying31 hi042 1 hsz42 Ao41 x6_3.length co41 1 (by omega) q42
              have hr42 := Kd.Q_drop (k := (1 : Int).toNat) HO_6.out (by omega)
              obtain ⟨A42, hA42⟩ : ∃ A1, A1 = (if co41 = (1 : Int).toNat then Ao41 else (Ao41 : Option Addr).map (·.add ((1 : Int).toNat * 1))) := ⟨_, rfl⟩
              obtain ⟨c42, hc42⟩ : ∃ c1, c1 = co41 - (1 : Int).toNat := ⟨_, rfl⟩
              have hy42 : y585.length = x6_3.length - (1 : Int).toNat := (by rw [Ny585.out, List.length_drop])
              rw [← Ny585.out] at hr42
              rw [← hy42, ← hA42, ← hc42] at hcut42
              replace hr42 : Kd.Q (Kd.int .i64) 3 wr w.heap.size (fun k_ => some k_ ≠ (v568 : Value).ownBlock) (.slice A42 y585.length c42) y585 := (by rw [hA42, hc42, hy42]; exact hr42)
              have HE42 : Aside0 ((Value.slice A42 y585.length c42).ownBlock = (.slice Ao41 x6_3.length co41 : Value).ownBlock) := ⟨by rw [hA42]; split <;> (cases (Ao41 : Option Addr) <;> rfl)⟩
              clear hy42 hi042 hsz42 HO_6 hA42 hc42
              have HO587 := am_ hr42
              clear hr42
              replace q42 := eq_true q42
              have n_ := am_ (Kd.R_mono (ok' := fun k_ => some k_ ≠ (.slice A42 y585.length c42 : Value).ownBlock) HO_5.out (fun k_ hk => (by rw [HE42.out]; exact hk)))
              clear HO_5
              have HO_5 := n_
              clear n_
              go_wp2
              go_roundg k3
              case measure => have := HK1.out; have := HK2.out; have := HK3.out; omega
              case rel => exact ⟨(x5_3), (y585), H', ⟨by have := HK1.out; have := HK2.out; have := HK3.out; omega⟩, ⟨by (with_reducible repeat (first | apply Kd.R_alloc | apply Kd.R_drewN | apply Kd.R_drew)); exact HO_5.out⟩, ⟨by (with_reducible repeat (first | apply Kd.Q_alloc | apply Kd.Q_drewN | apply Kd.Q_drew)); exact HO587.out⟩, ⟨by repeat (first | (with_reducible first | exact HB.out | apply below_alloc | apply pw_below_drewN | apply below_drew1) | exact HB.out)⟩⟩
             ·rw [if_neg c40] at H
              exact absurd H (by simp)
         ·rw [if_neg c21] at H
          exact absurd H (by simp)
        ·rw [if_neg c20] at H
         exact absurd H (by simp)
       ·rw [if_neg c19] at H
        exact absurd H (by simp)
      ·rw [if_neg c18] at H
       have c18b0 : decide (0 < (x6_2.length : Int)) = false := decide_eq_false c18
       have c18b1 : decide (0 < x6_2.length) = false := decide_eq_false (by omega)
       clear c18
       obtain rfl := Option.some.inj H
       obtain ⟨Ao43, co43, eo43, _⟩ := Kd.Q_slice HO_6.out
       subst eo43
       go_wp2
       go_ret
       exact ⟨_, Sh.eR, by (with_reducible repeat (first | apply Kd.R_alloc | apply Kd.R_drewN | apply Kd.R_drew)); exact Kd.R_mono HO_5.out (fun _ hk => trivial), Sh.bw⟩

end Go.Proofs.Ytbgbidgnlioomaa.P
namespace Go.Proofs.Ytbgbidgnlioomaa.P
open Go.RowKit Go.Proofs.YtbgbidgnlioomaaW.PrintWords Go.Proofs.YtbgbidgnlioomaaW.PrintLast Go.Proofs.YtbgbidgnlioomaaW.PrintMore Go.Proofs.Ytbgbidgnlioomaa.Hof
attribute [local go_sem] max2_int min2_int max_two min_two max_three min_three max_four min_four   -- for this text's walks alone
set_option linter.unusedVariables false
set_option linter.unusedSimpArgs false

/-! ### laws_markIntSS: function 85 -/
def laws_markIntSS.f (k : Nat) : List (List (Int)) → Int → Option (Int × List (List (Int)))
 | [], a => some (a, [])
 | x :: t, a => (laws_markIntS.f k x a).bind fun b => (laws_markIntSS.f k t b.1).bind fun c => some (c.1, b.2 :: c.2)
theorem laws_markIntSS.len (k : Nat) : ∀ (l : List (List (Int))) (a r1 : Int) (r2 : List (List (Int))), laws_markIntSS.f k l a = some (r1, r2) → r2.length = l.length
 | [], a, r1, r2, h => by
  simp only [laws_markIntSS.f, Option.some.injEq, Prod.mk.injEq] at h
  rw [← h.2]
 | x :: t, a, r1, r2, h => by
  simp only [laws_markIntSS.f] at h
  obtain ⟨b, hb, h⟩ := Option.bind_eq_some_iff.mp h
  obtain ⟨c, hc, h⟩ := Option.bind_eq_some_iff.mp h
  simp only [Option.some.injEq, Prod.mk.injEq] at h
  rw [← h.2, List.length_cons, List.length_cons, laws_markIntSS.len k t b.1 c.1 c.2 hc]
/-- The rows inside a row of rows of one's own: outer cells, and each inner row by itself. -/
def laws_markIntSS.I (P0 : Nat → Prop) (f : Nat → Nat) (base : Nat) (v : Value) (n : Nat) (inner : List Value) (W : World) (L : List (List (Int))) : Prop :=
 W.ownsRow base 31 1 v n inner ∧ L.length = n ∧ ∀ i, i < n → ∃ u, inner[i]? = some u ∧ Kd.R (Kd.int .i64) 3 W base (fun k => (P0 k ∧ some k ≠ v.ownBlock) ∧ f k = i) u (L.getD i [])
theorem laws_markIntSS.split {P0 : Nat → Prop} {base : Nat} {v : Value} {W : World} {l : List (List (Int))} (h : Kd.S (Kd.slice 3 (Kd.int .i64)) 31 W base P0 v l) :
  ∃ f inner, (∀ k, v.ownBlock = some k → P0 k) ∧ laws_markIntSS.I P0 f base v l.length inner W l := by
 obtain ⟨f, hok, inner, hown, hrep⟩ := h
 rw [List.length_zipIdx] at hown
 refine ⟨f, inner, hok, hown, rfl, fun i hi => ?_⟩
 obtain ⟨u, hu, hr⟩ := hrep.2 i (l[i], i) (by rw [List.getElem?_zipIdx, List.getElem?_eq_getElem hi]; simp)
 rw [show (Kd.tag f (Kd.slice 3 (Kd.int .i64))).sz = 1 from rfl, Nat.mul_one] at hu
 refine ⟨u, ?_, ?_⟩
 ·have := congrArg (fun c => c[0]?) hu
  simpa [List.getElem?_take, List.getElem?_drop] using this
 ·rw [List.getD_eq_getElem?_getD, List.getElem?_eq_getElem hi]; exact hr
theorem laws_markIntSS.join {P0 : Nat → Prop} {f : Nat → Nat} {base : Nat} {v : Value} {inner : List Value} {W : World} {L : List (List (Int))} (hok : ∀ k, v.ownBlock = some k → P0 k) (h : laws_markIntSS.I P0 f base v L.length inner W L) :
  Kd.S (Kd.slice 3 (Kd.int .i64)) 31 W base P0 v L := by
 obtain ⟨hown, _, hr⟩ := h
 refine ⟨f, hok, inner, by rw [List.length_zipIdx]; exact hown, ?_, fun j p hj => ?_⟩
 ·rw [List.length_zipIdx]; exact hown.1
 ·rw [List.getElem?_zipIdx] at hj
  obtain ⟨x, hx, rfl⟩ := Option.map_eq_some_iff.1 hj
  have hi := (List.getElem?_eq_some_iff.1 hx).1
  obtain ⟨u, hu, h1⟩ := hr j hi
  refine ⟨u, ?_, ?_⟩
  ·rw [show (Kd.tag f (Kd.slice 3 (Kd.int .i64))).sz = 1 from rfl, Nat.mul_one]
   have hl := hown.1
   apply List.ext_getElem?
   intro q
   rw [List.getElem?_take, List.getElem?_drop]
   by_cases hq : q < 1
   ·obtain rfl : q = 0 := by omega
    simpa using hu
   ·rw [if_neg hq]; rw [List.getElem?_eq_none (by simp; omega)]
  ·rw [List.getD_eq_getElem?_getD, hx] at h1
   simpa using h1
theorem laws_markIntSS.drop_consM {l : List (List (Int))} {j : Nat} (h : j < l.length) : l.drop j = l.getD j [] :: l.drop (j + 1) := by
 rw [List.drop_eq_getElem_cons h]
 simp [List.getD_eq_getElem?_getD, List.getElem?_eq_getElem h]
set_option maxHeartbeats 4000000 in
set_option maxRecDepth 100000 in
theorem laws_markIntSS.calls (k : Nat) (P0_ : Nat → Prop) (u9000_ : Value) (l0 : List (List (Int))) (a1 : Int) (r1 : Int) (r2 : List (List (Int))) (w0 w : World) (hB : Below w0.heap.size w0 w) (ho0 : Kd.S (Kd.slice 3 (Kd.int .i64)) 31 w w0.heap.size P0_ u9000_ l0) (h : laws_markIntSS.f k l0 a1 = some (r1, r2)) :
  Calls Try.prog 85 #[u9000_, .int .i64 a1] w fun e w' => e = .returned (.int .i64 r1) ∧ Kd.S (Kd.slice 3 (Kd.int .i64)) 31 w' w0.heap.size P0_ u9000_ r2 ∧ Below w0.heap.size w0 w' ∧ Kept w w' (fun k_ => P0_ k_) := by
 obtain ⟨f, inner, hok, hI⟩ := laws_markIntSS.split ho0
 have hn : l0.length ≤ 9223372036854775807 := (Kd.S_reads ho0).choose_spec.choose_spec.2.2.2.1
 obtain ⟨A, c, hv⟩ := Kd.S_slice ho0
 subst hv
 have HH := am_ h
 have HO := am_ hok
 have HI := am_ hI
 have HB := am_ hB
 have HK := am_ (Kept.refl w P0_)
 clear h hok hI hB ho0
 go_enter Try.func85, Try.ntmps85
 go_wp2
 go_loopg [1, 5] l0.length (fun gg v1 v5 wr => ∃ (j : Nat) (a : Int) (d t : List (List (Int))), j ≤ l0.length ∧ l0.length - j ≤ gg ∧ v1 = .int .i64 a ∧ v5 = .int .i64 j ∧ d.length = j ∧ Aside0 (laws_markIntSS.f k (l0.drop j) a = some (r1, t)) ∧ Aside0 (d ++ t = r2) ∧ Aside0 (laws_markIntSS.I P0_ f w0.heap.size (.slice A l0.length c) l0.length inner wr (d ++ l0.drop j)) ∧ Aside0 (Below w0.heap.size w0 wr) ∧ Aside0 (Kept w wr P0_))
 case atStart => exact ⟨0, a1, [], r2, Nat.zero_le _, by omega, rfl, rfl, rfl, HH, ⟨rfl⟩, HI, HB, HK⟩
 case round =>
  obtain ⟨j, a, d, t, hj, hg, rfl, rfl, hd, HF, HT, HI2, HB2, HK2⟩ := hrel
  clear HH HI HB HK
  by_cases hlt : j < l0.length
  ·have hltz : (j : Int) < (l0.length : Int) := by omega
   have hF := HF.out
   rw [laws_markIntSS.drop_consM hlt] at hF
   simp only [laws_markIntSS.f] at hF
   obtain ⟨b, hb0, hF⟩ := Option.bind_eq_some_iff.mp hF
   obtain ⟨cc, hc0, hF⟩ := Option.bind_eq_some_iff.mp hF
   simp only [Option.some.injEq, Prod.mk.injEq] at hF
   obtain ⟨rfl, rfl⟩ := hF
   obtain ⟨hown, hL, hrs⟩ := HI2.out
   obtain ⟨u, hu, hru⟩ := hrs j hlt
   have eL : (d ++ l0.drop j).getD j [] = l0.getD j [] := by
    rw [List.getD_eq_getElem?_getD, List.getElem?_append_right (by omega), hd, Nat.sub_self, List.getElem?_drop, List.getD_eq_getElem?_getD]; simp
   rw [eL] at hru
   obtain ⟨hl1, ⟨e1, hz⟩ | ⟨g, cap, cur, e1, hbg, hcur, hcap, _, hsz1, htake⟩⟩ := id hown
   ·omega
   have eA : A = some ⟨g, 0, none⟩ := by injection e1
   subst eA
   have hx : wr.cell? ⟨g, j, none⟩ = some u := by
    refine (blk_cell hcur j).trans ?_
    rw [← htake, List.getElem?_take] at hu
    rw [if_pos (by omega)] at hu
    simpa using hu
   have HF2 := am_ (And.intro hb0 hc0)
   have HRU := am_ hru
   have HRS := am_ hrs
   have HOW := am_ hown
   clear hF hb0 hc0 hru hrs hown hl1 e1 hbg hcur hcap hsz1 htake hL
   go_wp2_with (first | (go_at_call 53; go_loud (refine (laws_markIntS.calls k _ u (l0.getD j []) a b.1 b.2 w0 _ HB2.out HRU.out HF2.out.1).mono ?_); rintro e w' ⟨rfl, hR, hb, hkp⟩))
   go_roundg (l0.length - (j + 1))
   case measure => omega
   case rel =>
    refine ⟨j + 1, b.1, d ++ [b.2], cc.2, by omega, by omega, rfl, by go_num, by simp [hd], ⟨HF2.out.2⟩, ⟨by rw [← HT.out]; simp⟩, ⟨?_, ?_, ?_⟩, ⟨hb⟩, ⟨HK2.out.then_ hkp (fun k_ hk => .inl hk.1.1)⟩⟩
    ·exact own_move HOW.out (fun k_ hk => hkp.2 k_ (own_lt HOW.out k_ hk) (fun h_ => h_.1.2 hk.symm))
    ·simp [hd]; omega
    ·intro i hi
     by_cases hij : i = j
     ·subst hij
      refine ⟨u, hu, ?_⟩
      rw [show (d ++ [b.2] ++ l0.drop (i + 1)).getD i [] = b.2 by rw [List.getD_eq_getElem?_getD, List.append_assoc, List.getElem?_append_right (by omega), hd, Nat.sub_self]; simp]
      exact Kd.R_reok rfl hR (fun k_ e_ => HRU.out.1 k_ e_)
     ·obtain ⟨u2, hu2, hr2⟩ := HRS.out i hi
      refine ⟨u2, hu2, ?_⟩
      rw [show (d ++ [b.2] ++ l0.drop (j + 1)).getD i [] = (d ++ l0.drop j).getD i [] by
       rw [laws_markIntSS.drop_consM hlt, List.getD_eq_getElem?_getD, List.getD_eq_getElem?_getD]
       rcases Nat.lt_or_ge i j with h1 | h1
       ·rw [List.append_assoc, List.getElem?_append_left (by omega), List.getElem?_append_left (by omega)]
       ·have e1 : (d ++ ([b.2] ++ l0.drop (j + 1)))[i]? = ([b.2] ++ l0.drop (j + 1))[i - d.length]? := List.getElem?_append_right (by omega)
        have e2 : (d ++ (l0.getD j [] :: l0.drop (j + 1)))[i]? = (l0.getD j [] :: l0.drop (j + 1))[i - d.length]? := List.getElem?_append_right (by omega)
        rw [List.append_assoc, e1, e2, hd]
        obtain ⟨q, hq⟩ : ∃ q, i - j = q + 1 := ⟨i - j - 1, by omega⟩
        rw [hq]; simp]
      exact Kd.R_step hr2 (fun k_ hk hlt2 => hkp.2 k_ hlt2 (fun h_ => hij (hk.2.symm.trans h_.2)))
  ·have hltz : ¬ (j : Int) < (l0.length : Int) := by omega
   have hF := HF.out
   rw [List.drop_of_length_le (by omega)] at hF
   simp only [laws_markIntSS.f, Option.some.injEq, Prod.mk.injEq] at hF
   obtain ⟨rfl, rfl⟩ := hF
   go_wp2
   go_ret
   have hI := HI2.out
   rw [List.drop_of_length_le (by omega), HT.out] at hI
   have hl2 : r2.length = l0.length := hI.2.1
   refine ⟨rfl, ?_, HB2.out, HK2.out⟩
   rw [← hl2] at hI ⊢
   exact laws_markIntSS.join (f := f) (inner := inner) (by rw [hl2]; exact HO.out) hI

end Go.Proofs.Ytbgbidgnlioomaa.P
namespace Go.Proofs.Ytbgbidgnlioomaa.P
open Go.RowKit Go.Proofs.YtbgbidgnlioomaaW.PrintWords Go.Proofs.YtbgbidgnlioomaaW.PrintLast Go.Proofs.YtbgbidgnlioomaaW.PrintMore Go.Proofs.Ytbgbidgnlioomaa.Hof
attribute [local go_sem] max2_int min2_int max_two min_two max_three min_three max_four min_four   -- for this text's walks alone
set_option linter.unusedVariables false
set_option linter.unusedSimpArgs false

/-! ### laws_markGraph: function 34 -/
abbrev laws_markGraph.f := laws_markIntSS.f
set_option maxHeartbeats 4000000 in
theorem laws_markGraph.calls (k : Nat) (P0_0_ : Nat → Prop) (u9000_ : Value) (l0_0 : List (List (Int))) (a1 : Int) (r1 : Int) (r2 : List (List (Int))) (w0 w : World) (hB : Below w0.heap.size w0 w) (ho0_0 : Kd.S (Kd.slice 3 (Kd.int .i64)) 31 w w0.heap.size P0_0_ u9000_ l0_0) (h : laws_markGraph.f k l0_0 a1 = some (r1, r2)) :
  Calls Try.prog 34 #[.agg #[u9000_], .int .i64 a1] w fun e w' => e = .returned (.int .i64 r1) ∧ Kd.S (Kd.slice 3 (Kd.int .i64)) 31 w' w0.heap.size P0_0_ u9000_ r2 ∧ Below w0.heap.size w0 w' ∧ Kept w w' (fun k_ => P0_0_ k_) := by
 obtain ⟨A, c, hv⟩ := Kd.S_slice ho0_0
 subst hv
 have hu46 := Try.underlying46
 have HB := am_ hB
 have HO := am_ ho0_0
 have HH := am_ h
 clear hB ho0_0 h
 go_enter Try.func34, Try.ntmps34
 go_wp2_with (first | (go_at_call 85; go_loud (refine (laws_markIntSS.calls k P0_0_ (.slice A l0_0.length c) l0_0 a1 r1 r2 w0 _ (below_alloc HB.out _) (Kd.S_alloc HO.out _) HH.out).mono ?_); rintro e w' ⟨rfl, hs, hb, hk⟩))
 go_ret
 exact ⟨rfl, hs, hb, (Kept.alloc (Kept.refl w P0_0_) _).then_ hk (fun _ h_ => .inl h_)⟩

end Go.Proofs.Ytbgbidgnlioomaa.P
namespace Go.Proofs.Ytbgbidgnlioomaa.P
open Go.RowKit Go.Proofs.YtbgbidgnlioomaaW.PrintWords Go.Proofs.YtbgbidgnlioomaaW.PrintLast Go.Proofs.YtbgbidgnlioomaaW.PrintMore Go.Proofs.Ytbgbidgnlioomaa.Hof
attribute [local go_sem] max2_int min2_int max_two min_two max_three min_three max_four min_four   -- for this text's walks alone
set_option linter.unusedVariables false
set_option linter.unusedSimpArgs false

/-! ### spec_l11Turn: function 80 -/
mutual
def spec_l11Turn.l0 : Nat → List (List Int) → List (List Int) → Int → Int → Option ((List (List Int)))
 | 0, _, _, _, _ => none
 | k + 1, x3, x11, x12, x13 => if x13 < x12 then (if 0 ≤ x13 then (if x13 < (x11.length : Int) then (spec_l11Turn.l1 k x3 x13 x11 x12 x13 (rd_L1 x11 x13) ((rd_L1 x11 x13).length : Int) 0) else (none)) else (none)) else (some x3)
def spec_l11Turn.l1 : Nat → List (List Int) → Int → List (List Int) → Int → Int → List Int → Int → Int → Option ((List (List Int)))
 | 0, _, _, _, _, _, _, _, _ => none
 | k + 1, x3, x4, x11, x12, x13, x18, x19, x20 => if x20 < x19 then (if 0 ≤ x20 then (if x20 < (x18.length : Int) then (if 0 ≤ (rd x18 x20) then (if (rd x18 x20) < (x3.length : Int) then (if (rd_L1 x3 (rd x18 x20)).length < 17592186044416 then (spec_l11Turn.l1 k (x3.set ((rd x18 x20) : Int).toNat ((rd_L1 x3 (rd x18 x20)) ++ [x4])) x4 x11 x12 x13 x18 x19 (wrap64 (x20 + 1))) else (none)) else (none)) else (none)) else (none)) else (none)) else (spec_l11Turn.l0 k x3 x11 x12 (wrap64 (x13 + 1)))
end
def spec_l11Turn.f (k : Nat) (l0 : List (List Int)) : Option ((List (List Int))) := if 0 ≤ (l0.length : Int) then (if ((l0.length : Int) : Int).toNat ≤ 11728124029610 then (spec_l11Turn.l0 k (List.replicate ((l0.length : Int) : Int).toNat []) l0 (l0.length : Int) 0) else (none)) else (none)
theorem spec_l11Turn.mono_l : ∀ k, (∀ y0 y1 y2 y3, LeO (spec_l11Turn.l0 k y0 y1 y2 y3) (spec_l11Turn.l0 (k + 1) y0 y1 y2 y3)) ∧ (∀ y0 y1 y2 y3 y4 y5 y6 y7, LeO (spec_l11Turn.l1 k y0 y1 y2 y3 y4 y5 y6 y7) (spec_l11Turn.l1 (k + 1) y0 y1 y2 y3 y4 y5 y6 y7))
 | 0 => ⟨fun _ _ _ _ r h => by simp [spec_l11Turn.l0] at h, fun _ _ _ _ _ _ _ _ r h => by simp [spec_l11Turn.l1] at h⟩
 | k + 1 => by
  obtain ⟨ih0, ih1⟩ := spec_l11Turn.mono_l k
  refine ⟨?_, ?_⟩
  ·intro y0 y1 y2 y3
   unfold spec_l11Turn.l0
   repeat' first
   | (with_reducible exact ih0 _ _ _ _)
   | (with_reducible exact ih1 _ _ _ _ _ _ _ _)
   | (with_reducible exact LeO.refl _)
   | (with_reducible exact LeO.none _)
   | (with_reducible refine LeO.ite ?_ ?_)
   | (with_reducible refine LeO.bind ?_ (fun _ => ?_))
   | exact ih0 _ _ _ _
   | exact ih1 _ _ _ _ _ _ _ _
   | exact LeO.none _
   | refine LeO.ite ?_ ?_
   | refine LeO.bind ?_ (fun _ => ?_)
  ·intro y0 y1 y2 y3 y4 y5 y6 y7
   unfold spec_l11Turn.l1
   repeat' first
   | (with_reducible exact ih0 _ _ _ _)
   | (with_reducible exact ih1 _ _ _ _ _ _ _ _)
   | (with_reducible exact LeO.refl _)
   | (with_reducible exact LeO.none _)
   | (with_reducible refine LeO.ite ?_ ?_)
   | (with_reducible refine LeO.bind ?_ (fun _ => ?_))
   | exact ih0 _ _ _ _
   | exact ih1 _ _ _ _ _ _ _ _
   | exact LeO.none _
   | refine LeO.ite ?_ ?_
   | refine LeO.bind ?_ (fun _ => ?_)
theorem spec_l11Turn.mono : ∀ a0 k, LeO (spec_l11Turn.f k a0) (spec_l11Turn.f (k + 1) a0) := by
 intro a0 k
 obtain ⟨ih0, ih1⟩ := spec_l11Turn.mono_l k
 unfold spec_l11Turn.f
 repeat' first
   | (with_reducible exact ih0 _ _ _ _)
   | (with_reducible exact ih1 _ _ _ _ _ _ _ _)
   | (with_reducible exact LeO.refl _)
   | (with_reducible exact LeO.none _)
   | (with_reducible refine LeO.ite ?_ ?_)
   | (with_reducible refine LeO.bind ?_ (fun _ => ?_))
   | exact ih0 _ _ _ _
   | exact ih1 _ _ _ _ _ _ _ _
   | exact LeO.none _
   | refine LeO.ite ?_ ?_
   | refine LeO.bind ?_ (fun _ => ?_)
set_option maxHeartbeats 8000000 in
set_option maxRecDepth 100000 in
theorem spec_l11Turn.calls (k : Nat) (A0 : Option Addr) (c0 : Nat) (l0 : List (List Int)) (r : List (List Int)) (w : World) (hr0 : Kd.C (Kd.slice 3 (Kd.int .i64)) w A0 l0.length l0) (hc0 : l0.length ≤ c0) (h : spec_l11Turn.f k l0 = some r) :
  Calls Try.prog 80 #[.slice A0 l0.length c0] w fun e w' => ∃ v0_ : Value, e = .returned (v0_) ∧ Kd.S (Kd.slice 3 (Kd.int .i64)) 31 w' w.heap.size (fun _ => True) v0_ r ∧ Below w.heap.size w w' := by
 have HR0 := am_ hr0
 have HC0 := am_ hc0
 clear hr0 hc0
 have HB := am_ (Below.refl w.heap.size w)
 have H : (if 0 ≤ (l0.length : Int) then (if ((l0.length : Int) : Int).toNat ≤ 11728124029610 then (spec_l11Turn.l0 k (List.replicate ((l0.length : Int) : Int).toNat []) l0 (l0.length : Int) 0) else (none)) else (none)) = some r := h
 clear h
 by_cases c2 : 0 ≤ (l0.length : Int)
 ·rw [if_pos c2] at H
  have c2b0 := eq_true c2
  have c2b1 : decide (0 ≤ (l0.length : Int)) = true := decide_eq_true c2
  clear c2
  by_cases c3 : ((l0.length : Int) : Int).toNat ≤ 11728124029610
  ·rw [if_pos c3] at H
   have c3b0 := eq_true c3
   have c3b1 : decide (((l0.length : Int) : Int).toNat ≤ 11728124029610) = true := decide_eq_true c3
   clear c3
   obtain ⟨y625, hy625⟩ : ∃ y_ : List (List Int), y_ = (List.replicate ((l0.length : Int) : Int).toNat []) := ⟨_, rfl⟩
   replace H : (spec_l11Turn.l0 k y625 l0 (l0.length : Int) 0) = some r := by first | (rw [hy625]; with_reducible exact H) | (have H2_ := (Option.bind_some _ _).symm.trans H; rw [hy625]; with_reducible exact H2_) | (have H2_ := (Option.bind_some _ _).symm.trans H; with_reducible exact H2_) | with_reducible exact H | (rw [hy625]; exact H) | exact H
   have Ny625 := am_ hy625
   clear hy625
   have H' := am_ H
   clear H
   go_enter Try.func80, Try.ntmps80
   go_wp2_with (first | ((with_reducible refine gate_dst (N := 10) rfl ?_); refine Kd.S_make (Kd.slice 3 (Kd.int .i64)) _ 31 rfl (N := 10) rfl 42 _ _ rfl (l0.length : Int) rfl rfl Try.underlying42 (.slice none 0 0) 24 info31 rfl (by decide) (by omega) [] (ok := fun _ => True) (okp := fun _ => True) ⟨_, rfl, Kd.R_nil _ _ _ _ _⟩ (fun _ hk => hk) trivial (of_decide_eq_true (by first | (with_reducible assumption) | assumption)) (Nat.le_trans (Nat.mul_le_mul_right _ (of_decide_eq_true (by first | (with_reducible assumption) | assumption) : (l0.length : Int).toNat ≤ 11728124029610)) (by omega)) (Below.refl _ _) (Nat.le_refl _) ?_; intro v626 w4 ho5 hb hg_ hnew_; clear hg_ hnew_; (first | rw [← Ny625.out] at ho5 | (simp only [Int.reduceToNat] at ho5; rw [← Ny625.out] at ho5)); have n0_ := am_ (Kd.S_lower ho5 (below_size Sh.bw)); have n1_ := am_ (below_step Sh.bw hb); clear HB; have HO627 := n0_; have HB := n1_; clear n0_ n1_; clear hb ho5))
   go_loopg [13] k (fun kq v13 w' => ∃ (x3_1 : List (List Int)) (x13_1 : Int), v13 = .int .i64 x13_1 ∧ Aside0 (spec_l11Turn.l0 kq x3_1 l0 (l0.length : Int) x13_1 = some r) ∧ Aside0 (kq ≤ k) ∧ Aside0 (Kd.S (Kd.slice 3 (Kd.int .i64)) 31 w' w.heap.size (fun _ => True) v626 x3_1) ∧ Aside0 (Below w.heap.size w w'))
   case atStart => exact ⟨(y625), (0), (by first | rfl | (simp; done) | (simp [*]; done)), H', ⟨Nat.le_refl _⟩, ⟨by (with_reducible repeat (first | apply Kd.S_alloc | apply Kd.S_drewN | apply Kd.S_drew)); exact HO627.out⟩, ⟨by repeat (first | (with_reducible first | exact HB.out | apply below_alloc | apply pw_below_drewN | apply below_drew1) | exact HB.out)⟩⟩
   case round =>
    clear H'
    try clear c2
    try clear c2b0
    try clear c2b1
    try clear p2
    try clear c3
    try clear c3b0
    try clear c3b1
    obtain ⟨x3_1, x13_1, rfl, HA, HK1, HO_3, HB⟩ := hrel
    cases gk with
    | zero => exact absurd HA.out (by simp [spec_l11Turn.l0])
    | succ k1 =>
     have H := HA.out
     clear HA
     simp only [spec_l11Turn.l0] at H
     by_cases c6 : x13_1 < (l0.length : Int)
     ·rw [if_pos c6] at H
      have c6b0 : decide (x13_1 < (l0.length : Int)) = true := decide_eq_true c6
      clear c6
      by_cases c7 : 0 ≤ x13_1
      ·rw [if_pos c7] at H
       have c7b0 : decide (0 ≤ x13_1) = true := decide_eq_true c7
       clear c7
       by_cases c8 : x13_1 < (l0.length : Int)
       ·rw [if_pos c8] at H
        have c8b0 : decide (x13_1 < (l0.length : Int)) = true := decide_eq_true c8
        clear c8
        have H' := am_ H
        clear H
        have p628 : 0 ≤ (x13_1 : Int) := of_decide_eq_true (by first | (with_reducible assumption) | assumption)
        have q628 : x13_1 < (l0.length : Int) := of_decide_eq_true (by first | (with_reducible assumption) | assumption)
        obtain ⟨ad628, A628_0, c628_0, e628, hx628_0, hl628_0, hi628_0⟩ := at_L1 HR0.out x13_1 p628 q628
        cases e628
        (try replace hx628_0 := (HB.out.cell (World.block_lt_of_cell? w _ hx628_0)).trans hx628_0)
        have HR628_0 := am_ hi628_0
        have HC628_0 := am_ hl628_0
        clear hi628_0 hl628_0
        replace p628 := eq_true p628
        replace q628 := eq_true q628
        go_wp2
        go_loopg [20] k1 (fun kq v20 w' => ∃ (x3_2 : List (List Int)) (x20_2 : Int), v20 = .int .i64 x20_2 ∧ Aside0 (spec_l11Turn.l1 kq x3_2 x13_1 l0 (l0.length : Int) x13_1 (rd_L1 l0 x13_1) ((rd_L1 l0 x13_1).length : Int) x20_2 = some r) ∧ Aside0 (kq ≤ k1) ∧ Aside0 (Kd.S (Kd.slice 3 (Kd.int .i64)) 31 w' w.heap.size (fun _ => True) v626 x3_2) ∧ Aside0 (Below w.heap.size w w'))
        case atStart => exact ⟨(x3_1), (0), (by first | rfl | (simp; done) | (simp [*]; done)), H', ⟨Nat.le_refl _⟩, ⟨by (with_reducible repeat (first | apply Kd.S_alloc | apply Kd.S_drewN | apply Kd.S_drew)); exact HO_3.out⟩, ⟨by repeat (first | (with_reducible first | exact HB.out | apply below_alloc | apply pw_below_drewN | apply below_drew1) | exact HB.out)⟩⟩
        case round =>
         clear H'
         try clear c2
         try clear c2b0
         try clear c2b1
         try clear p2
         try clear c3
         try clear c3b0
         try clear c3b1
         try clear c6
         try clear c6b0
         try clear p6
         try clear q6
         try clear hx6
         try clear c7
         try clear c7b0
         try clear c8
         try clear c8b0
         try clear hx628_0
         try clear p2
         try clear p628
         try clear q628
         obtain ⟨x3_2, x20_2, rfl, HA, HK2, HO_3, HB⟩ := hrel
         cases gk with
         | zero => exact absurd HA.out (by simp [spec_l11Turn.l1])
         | succ k2 =>
          have H := HA.out
          clear HA
          simp only [spec_l11Turn.l1] at H
          by_cases c9 : x20_2 < ((rd_L1 l0 x13_1).length : Int)
          ·rw [if_pos c9] at H
           have c9b0 : decide (x20_2 < ((rd_L1 l0 x13_1).length : Int)) = true := decide_eq_true c9
           clear c9
           by_cases c10 : 0 ≤ x20_2
           ·rw [if_pos c10] at H
            have c10b0 : decide (0 ≤ x20_2) = true := decide_eq_true c10
            clear c10
            by_cases c11 : x20_2 < ((rd_L1 l0 x13_1).length : Int)
            ·rw [if_pos c11] at H
             have c11b0 : decide (x20_2 < ((rd_L1 l0 x13_1).length : Int)) = true := decide_eq_true c11
             clear c11
             by_cases c12 : 0 ≤ (rd (rd_L1 l0 x13_1) x20_2)
             ·rw [if_pos c12] at H
              have c12b0 : decide (0 ≤ (rd (rd_L1 l0 x13_1) x20_2)) = true := decide_eq_true c12
              clear c12
              by_cases c13 : (rd (rd_L1 l0 x13_1) x20_2) < (x3_2.length : Int)
              ·rw [if_pos c13] at H
               have c13b0 : decide ((rd (rd_L1 l0 x13_1) x20_2) < (x3_2.length : Int)) = true := decide_eq_true c13
               clear c13
               by_cases c14 : (rd_L1 x3_2 (rd (rd_L1 l0 x13_1) x20_2)).length < 17592186044416
               ·rw [if_pos c14] at H
                have LMc14 := am_ c14
                clear c14
                obtain ⟨y631, hy631⟩ : ∃ y_ : List Int, y_ = ((rd_L1 x3_2 (rd (rd_L1 l0 x13_1) x20_2)) ++ [x13_1]) := ⟨_, rfl⟩
                replace H : (spec_l11Turn.l1 k2 (x3_2.set ((rd (rd_L1 l0 x13_1) x20_2) : Int).toNat y631) x13_1 l0 (l0.length : Int) x13_1 (rd_L1 l0 x13_1) ((rd_L1 l0 x13_1).length : Int) (wrap64 (x20_2 + 1))) = some r := by first | (rw [hy631]; with_reducible exact H) | (have H2_ := (Option.bind_some _ _).symm.trans H; rw [hy631]; with_reducible exact H2_) | (have H2_ := (Option.bind_some _ _).symm.trans H; with_reducible exact H2_) | with_reducible exact H | (rw [hy631]; exact H) | exact H
                have Ny631 := am_ hy631
                clear hy631
                obtain ⟨y634, hy634⟩ : ∃ y_ : List (List Int), y_ = (x3_2.set ((rd (rd_L1 l0 x13_1) x20_2) : Int).toNat y631) := ⟨_, rfl⟩
                replace H : (spec_l11Turn.l1 k2 y634 x13_1 l0 (l0.length : Int) x13_1 (rd_L1 l0 x13_1) ((rd_L1 l0 x13_1).length : Int) (wrap64 (x20_2 + 1))) = some r := by first | (rw [hy634]; with_reducible exact H) | (have H2_ := (Option.bind_some _ _).symm.trans H; rw [hy634]; with_reducible exact H2_) | (have H2_ := (Option.bind_some _ _).symm.trans H; with_reducible exact H2_) | with_reducible exact H | (rw [hy634]; exact H) | exact H
                have Ny634 := am_ hy634
                clear hy634
                have H' := am_ H
                clear H
                have p629 : 0 ≤ (x20_2 : Int) := of_decide_eq_true (by first | (with_reducible assumption) | assumption)
                have q629 : x20_2 < ((rd_L1 l0 x13_1).length : Int) := of_decide_eq_true (by first | (with_reducible assumption) | assumption)
                obtain ⟨ad629, e629, hx629_0⟩ := Kd.at_int HR628_0.out x20_2 p629 q629
                cases e629
                (try replace hx629_0 := (HB.out.cell (World.block_lt_of_cell? w _ hx629_0)).trans hx629_0)
                replace p629 := eq_true p629
                replace q629 := eq_true q629
                obtain ⟨Ao16, co16, eo16⟩ := Kd.S_slice HO_3.out
                subst eo16
                have p630 : 0 ≤ ((rd (rd_L1 l0 x13_1) x20_2) : Int) := of_decide_eq_true (by first | (with_reducible assumption) | assumption)
                have q630 : (rd (rd_L1 l0 x13_1) x20_2) < (x3_2.length : Int) := of_decide_eq_true (by first | (with_reducible assumption) | assumption)
                obtain ⟨ad630, A630_0, c630_0, e630, hx630_0, hl630_0, hi630_0⟩ := at_L1 (Kd.S_reads' HO_3.out).2.2 (rd (rd_L1 l0 x13_1) x20_2) p630 q630
                cases e630
                obtain ⟨ce630, hce630, hMe630, hcc630⟩ := Kd.S_get HO_3.out [] (rd (rd_L1 l0 x13_1) x20_2) p630 (by first | exact q630 | exact of_decide_eq_true (by first | (with_reducible assumption) | assumption) | (have e_ := (Kd.S_reads' HO_3.out).1; omega))
                obtain ⟨ve630_0, rfl, ge630_0⟩ := hMe630
                have hv630_0 := hcc630 0 _ rfl
                rw [Nat.add_zero, show ((Kd.slice 3 (Kd.int .i64))).sz = 1 from rfl, Nat.mul_one] at hv630_0
                replace hv630_0 := Option.some.inj (hv630_0.symm.trans hx630_0)
                rw [hv630_0] at ge630_0
                have HL630_0 := am_ (show Kd.R (Kd.int .i64) 3 _ _ _ _ (rd_L1 x3_2 (rd (rd_L1 l0 x13_1) x20_2)) from ge630_0)
                clear hv630_0 ge630_0
                have HX630_0 := am_ hx630_0
                clear hcc630 hce630
                have HR630_0 := am_ hi630_0
                have HC630_0 := am_ hl630_0
                clear hi630_0 hl630_0
                replace p630 := eq_true p630
                replace q630 := eq_true q630
                obtain ⟨go17, co17, eo17, gb17, gl17, cl17, HG17⟩ := Kd.S_form HO_3.out (by have h_ : ((rd (rd_L1 l0 x13_1) x20_2) : Int) < ((x3_2.length : Int) : Int) := of_decide_eq_true (by first | (with_reducible assumption) | assumption); have h2_ : 0 ≤ ((rd (rd_L1 l0 x13_1) x20_2) : Int) := (of_decide_eq_true (by first | (with_reducible assumption) | assumption)); omega)
                (first | cases eo17 | (injection eo17 with ea_ en_ ec_; (first | subst ea_ | (injection ea_ with ea_; subst ea_)); subst ec_; clear en_))
                have GB17 := am_ gb17
                have GG17 := am_ HG17
                clear gb17 gl17 HG17
                (first | simp only [add_plain] at hx630_0 | skip)
                obtain ⟨oki17, ce17, hcl17, hM17, hcc17, _, _, hH17⟩ := Kd.S_elem HO_3.out [] ((rd (rd_L1 l0 x13_1) x20_2) : Int) (of_decide_eq_true (by first | (with_reducible assumption) | assumption)) (by have h_ : ((rd (rd_L1 l0 x13_1) x20_2) : Int) < ((x3_2.length : Int) : Int) := of_decide_eq_true (by first | (with_reducible assumption) | assumption); first | exact h_ | (have e_ := (Kd.S_reads' HO_3.out).1; omega) | simpa using h_)
                obtain ⟨ve17_0, rfl, ge17_0⟩ := hM17
                have hv17 := hcc17 0 _ rfl
                have hX17 := HX630_0.out
                (try simp only [add_plain] at hX17)
                (try simp only [Nat.add_zero] at hv17)
                (try rw [show ((Kd.slice 3 (Kd.int .i64))).sz = 1 from rfl, Nat.mul_one] at hv17)
                replace hv17 := Option.some.inj (hv17.symm.trans hX17)
                subst hv17
                clear hX17 hcc17 hcl17
                have UU17 := am_ (show Kd.R (Kd.int .i64) 3 _ w.heap.size oki17 (.slice A630_0 (rd_L1 x3_2 (rd (rd_L1 l0 x13_1) x20_2)).length c630_0) (rd_L1 x3_2 (rd (rd_L1 l0 x13_1) x20_2)) from ge17_0)
                have HH17 := am_ hH17
                have HN17 := am_ (Kd.S_reads' HO_3.out).1
                clear hH17 ge17_0
                go_wp2_with (first | ((with_reducible refine gate_builtin (b := .append) (xs := #[.tmp 29, .tmp 31]) rfl ?_); at_builtin; refine Kd.R_append (Kd.int .i64) (w0 := w) w.heap.size rfl (.tmp 29) (.tmp 31) 31 3 (.int .i64 0) 8 rfl Try.underlying31 info3 rfl (by decide) (by omega) (.slice A630_0 (rd_L1 x3_2 (rd (rd_L1 l0 x13_1) x20_2)).length c630_0) (rd_L1 x3_2 (rd (rd_L1 l0 x13_1) x20_2)) x13_1 [.int .i64 x13_1] (fun k_ => oki17 k_ ∨ ((fun _ => True)) k_ ∧ wr.heap.size ≤ k_) (fun _ => False) rfl rfl ?aP (fun _ hk => hk.elim) ?aF ?aO ?aB ?aS ?aL ?_; (case aP => exact rfl); (case aB => exact Sh.bw); (case aF => exact (fun k_ hk => .inr ⟨trivial, hk⟩)); (case aO => exact (by (with_reducible repeat (first | apply Kd.R_alloc | apply Kd.R_drewN | apply Kd.R_drew)); exact Kd.R_mono UU17.out (fun _ hk => .inl hk))); (case aS => exact (below_size Sh.bw)); (case aL => have := LMc14.out; omega); intro v632 w18 ho hb hg hat; rw [← Ny631.out] at ho; have n0_ := am_ (hb); have n1_ := am_ (Kd.H_grown (Kd.H_widen (by repeat (first | exact HH17.out | refine Kd.H_alloc ?_ _ | refine Kd.H_drewN ?_ _ | refine Kd.H_drew ?_))) hg (fun k_ e_ => .inl (UU17.out.1 k_ e_))); have n2_ := am_ (ho); clear HB; clear HH17; clear HO_3; clear UU17; clear HL630_0; have HB := n0_; have HH17 := n1_; have HO633 := n2_; clear n0_ n1_ n2_; clear ho hb hg hat; have p15 : 0 ≤ ((rd (rd_L1 l0 x13_1) x20_2) : Int) := of_decide_eq_true (by first | (with_reducible assumption) | assumption); have q15 : ((rd (rd_L1 l0 x13_1) x20_2) : Int) < ((x3_2.length : Int) : Int) := of_decide_eq_true (by first | (with_reducible assumption) | assumption); replace p15 := eq_true p15; replace q15 := eq_true q15; obtain ⟨Ao21, co21, eo21⟩ := Kd.R_slice HO633.out; subst eo21; obtain ⟨_, _, hraw19, _, _, hcc19, _⟩ := Kd.H_raw HH17.out (of_decide_eq_true (by first | (with_reducible assumption) | assumption)) (by have h_ : ((rd (rd_L1 l0 x13_1) x20_2) : Int) < ((x3_2.length : Int) : Int) := of_decide_eq_true (by first | (with_reducible assumption) | assumption); first | exact h_ | (have e_ := (HN17.out); omega) | simpa using h_); obtain ⟨_, hfr19⟩ := Kd.H_at HH17.out (of_decide_eq_true (by first | (with_reducible assumption) | assumption)) (by have h_ : ((rd (rd_L1 l0 x13_1) x20_2) : Int) < ((x3_2.length : Int) : Int) := of_decide_eq_true (by first | (with_reducible assumption) | assumption); first | exact h_ | (have e_ := (HN17.out); omega) | simpa using h_); have hx19_0 := hcc19 0 _ rfl; have hf19_0 := hfr19 0; (try simp only [Nat.add_zero] at hx19_0 hf19_0); (try rw [show ((Kd.slice 3 (Kd.int .i64))).sz = 1 from rfl, Nat.mul_one] at hx19_0); (try rw [show ((Kd.slice 3 (Kd.int .i64))).sz = 1 from rfl, Nat.mul_one] at hf19_0); have HP19 := Kd.S_seg0 HH17.out (of_decide_eq_true (by first | (with_reducible assumption) | assumption)) (by have h_ : ((rd (rd_L1 l0 x13_1) x20_2) : Int) < ((x3_2.length : Int) : Int) := of_decide_eq_true (by first | (with_reducible assumption) | assumption); first | exact h_ | (have e_ := (HN17.out); omega) | simpa using h_) (seg := [.slice Ao21 y631.length co21]) (j := 0) (show 1 ≤ 1 from by decide) (x' := y631) (Kd.M_row HO633.out) (fun _ hk => hk); (try simp only [show ((Kd.slice 3 (Kd.int .i64))).sz = 1 from rfl, Nat.mul_one, Nat.add_zero] at HP19); clear hcc19 hfr19) | ((with_reducible refine gate_store (t := 31) (p := 33) rfl ?_); refine store_event (t := 31) (p := 33) (v := ?vo_w20) (w1 := (w18.setCell ⟨go17, ((rd (rd_L1 l0 x13_1) x20_2) : Int).toNat, none⟩ (.slice Ao21 y631.length co21))) ?hg ?ho ?hn ?hr ?_; (case ho => rfl); (case hg => rfl); (case hn => rfl); (case hr => first | (go_simp; done) | (go_simp; rfl)); intro w20 hw; have hg : w18.grownBy w20 (some go17) := (by rw [hw]; exact HP19.2); have hp_ : Kd.S (Kd.slice 3 (Kd.int .i64)) 31 w20 w.heap.size (fun _ => True) (.slice (some ⟨go17, 0, none⟩) x3_2.length co16) y634 := (by rw [hw, Ny634.out]; exact HP19.1); clear HP19; have n0_ := am_ ((by rw [hw]; exact below_set HB.out GB17.out : Below w.heap.size w w20)); have n1_ := am_ (hp_); clear HB; clear HO633; clear HH17; have HB := n0_; have HO_3 := n1_; clear n0_ n1_; clear hg hw hp_ hraw19))
                go_roundg k2
                case measure => have := HK1.out; have := HK2.out; omega
                case rel => exact ⟨(y634), (wrap64 (x20_2 + 1)), (by first | rfl | (simp; done) | (simp [*]; done)), H', ⟨by have := HK1.out; have := HK2.out; omega⟩, ⟨by (with_reducible repeat (first | apply Kd.S_alloc | apply Kd.S_drewN | apply Kd.S_drew)); exact HO_3.out⟩, ⟨by repeat (first | (with_reducible first | exact HB.out | apply below_alloc | apply pw_below_drewN | apply below_drew1) | exact HB.out)⟩⟩
               ·rw [if_neg c14] at H
                exact absurd H (by simp)
              ·rw [if_neg c13] at H
               exact absurd H (by simp)
             ·rw [if_neg c12] at H
              exact absurd H (by simp)
            ·rw [if_neg c11] at H
             exact absurd H (by simp)
           ·rw [if_neg c10] at H
            exact absurd H (by simp)
          ·rw [if_neg c9] at H
           have c9b0 : decide (x20_2 < ((rd_L1 l0 x13_1).length : Int)) = false := decide_eq_false c9
           clear c9
           have H' := am_ H
           clear H
           go_wp2
           go_roundg k2
           case measure => have := HK1.out; have := HK2.out; omega
           case rel => exact ⟨(x3_2), (wrap64 (x13_1 + 1)), (by first | rfl | (simp; done) | (simp [*]; done)), H', ⟨by have := HK1.out; have := HK2.out; omega⟩, ⟨by (with_reducible repeat (first | apply Kd.S_alloc | apply Kd.S_drewN | apply Kd.S_drew)); exact HO_3.out⟩, ⟨by repeat (first | (with_reducible first | exact HB.out | apply below_alloc | apply pw_below_drewN | apply below_drew1) | exact HB.out)⟩⟩
       ·rw [if_neg c8] at H
        exact absurd H (by simp)
      ·rw [if_neg c7] at H
       exact absurd H (by simp)
     ·rw [if_neg c6] at H
      have c6b0 : decide (x13_1 < (l0.length : Int)) = false := decide_eq_false c6
      clear c6
      obtain rfl := Option.some.inj H
      go_wp2
      go_ret
      exact ⟨_, Sh.eR, by (with_reducible repeat (first | apply Kd.S_alloc | apply Kd.S_drewN | apply Kd.S_drew)); exact HO_3.out, Sh.bw⟩
  ·rw [if_neg c3] at H
   exact absurd H (by simp)
 ·rw [if_neg c2] at H
  exact absurd H (by simp)

end Go.Proofs.Ytbgbidgnlioomaa.P
namespace Go.Proofs.Ytbgbidgnlioomaa.P
open Go.RowKit Go.Proofs.YtbgbidgnlioomaaW.PrintWords Go.Proofs.YtbgbidgnlioomaaW.PrintLast Go.Proofs.YtbgbidgnlioomaaW.PrintMore Go.Proofs.Ytbgbidgnlioomaa.Hof
attribute [local go_sem] max2_int min2_int max_two min_two max_three min_three max_four min_four   -- for this text's walks alone
set_option linter.unusedVariables false
set_option linter.unusedSimpArgs false

/-! ### spec_l11Path: function 116 -/
mutual
def spec_l11Path.l0 : Nat → List (List Int) → List Int → Int → List Int → Int → Int → Option (List Int × Bool)
 | 0, _, _, _, _, _, _ => none
 | k + 1, x0, x8, x9, x19, x20, x21 => if x21 < x20 then (if 0 ≤ x21 then (if x21 < (x19.length : Int) then (if 0 ≤ (rd x19 x21) then (if (rd x19 x21) < (x8.length : Int) then (if (rd x8 (rd x19 x21)) ≥ 0 then (if x9 < 0 then (spec_l11Path.l0 k x0 x8 (rd x19 x21) x19 x20 (wrap64 (x21 + 1))) else (if 0 ≤ x9 then (if x9 < (x8.length : Int) then (if (rd x8 (rd x19 x21)) < (rd x8 x9) then (spec_l11Path.l0 k x0 x8 (rd x19 x21) x19 x20 (wrap64 (x21 + 1))) else (spec_l11Path.l0 k x0 x8 x9 x19 x20 (wrap64 (x21 + 1)))) else (none)) else (none))) else (spec_l11Path.l0 k x0 x8 x9 x19 x20 (wrap64 (x21 + 1)))) else (none)) else (none)) else (none)) else (none)) else (if x9 < 0 then (some (([] : List Int), false)) else (spec_l11Path.l1 k x0 x8 x9 (([x9] : List Int))))
def spec_l11Path.l1 : Nat → List (List Int) → List Int → Int → List Int → Option (List Int × Bool)
 | 0, _, _, _, _ => none
 | k + 1, x0, x8, x9, x12 => if 0 ≤ x9 then (if x9 < (x8.length : Int) then (if (rd x8 x9) > 0 then (if x9 < (x0.length : Int) then (spec_l11Path.l2 k x0 x8 x9 x12 (rd_L1 x0 x9) ((rd_L1 x0 x9).length : Int) 0) else (none)) else (some (x12, true))) else (none)) else (none)
def spec_l11Path.l2 : Nat → List (List Int) → List Int → Int → List Int → List Int → Int → Int → Option (List Int × Bool)
 | 0, _, _, _, _, _, _, _ => none
 | k + 1, x0, x8, x9, x12, x59, x60, x61 => if x61 < x60 then (if 0 ≤ x61 then (if x61 < (x59.length : Int) then (if 0 ≤ (rd x59 x61) then (if (rd x59 x61) < (x8.length : Int) then (if 0 ≤ x9 then (if x9 < (x8.length : Int) then (if (rd x8 (rd x59 x61)) = (wrap64 ((rd x8 x9) - 1)) then (if x12.length < 17592186044416 then (spec_l11Path.l1 k x0 x8 (rd x59 x61) (x12 ++ [rd x59 x61])) else (none)) else (spec_l11Path.l2 k x0 x8 x9 x12 x59 x60 (wrap64 (x61 + 1)))) else (none)) else (none)) else (none)) else (none)) else (none)) else (none)) else (if x12.length < 17592186044416 then (spec_l11Path.l1 k x0 x8 x9 (x12 ++ [x9])) else (none))
end
def spec_l11Path.f (k : Nat) (l0 : List (List Int)) (l1 : List Int) (l2 : List Int) : Option (List Int × Bool) := (spec_l11Turn.f k l0).bind fun t845 => ((spec_l11Far.f k t845 l2).bind fun t848 => (spec_l11Path.l0 k l0 t848 (-1) l1 (l1.length : Int) 0))
theorem spec_l11Path.mono_l : ∀ k, (∀ y0 y1 y2 y3 y4 y5, LeO (spec_l11Path.l0 k y0 y1 y2 y3 y4 y5) (spec_l11Path.l0 (k + 1) y0 y1 y2 y3 y4 y5)) ∧ (∀ y0 y1 y2 y3, LeO (spec_l11Path.l1 k y0 y1 y2 y3) (spec_l11Path.l1 (k + 1) y0 y1 y2 y3)) ∧ (∀ y0 y1 y2 y3 y4 y5 y6, LeO (spec_l11Path.l2 k y0 y1 y2 y3 y4 y5 y6) (spec_l11Path.l2 (k + 1) y0 y1 y2 y3 y4 y5 y6))
 | 0 => ⟨fun _ _ _ _ _ _ r h => by simp [spec_l11Path.l0] at h, fun _ _ _ _ r h => by simp [spec_l11Path.l1] at h, fun _ _ _ _ _ _ _ r h => by simp [spec_l11Path.l2] at h⟩
 | k + 1 => by
  obtain ⟨ih0, ih1, ih2⟩ := spec_l11Path.mono_l k
  refine ⟨?_, ?_, ?_⟩
  ·intro y0 y1 y2 y3 y4 y5
   unfold spec_l11Path.l0
   repeat' first
   | (with_reducible exact ih0 _ _ _ _ _ _)
   | (with_reducible exact ih1 _ _ _ _)
   | (with_reducible exact ih2 _ _ _ _ _ _ _)
   | (with_reducible exact spec_l11Far.mono _ _ _)
   | (with_reducible exact spec_l11Turn.mono _ _)
   | (with_reducible exact LeO.refl _)
   | (with_reducible exact LeO.none _)
   | (with_reducible refine LeO.ite ?_ ?_)
   | (with_reducible refine LeO.bind ?_ (fun _ => ?_))
   | exact ih0 _ _ _ _ _ _
   | exact ih1 _ _ _ _
   | exact ih2 _ _ _ _ _ _ _
   | exact spec_l11Far.mono _ _ _
   | exact spec_l11Turn.mono _ _
   | exact LeO.none _
   | refine LeO.ite ?_ ?_
   | refine LeO.bind ?_ (fun _ => ?_)
  ·intro y0 y1 y2 y3
   unfold spec_l11Path.l1
   repeat' first
   | (with_reducible exact ih0 _ _ _ _ _ _)
   | (with_reducible exact ih1 _ _ _ _)
   | (with_reducible exact ih2 _ _ _ _ _ _ _)
   | (with_reducible exact spec_l11Far.mono _ _ _)
   | (with_reducible exact spec_l11Turn.mono _ _)
   | (with_reducible exact LeO.refl _)
   | (with_reducible exact LeO.none _)
   | (with_reducible refine LeO.ite ?_ ?_)
   | (with_reducible refine LeO.bind ?_ (fun _ => ?_))
   | exact ih0 _ _ _ _ _ _
   | exact ih1 _ _ _ _
   | exact ih2 _ _ _ _ _ _ _
   | exact spec_l11Far.mono _ _ _
   | exact spec_l11Turn.mono _ _
   | exact LeO.none _
   | refine LeO.ite ?_ ?_
   | refine LeO.bind ?_ (fun _ => ?_)
  ·intro y0 y1 y2 y3 y4 y5 y6
   unfold spec_l11Path.l2
   repeat' first
   | (with_reducible exact ih0 _ _ _ _ _ _)
   | (with_reducible exact ih1 _ _ _ _)
   | (with_reducible exact ih2 _ _ _ _ _ _ _)
   | (with_reducible exact spec_l11Far.mono _ _ _)
   | (with_reducible exact spec_l11Turn.mono _ _)
   | (with_reducible exact LeO.refl _)
   | (with_reducible exact LeO.none _)
   | (with_reducible refine LeO.ite ?_ ?_)
   | (with_reducible refine LeO.bind ?_ (fun _ => ?_))
   | exact ih0 _ _ _ _ _ _
   | exact ih1 _ _ _ _
   | exact ih2 _ _ _ _ _ _ _
   | exact spec_l11Far.mono _ _ _
   | exact spec_l11Turn.mono _ _
   | exact LeO.none _
   | refine LeO.ite ?_ ?_
   | refine LeO.bind ?_ (fun _ => ?_)
theorem spec_l11Path.mono : ∀ a0 a1 a2 k, LeO (spec_l11Path.f k a0 a1 a2) (spec_l11Path.f (k + 1) a0 a1 a2) := by
 intro a0 a1 a2 k
 obtain ⟨ih0, ih1, ih2⟩ := spec_l11Path.mono_l k
 unfold spec_l11Path.f
 repeat' first
   | (with_reducible exact ih0 _ _ _ _ _ _)
   | (with_reducible exact ih1 _ _ _ _)
   | (with_reducible exact ih2 _ _ _ _ _ _ _)
   | (with_reducible exact spec_l11Far.mono _ _ _)
   | (with_reducible exact spec_l11Turn.mono _ _)
   | (with_reducible exact LeO.refl _)
   | (with_reducible exact LeO.none _)
   | (with_reducible refine LeO.ite ?_ ?_)
   | (with_reducible refine LeO.bind ?_ (fun _ => ?_))
   | exact ih0 _ _ _ _ _ _
   | exact ih1 _ _ _ _
   | exact ih2 _ _ _ _ _ _ _
   | exact spec_l11Far.mono _ _ _
   | exact spec_l11Turn.mono _ _
   | exact LeO.none _
   | refine LeO.ite ?_ ?_
   | refine LeO.bind ?_ (fun _ => ?_)
set_option maxHeartbeats 8000000 in
set_option maxRecDepth 100000 in
theorem spec_l11Path.calls (k : Nat) (A0 : Option Addr) (c0 : Nat) (l0 : List (List Int)) (A1 : Option Addr) (c1 : Nat) (l1 : List Int) (A2 : Option Addr) (c2 : Nat) (l2 : List Int) (r1 : List Int) (r2 : Bool) (w : World) (hr0 : Kd.C (Kd.slice 3 (Kd.int .i64)) w A0 l0.length l0) (hc0 : l0.length ≤ c0) (hr1 : Kd.C (Kd.int .i64) w A1 l1.length l1) (hc1 : l1.length ≤ c1) (hr2 : Kd.C (Kd.int .i64) w A2 l2.length l2) (hc2 : l2.length ≤ c2) (h : spec_l11Path.f k l0 l1 l2 = some (r1, r2)) :
  Calls Try.prog 116 #[.slice A0 l0.length c0, .slice A1 l1.length c1, .slice A2 l2.length c2] w fun e w' => ∃ v0_ : Value, e = .returned (.tuple #[v0_, .bool r2]) ∧ Kd.R (Kd.int .i64) 3 w' w.heap.size (fun _ => True) v0_ r1 ∧ Below w.heap.size w w' := by
 have HR0 := am_ hr0
 have HC0 := am_ hc0
 clear hr0 hc0
 have HR1 := am_ hr1
 have HC1 := am_ hc1
 clear hr1 hc1
 have HR2 := am_ hr2
 have HC2 := am_ hc2
 clear hr2 hc2
 have HB := am_ (Below.refl w.heap.size w)
 have H : ((spec_l11Turn.f k l0).bind fun t845 => ((spec_l11Far.f k t845 l2).bind fun t848 => (spec_l11Path.l0 k l0 t848 (-1) l1 (l1.length : Int) 0))) = some (r1, r2) := h
 clear h
 replace H := Option.bind_eq_some_iff.mp H
 obtain ⟨t845, A40, H⟩ := H
 replace H : ((spec_l11Far.f k t845 l2).bind fun t848 => (spec_l11Path.l0 k l0 t848 (-1) l1 (l1.length : Int) 0)) = some (r1, r2) := H
 have A4 := am_ A40
 clear A40
 replace H := Option.bind_eq_some_iff.mp H
 obtain ⟨t848, A50, H⟩ := H
 replace H : (spec_l11Path.l0 k l0 t848 (-1) l1 (l1.length : Int) 0) = some (r1, r2) := H
 have A5 := am_ A50
 clear A50
 have H' := am_ H
 clear H
 go_enter Try.func116, Try.ntmps116
 go_wp2_with (first | (go_at_call 80; (with_reducible refine (spec_l11Turn.calls k _ _ l0 t845 _ ?side1 ?side2 A4.out).mono ?_); (case side1 => repeat (first | exact HR0.out | (with_reducible first | refine Kd.C_alloc ?_ _ | refine Kd.C_drewN ?_ _ | refine Kd.C_drew ?_))); (case side2 => exact HC0.out); rintro e w6 ⟨v846, rfl, ho0, hb⟩; have n0_ := am_ (Kd.S_lower ho0 (below_size Sh.bw)); have n1_ := am_ (below_step Sh.bw hb); clear HB; have HO847 := n0_; have HB := n1_; clear n0_ n1_; (try clear hb); (try clear hb2); (try clear hk); (try clear hi); (try clear ho0); obtain ⟨Ao7, co7, eo7⟩ := Kd.S_slice HO847.out; subst eo7) | (go_at_call 137; (with_reducible refine (spec_l11Far.calls k _ _ t845 _ _ l2 t848 _ (Sh.cR (Kd.S_reads' HO847.out).2.2) (Kd.S_reads' HO847.out).2.1 (Sh.cB HR2.out) HC2.out A5.out).mono ?_); rintro e w8 ⟨v849, rfl, ho0, hb⟩; have n0_ := am_ (Kd.S_elder' (by (with_reducible repeat (first | apply Kd.S_alloc | apply Kd.S_drewN | apply Kd.S_drew)); exact HO847.out) (Kd.R_base ho0) hb); have n1_ := am_ (Kd.R_lower ho0 (below_size Sh.bw)); have n2_ := am_ (below_step Sh.bw hb); clear HO847; clear HB; have HO847 := n0_; have HO850 := n1_; have HB := n2_; clear n0_ n1_ n2_; (try clear hb); (try clear hb2); (try clear hk); (try clear hi); (try clear ho0)))
 repeat (go_quiet (first | (go_at_call 80; (with_reducible refine (spec_l11Turn.calls k _ _ l0 t845 _ ?side1 ?side2 A4.out).mono ?_); (case side1 => repeat (first | exact HR0.out | (with_reducible first | refine Kd.C_alloc ?_ _ | refine Kd.C_drewN ?_ _ | refine Kd.C_drew ?_))); (case side2 => exact HC0.out); rintro e w6 ⟨v846, rfl, ho0, hb⟩; have n0_ := am_ (Kd.S_lower ho0 (below_size Sh.bw)); have n1_ := am_ (below_step Sh.bw hb); clear HB; have HO847 := n0_; have HB := n1_; clear n0_ n1_; (try clear hb); (try clear hb2); (try clear hk); (try clear hi); (try clear ho0); obtain ⟨Ao7, co7, eo7⟩ := Kd.S_slice HO847.out; subst eo7) | (go_at_call 137; (with_reducible refine (spec_l11Far.calls k _ _ t845 _ _ l2 t848 _ (Sh.cR (Kd.S_reads' HO847.out).2.2) (Kd.S_reads' HO847.out).2.1 (Sh.cB HR2.out) HC2.out A5.out).mono ?_); rintro e w8 ⟨v849, rfl, ho0, hb⟩; have n0_ := am_ (Kd.S_elder' (by (with_reducible repeat (first | apply Kd.S_alloc | apply Kd.S_drewN | apply Kd.S_drew)); exact HO847.out) (Kd.R_base ho0) hb); have n1_ := am_ (Kd.R_lower ho0 (below_size Sh.bw)); have n2_ := am_ (below_step Sh.bw hb); clear HO847; clear HB; have HO847 := n0_; have HO850 := n1_; have HB := n2_; clear n0_ n1_ n2_; (try clear hb); (try clear hb2); (try clear hk); (try clear hi); (try clear ho0))); try go_wp2_with (first | (go_at_call 80; (with_reducible refine (spec_l11Turn.calls k _ _ l0 t845 _ ?side1 ?side2 A4.out).mono ?_); (case side1 => repeat (first | exact HR0.out | (with_reducible first | refine Kd.C_alloc ?_ _ | refine Kd.C_drewN ?_ _ | refine Kd.C_drew ?_))); (case side2 => exact HC0.out); rintro e w6 ⟨v846, rfl, ho0, hb⟩; have n0_ := am_ (Kd.S_lower ho0 (below_size Sh.bw)); have n1_ := am_ (below_step Sh.bw hb); clear HB; have HO847 := n0_; have HB := n1_; clear n0_ n1_; (try clear hb); (try clear hb2); (try clear hk); (try clear hi); (try clear ho0); obtain ⟨Ao7, co7, eo7⟩ := Kd.S_slice HO847.out; subst eo7) | (go_at_call 137; (with_reducible refine (spec_l11Far.calls k _ _ t845 _ _ l2 t848 _ (Sh.cR (Kd.S_reads' HO847.out).2.2) (Kd.S_reads' HO847.out).2.1 (Sh.cB HR2.out) HC2.out A5.out).mono ?_); rintro e w8 ⟨v849, rfl, ho0, hb⟩; have n0_ := am_ (Kd.S_elder' (by (with_reducible repeat (first | apply Kd.S_alloc | apply Kd.S_drewN | apply Kd.S_drew)); exact HO847.out) (Kd.R_base ho0) hb); have n1_ := am_ (Kd.R_lower ho0 (below_size Sh.bw)); have n2_ := am_ (below_step Sh.bw hb); clear HO847; clear HB; have HO847 := n0_; have HO850 := n1_; have HB := n2_; clear n0_ n1_ n2_; (try clear hb); (try clear hb2); (try clear hk); (try clear hi); (try clear ho0))))
 go_loopg [9, 21] k (fun kq v9 v21 w' => ∃ (x9_1 : Int) (x21_1 : Int), v9 = .int .i64 x9_1 ∧ v21 = .int .i64 x21_1 ∧ Aside0 (spec_l11Path.l0 kq l0 t848 x9_1 l1 (l1.length : Int) x21_1 = some (r1, r2)) ∧ Aside0 (kq ≤ k) ∧ Aside0 (Kd.R (Kd.int .i64) 3 w' w.heap.size (fun _ => True) v849 t848) ∧ Aside0 (Below w.heap.size w w'))
 case atStart => exact ⟨((-1)), (0), (by first | rfl | (simp; done) | (simp [*]; done)), (by first | rfl | (simp; done) | (simp [*]; done)), H', ⟨Nat.le_refl _⟩, ⟨by (with_reducible repeat (first | apply Kd.R_alloc | apply Kd.R_drewN | apply Kd.R_drew)); exact HO850.out⟩, ⟨by repeat (first | (with_reducible first | exact HB.out | apply below_alloc | apply pw_below_drewN | apply below_drew1) | exact HB.out)⟩⟩
 case round =>
  clear H'
  try clear c1
  try clear c2
  try clear p2
  obtain ⟨x9_1, x21_1, rfl, rfl, HA, HK1, HO_8, HB⟩ := hrel
  cases gk with
  | zero => exact absurd HA.out (by simp [spec_l11Path.l0])
  | succ k1 =>
   have H := HA.out
   clear HA
   simp only [spec_l11Path.l0] at H
   by_cases c9 : x21_1 < (l1.length : Int)
   ·rw [if_pos c9] at H
    have c9b0 : decide (x21_1 < (l1.length : Int)) = true := decide_eq_true c9
    clear c9
    by_cases c10 : 0 ≤ x21_1
    ·rw [if_pos c10] at H
     have c10b0 : decide (0 ≤ x21_1) = true := decide_eq_true c10
     clear c10
     by_cases c11 : x21_1 < (l1.length : Int)
     ·rw [if_pos c11] at H
      have c11b0 : decide (x21_1 < (l1.length : Int)) = true := decide_eq_true c11
      clear c11
      by_cases c12 : 0 ≤ (rd l1 x21_1)
      ·rw [if_pos c12] at H
       have c12b0 : decide (0 ≤ (rd l1 x21_1)) = true := decide_eq_true c12
       clear c12
       by_cases c13 : (rd l1 x21_1) < (t848.length : Int)
       ·rw [if_pos c13] at H
        have c13b0 : decide ((rd l1 x21_1) < (t848.length : Int)) = true := decide_eq_true c13
        clear c13
        by_cases c14 : (rd t848 (rd l1 x21_1)) ≥ 0
        ·rw [if_pos c14] at H
         have c14b0 : decide (0 ≤ (rd t848 (rd l1 x21_1))) = true := decide_eq_true c14
         clear c14
         by_cases c15 : x9_1 < 0
         ·rw [if_pos c15] at H
          have c15b0 : decide (x9_1 < 0) = true := decide_eq_true c15
          clear c15
          have H' := am_ H
          clear H
          have p851 : 0 ≤ (x21_1 : Int) := of_decide_eq_true (by first | (with_reducible assumption) | assumption)
          have q851 : x21_1 < (l1.length : Int) := of_decide_eq_true (by first | (with_reducible assumption) | assumption)
          obtain ⟨ad851, e851, hx851_0⟩ := Kd.at_int HR1.out x21_1 p851 q851
          cases e851
          (try replace hx851_0 := (HB.out.cell (World.block_lt_of_cell? w _ hx851_0)).trans hx851_0)
          replace p851 := eq_true p851
          replace q851 := eq_true q851
          obtain ⟨Ao16, co16, eo16⟩ := Kd.R_slice HO_8.out
          subst eo16
          have p852 : 0 ≤ ((rd l1 x21_1) : Int) := of_decide_eq_true (by first | (with_reducible assumption) | assumption)
          have q852 : (rd l1 x21_1) < (t848.length : Int) := of_decide_eq_true (by first | (with_reducible assumption) | assumption)
          obtain ⟨ad852, e852, hx852_0⟩ := Kd.at_int (Kd.R_reads' HO_8.out).2.2 (rd l1 x21_1) p852 q852
          cases e852
          replace p852 := eq_true p852
          replace q852 := eq_true q852
          go_wp2
          repeat (go_quiet (fail); try go_wp2)
          go_roundg k1
          case measure => have := HK1.out; omega
          case rel => exact ⟨(rd l1 x21_1), (wrap64 (x21_1 + 1)), (by first | rfl | (simp; done) | (simp [*]; done)), (by first | rfl | (simp; done) | (simp [*]; done)), H', ⟨by have := HK1.out; omega⟩, ⟨by (with_reducible repeat (first | apply Kd.R_alloc | apply Kd.R_drewN | apply Kd.R_drew)); exact HO_8.out⟩, ⟨by repeat (first | (with_reducible first | exact HB.out | apply below_alloc | apply pw_below_drewN | apply below_drew1) | exact HB.out)⟩⟩
         ·rw [if_neg c15] at H
          have c15b0 : decide (x9_1 < 0) = false := decide_eq_false c15
          clear c15
          by_cases c17 : 0 ≤ x9_1
          ·rw [if_pos c17] at H
           have c17b0 : decide (0 ≤ x9_1) = true := decide_eq_true c17
           clear c17
           by_cases c18 : x9_1 < (t848.length : Int)
           ·rw [if_pos c18] at H
            have c18b0 : decide (x9_1 < (t848.length : Int)) = true := decide_eq_true c18
            clear c18
            by_cases c19 : (rd t848 (rd l1 x21_1)) < (rd t848 x9_1)
            ·rw [if_pos c19] at H
             have c19b0 : decide ((rd t848 (rd l1 x21_1)) < (rd t848 x9_1)) = true := decide_eq_true c19
             clear c19
             have H' := am_ H
             clear H
             have p851 : 0 ≤ (x21_1 : Int) := of_decide_eq_true (by first | (with_reducible assumption) | assumption)
             have q851 : x21_1 < (l1.length : Int) := of_decide_eq_true (by first | (with_reducible assumption) | assumption)
             obtain ⟨ad851, e851, hx851_0⟩ := Kd.at_int HR1.out x21_1 p851 q851
             cases e851
             (try replace hx851_0 := (HB.out.cell (World.block_lt_of_cell? w _ hx851_0)).trans hx851_0)
             replace p851 := eq_true p851
             replace q851 := eq_true q851
             obtain ⟨Ao20, co20, eo20⟩ := Kd.R_slice HO_8.out
             subst eo20
             have p852 : 0 ≤ ((rd l1 x21_1) : Int) := of_decide_eq_true (by first | (with_reducible assumption) | assumption)
             have q852 : (rd l1 x21_1) < (t848.length : Int) := of_decide_eq_true (by first | (with_reducible assumption) | assumption)
             obtain ⟨ad852, e852, hx852_0⟩ := Kd.at_int (Kd.R_reads' HO_8.out).2.2 (rd l1 x21_1) p852 q852
             cases e852
             replace p852 := eq_true p852
             replace q852 := eq_true q852
             have p853 : 0 ≤ ((rd l1 x21_1) : Int) := of_decide_eq_true (by first | (with_reducible assumption) | assumption)
             have q853 : (rd l1 x21_1) < (t848.length : Int) := of_decide_eq_true (by first | (with_reducible assumption) | assumption)
             obtain ⟨ad853, e853, hx853_0⟩ := Kd.at_int (Kd.R_reads' HO_8.out).2.2 (rd l1 x21_1) p853 q853
             obtain rfl : ad852 = ad853 := (by injection e853)
             replace p853 := eq_true p853
             replace q853 := eq_true q853
             have p854 : 0 ≤ (x9_1 : Int) := of_decide_eq_true (by first | (with_reducible assumption) | assumption)
             have q854 : x9_1 < (t848.length : Int) := of_decide_eq_true (by first | (with_reducible assumption) | assumption)
             obtain ⟨ad854, e854, hx854_0⟩ := Kd.at_int (Kd.R_reads' HO_8.out).2.2 x9_1 p854 q854
             obtain rfl : ad852 = ad854 := (by injection e854)
             replace p854 := eq_true p854
             replace q854 := eq_true q854
             go_wp2
             repeat (go_quiet (fail); try go_wp2)
             go_roundg k1
             case measure => have := HK1.out; omega
             case rel => exact ⟨(rd l1 x21_1), (wrap64 (x21_1 + 1)), (by first | rfl | (simp; done) | (simp [*]; done)), (by first | rfl | (simp; done) | (simp [*]; done)), H', ⟨by have := HK1.out; omega⟩, ⟨by (with_reducible repeat (first | apply Kd.R_alloc | apply Kd.R_drewN | apply Kd.R_drew)); exact HO_8.out⟩, ⟨by repeat (first | (with_reducible first | exact HB.out | apply below_alloc | apply pw_below_drewN | apply below_drew1) | exact HB.out)⟩⟩
            ·rw [if_neg c19] at H
             have c19b0 : decide ((rd t848 (rd l1 x21_1)) < (rd t848 x9_1)) = false := decide_eq_false c19
             clear c19
             have H' := am_ H
             clear H
             have p851 : 0 ≤ (x21_1 : Int) := of_decide_eq_true (by first | (with_reducible assumption) | assumption)
             have q851 : x21_1 < (l1.length : Int) := of_decide_eq_true (by first | (with_reducible assumption) | assumption)
             obtain ⟨ad851, e851, hx851_0⟩ := Kd.at_int HR1.out x21_1 p851 q851
             cases e851
             (try replace hx851_0 := (HB.out.cell (World.block_lt_of_cell? w _ hx851_0)).trans hx851_0)
             replace p851 := eq_true p851
             replace q851 := eq_true q851
             obtain ⟨Ao21, co21, eo21⟩ := Kd.R_slice HO_8.out
             subst eo21
             have p852 : 0 ≤ ((rd l1 x21_1) : Int) := of_decide_eq_true (by first | (with_reducible assumption) | assumption)
             have q852 : (rd l1 x21_1) < (t848.length : Int) := of_decide_eq_true (by first | (with_reducible assumption) | assumption)
             obtain ⟨ad852, e852, hx852_0⟩ := Kd.at_int (Kd.R_reads' HO_8.out).2.2 (rd l1 x21_1) p852 q852
             cases e852
             replace p852 := eq_true p852
             replace q852 := eq_true q852
             have p853 : 0 ≤ ((rd l1 x21_1) : Int) := of_decide_eq_true (by first | (with_reducible assumption) | assumption)
             have q853 : (rd l1 x21_1) < (t848.length : Int) := of_decide_eq_true (by first | (with_reducible assumption) | assumption)
             obtain ⟨ad853, e853, hx853_0⟩ := Kd.at_int (Kd.R_reads' HO_8.out).2.2 (rd l1 x21_1) p853 q853
             obtain rfl : ad852 = ad853 := (by injection e853)
             replace p853 := eq_true p853
             replace q853 := eq_true q853
             have p854 : 0 ≤ (x9_1 : Int) := of_decide_eq_true (by first | (with_reducible assumption) | assumption)
             have q854 : x9_1 < (t848.length : Int) := of_decide_eq_true (by first | (with_reducible assumption) | assumption)
             obtain ⟨ad854, e854, hx854_0⟩ := Kd.at_int (Kd.R_reads' HO_8.out).2.2 x9_1 p854 q854
             obtain rfl : ad852 = ad854 := (by injection e854)
             replace p854 := eq_true p854
             replace q854 := eq_true q854
             go_wp2
             repeat (go_quiet (fail); try go_wp2)
             go_roundg k1
             case measure => have := HK1.out; omega
             case rel => exact ⟨(x9_1), (wrap64 (x21_1 + 1)), (by first | rfl | (simp; done) | (simp [*]; done)), (by first | rfl | (simp; done) | (simp [*]; done)), H', ⟨by have := HK1.out; omega⟩, ⟨by (with_reducible repeat (first | apply Kd.R_alloc | apply Kd.R_drewN | apply Kd.R_drew)); exact HO_8.out⟩, ⟨by repeat (first | (with_reducible first | exact HB.out | apply below_alloc | apply pw_below_drewN | apply below_drew1) | exact HB.out)⟩⟩
           ·rw [if_neg c18] at H
            exact absurd H (by simp)
          ·rw [if_neg c17] at H
           exact absurd H (by simp)
        ·rw [if_neg c14] at H
         have c14b0 : decide (0 ≤ (rd t848 (rd l1 x21_1))) = false := decide_eq_false c14
         clear c14
         have H' := am_ H
         clear H
         have p851 : 0 ≤ (x21_1 : Int) := of_decide_eq_true (by first | (with_reducible assumption) | assumption)
         have q851 : x21_1 < (l1.length : Int) := of_decide_eq_true (by first | (with_reducible assumption) | assumption)
         obtain ⟨ad851, e851, hx851_0⟩ := Kd.at_int HR1.out x21_1 p851 q851
         cases e851
         (try replace hx851_0 := (HB.out.cell (World.block_lt_of_cell? w _ hx851_0)).trans hx851_0)
         replace p851 := eq_true p851
         replace q851 := eq_true q851
         obtain ⟨Ao22, co22, eo22⟩ := Kd.R_slice HO_8.out
         subst eo22
         have p852 : 0 ≤ ((rd l1 x21_1) : Int) := of_decide_eq_true (by first | (with_reducible assumption) | assumption)
         have q852 : (rd l1 x21_1) < (t848.length : Int) := of_decide_eq_true (by first | (with_reducible assumption) | assumption)
         obtain ⟨ad852, e852, hx852_0⟩ := Kd.at_int (Kd.R_reads' HO_8.out).2.2 (rd l1 x21_1) p852 q852
         cases e852
         replace p852 := eq_true p852
         replace q852 := eq_true q852
         go_wp2
         repeat (go_quiet (fail); try go_wp2)
         go_roundg k1
         case measure => have := HK1.out; omega
         case rel => exact ⟨(x9_1), (wrap64 (x21_1 + 1)), (by first | rfl | (simp; done) | (simp [*]; done)), (by first | rfl | (simp; done) | (simp [*]; done)), H', ⟨by have := HK1.out; omega⟩, ⟨by (with_reducible repeat (first | apply Kd.R_alloc | apply Kd.R_drewN | apply Kd.R_drew)); exact HO_8.out⟩, ⟨by repeat (first | (with_reducible first | exact HB.out | apply below_alloc | apply pw_below_drewN | apply below_drew1) | exact HB.out)⟩⟩
       ·rw [if_neg c13] at H
        exact absurd H (by simp)
      ·rw [if_neg c12] at H
       exact absurd H (by simp)
     ·rw [if_neg c11] at H
      exact absurd H (by simp)
    ·rw [if_neg c10] at H
     exact absurd H (by simp)
   ·rw [if_neg c9] at H
    have c9b0 : decide (x21_1 < (l1.length : Int)) = false := decide_eq_false c9
    clear c9
    by_cases c23 : x9_1 < 0
    ·rw [if_pos c23] at H
     have c23b0 : decide (x9_1 < 0) = true := decide_eq_true c23
     clear c23
     simp only [Option.some.injEq, Prod.mk.injEq] at H
     obtain ⟨rfl, rfl⟩ := H
     go_wp2
     repeat (go_quiet (fail); try go_wp2)
     go_ret2
     exact ⟨_, Sh.eR, by first | exact Kd.R_nil _ _ _ _ _ | exact Kd.N_nil _ _ _ _ _ | exact Kd.V_nil _ _ _ _ _ | exact Kd.Q_nil _ _ _ _ _ | exact Kd.S_nil _ _ _ _ _, Sh.bw⟩
    ·rw [if_neg c23] at H
     have c23b0 : decide (x9_1 < 0) = false := decide_eq_false c23
     clear c23
     obtain ⟨y855, hy855⟩ : ∃ y_ : List Int, y_ = (([x9_1] : List Int)) := ⟨_, rfl⟩
     replace H : (spec_l11Path.l1 k1 l0 t848 x9_1 y855) = some (r1, r2) := by first | (rw [hy855]; with_reducible exact H) | (have H2_ := (Option.bind_some _ _).symm.trans H; rw [hy855]; with_reducible exact H2_) | (have H2_ := (Option.bind_some _ _).symm.trans H; with_reducible exact H2_) | with_reducible exact H | (rw [hy855]; exact H) | exact H
     have Ny855 := am_ hy855
     clear hy855
     have H' := am_ H
     clear H
     go_wp2_with (first | ((with_reducible refine gate_dst (N := 50) rfl ?_); refine Kd.R_lit (Kd.int .i64) _ 3 ?hg (N := 50) ?hd (xs := ([x9_1] : List Int)) (inner := [.int .i64 x9_1]) (ok := fun _ => True) (okp := fun _ => True) ?hr ?hp (fun _ hk => hk) trivial (Below.refl _ _) (Nat.le_refl _) (by simp) ?_; (case hd => rfl); (case hg => rfl); (case hr => first | (go_simp; done) | (go_simp; rfl)); (case hp => exact (Reps.one (show Kd.M (Kd.int .i64) _ _ _ x9_1 [.int .i64 x9_1] from rfl) (Reps.none _ _))); intro v856 w24 ho25 hb hg_ hnew_; clear hg_ hnew_; (first | rw [← Ny855.out] at ho25 | (simp only [Int.reduceToNat] at ho25; rw [← Ny855.out] at ho25)); have n0_ := am_ (Kd.R_elder' (by (with_reducible repeat (first | apply Kd.R_alloc | apply Kd.R_drewN | apply Kd.R_drew)); exact HO_8.out) (Kd.R_base ho25) hb); have n1_ := am_ (Kd.R_lower (Kd.R_new' ho25 (Kd.R_lt (by (with_reducible repeat (first | apply Kd.R_alloc | apply Kd.R_drewN | apply Kd.R_drew)); exact HO_8.out))) (below_size Sh.bw)); have n2_ := am_ (below_step Sh.bw hb); clear HO_8; clear HB; have HO_8 := n0_; have HO857 := n1_; have HB := n2_; clear n0_ n1_ n2_; clear hb ho25))
     repeat (go_quiet (first | ((with_reducible refine gate_dst (N := 50) rfl ?_); refine Kd.R_lit (Kd.int .i64) _ 3 ?hg (N := 50) ?hd (xs := ([x9_1] : List Int)) (inner := [.int .i64 x9_1]) (ok := fun _ => True) (okp := fun _ => True) ?hr ?hp (fun _ hk => hk) trivial (Below.refl _ _) (Nat.le_refl _) (by simp) ?_; (case hd => rfl); (case hg => rfl); (case hr => first | (go_simp; done) | (go_simp; rfl)); (case hp => exact (Reps.one (show Kd.M (Kd.int .i64) _ _ _ x9_1 [.int .i64 x9_1] from rfl) (Reps.none _ _))); intro v856 w24 ho25 hb hg_ hnew_; clear hg_ hnew_; (first | rw [← Ny855.out] at ho25 | (simp only [Int.reduceToNat] at ho25; rw [← Ny855.out] at ho25)); have n0_ := am_ (Kd.R_elder' (by (with_reducible repeat (first | apply Kd.R_alloc | apply Kd.R_drewN | apply Kd.R_drew)); exact HO_8.out) (Kd.R_base ho25) hb); have n1_ := am_ (Kd.R_lower (Kd.R_new' ho25 (Kd.R_lt (by (with_reducible repeat (first | apply Kd.R_alloc | apply Kd.R_drewN | apply Kd.R_drew)); exact HO_8.out))) (below_size Sh.bw)); have n2_ := am_ (below_step Sh.bw hb); clear HO_8; clear HB; have HO_8 := n0_; have HO857 := n1_; have HB := n2_; clear n0_ n1_ n2_; clear hb ho25)); try go_wp2_with (first | ((with_reducible refine gate_dst (N := 50) rfl ?_); refine Kd.R_lit (Kd.int .i64) _ 3 ?hg (N := 50) ?hd (xs := ([x9_1] : List Int)) (inner := [.int .i64 x9_1]) (ok := fun _ => True) (okp := fun _ => True) ?hr ?hp (fun _ hk => hk) trivial (Below.refl _ _) (Nat.le_refl _) (by simp) ?_; (case hd => rfl); (case hg => rfl); (case hr => first | (go_simp; done) | (go_simp; rfl)); (case hp => exact (Reps.one (show Kd.M (Kd.int .i64) _ _ _ x9_1 [.int .i64 x9_1] from rfl) (Reps.none _ _))); intro v856 w24 ho25 hb hg_ hnew_; clear hg_ hnew_; (first | rw [← Ny855.out] at ho25 | (simp only [Int.reduceToNat] at ho25; rw [← Ny855.out] at ho25)); have n0_ := am_ (Kd.R_elder' (by (with_reducible repeat (first | apply Kd.R_alloc | apply Kd.R_drewN | apply Kd.R_drew)); exact HO_8.out) (Kd.R_base ho25) hb); have n1_ := am_ (Kd.R_lower (Kd.R_new' ho25 (Kd.R_lt (by (with_reducible repeat (first | apply Kd.R_alloc | apply Kd.R_drewN | apply Kd.R_drew)); exact HO_8.out))) (below_size Sh.bw)); have n2_ := am_ (below_step Sh.bw hb); clear HO_8; clear HB; have HO_8 := n0_; have HO857 := n1_; have HB := n2_; clear n0_ n1_ n2_; clear hb ho25)))
     go_loopg [9, 12] k1 (fun kq v9 v12 w' => ∃ (x9_2 : Int) (x12_2 : List Int), v9 = .int .i64 x9_2 ∧ Aside0 (spec_l11Path.l1 kq l0 t848 x9_2 x12_2 = some (r1, r2)) ∧ Aside0 (kq ≤ k1) ∧ Aside0 (Kd.R (Kd.int .i64) 3 w' w.heap.size (fun k_ => some k_ ≠ (v12 : Value).ownBlock) v849 t848) ∧ Aside0 (Kd.R (Kd.int .i64) 3 w' w.heap.size (fun k_ => some k_ ≠ (v849 : Value).ownBlock) v12 x12_2) ∧ Aside0 (Below w.heap.size w w'))
     case atStart => exact ⟨(x9_1), (y855), (by first | rfl | (simp; done) | (simp [*]; done)), H', ⟨Nat.le_refl _⟩, ⟨by (with_reducible repeat (first | apply Kd.R_alloc | apply Kd.R_drewN | apply Kd.R_drew)); exact Kd.R_mono HO_8.out (fun _ hk => hk.2)⟩, ⟨by (with_reducible repeat (first | apply Kd.R_alloc | apply Kd.R_drewN | apply Kd.R_drew)); exact Kd.R_mono HO857.out (fun _ hk => hk.2)⟩, ⟨by repeat (first | (with_reducible first | exact HB.out | apply below_alloc | apply pw_below_drewN | apply below_drew1) | exact HB.out)⟩⟩
     case round =>
      clear H'
      try clear c1
      try clear c2
      try clear p2
      try clear p6
      try clear p8
      try clear q8
      try clear hx8
      try clear c9
      try clear c9b0
      try clear c10
      try clear c10b0
      try clear c11
      try clear c11b0
      try clear c12
      try clear c12b0
      try clear c13
      try clear c13b0
      try clear c14
      try clear c14b0
      try clear c15
      try clear c15b0
      try clear c17
      try clear c17b0
      try clear c18
      try clear c18b0
      try clear c19
      try clear c19b0
      try clear c23
      try clear c23b0
      try clear hx851_0
      try clear hx852_0
      try clear hx853_0
      try clear hx854_0
      try clear p2
      try clear p851
      try clear p852
      try clear p853
      try clear p854
      try clear q851
      try clear q852
      try clear q853
      try clear q854
      obtain ⟨x9_2, x12_2, rfl, HA, HK2, HO_8, HO_12, HB⟩ := hrel
      cases gk with
      | zero => exact absurd HA.out (by simp [spec_l11Path.l1])
      | succ k2 =>
       have H := HA.out
       clear HA
       simp only [spec_l11Path.l1] at H
       by_cases c26 : 0 ≤ x9_2
       ·rw [if_pos c26] at H
        have c26b0 : decide (0 ≤ x9_2) = true := decide_eq_true c26
        clear c26
        by_cases c27 : x9_2 < (t848.length : Int)
        ·rw [if_pos c27] at H
         have c27b0 : decide (x9_2 < (t848.length : Int)) = true := decide_eq_true c27
         clear c27
         by_cases c28 : (rd t848 x9_2) > 0
         ·rw [if_pos c28] at H
          have c28b0 : decide (0 < (rd t848 x9_2)) = true := decide_eq_true c28
          clear c28
          by_cases c29 : x9_2 < (l0.length : Int)
          ·rw [if_pos c29] at H
           have c29b0 : decide (x9_2 < (l0.length : Int)) = true := decide_eq_true c29
           clear c29
           have H' := am_ H
           clear H
           obtain ⟨Ao30, co30, eo30⟩ := Kd.R_slice HO_8.out
           subst eo30
           have p858 : 0 ≤ (x9_2 : Int) := of_decide_eq_true (by first | (with_reducible assumption) | assumption)
           have q858 : x9_2 < (t848.length : Int) := of_decide_eq_true (by first | (with_reducible assumption) | assumption)
           obtain ⟨ad858, e858, hx858_0⟩ := Kd.at_int (Kd.R_reads' HO_8.out).2.2 x9_2 p858 q858
           cases e858
           replace p858 := eq_true p858
           replace q858 := eq_true q858
           have p859 : 0 ≤ (x9_2 : Int) := of_decide_eq_true (by first | (with_reducible assumption) | assumption)
           have q859 : x9_2 < (l0.length : Int) := of_decide_eq_true (by first | (with_reducible assumption) | assumption)
           obtain ⟨ad859, A859_0, c859_0, e859, hx859_0, hl859_0, hi859_0⟩ := at_L1 HR0.out x9_2 p859 q859
           cases e859
           (try replace hx859_0 := (HB.out.cell (World.block_lt_of_cell? w _ hx859_0)).trans hx859_0)
           have HR859_0 := am_ hi859_0
           have HC859_0 := am_ hl859_0
           clear hi859_0 hl859_0
           replace p859 := eq_true p859
           replace q859 := eq_true q859
           go_wp2
           repeat (go_quiet (fail); try go_wp2)
           go_loopg [9, 61] k2 (fun kq v9 v61 w' => ∃ (x9_3 : Int) (x61_3 : Int), v9 = .int .i64 x9_3 ∧ v61 = .int .i64 x61_3 ∧ Aside0 (spec_l11Path.l2 kq l0 t848 x9_3 x12_2 (rd_L1 l0 x9_2) ((rd_L1 l0 x9_2).length : Int) x61_3 = some (r1, r2)) ∧ Aside0 (kq ≤ k2) ∧ Aside0 (Kd.R (Kd.int .i64) 3 w' w.heap.size (fun k_ => some k_ ≠ (u12 : Value).ownBlock) (.slice (some ad858) t848.length co30) t848) ∧ Aside0 (Kd.R (Kd.int .i64) 3 w' w.heap.size (fun k_ => some k_ ≠ ((.slice (some ad858) t848.length co30) : Value).ownBlock) u12 x12_2) ∧ Aside0 (Below w.heap.size w w'))
           case atStart => exact ⟨(x9_2), (0), (by first | rfl | (simp; done) | (simp [*]; done)), (by first | rfl | (simp; done) | (simp [*]; done)), H', ⟨Nat.le_refl _⟩, ⟨by (with_reducible repeat (first | apply Kd.R_alloc | apply Kd.R_drewN | apply Kd.R_drew)); exact HO_8.out⟩, ⟨by (with_reducible repeat (first | apply Kd.R_alloc | apply Kd.R_drewN | apply Kd.R_drew)); exact HO_12.out⟩, ⟨by repeat (first | (with_reducible first | exact HB.out | apply below_alloc | apply pw_below_drewN | apply below_drew1) | exact HB.out)⟩⟩
           case round =>
            clear H'
            try clear c1
            try clear c2
            try clear p2
            try clear p6
            try clear c8
            try clear p8
            try clear q8
            try clear hx8
            try clear c9
            try clear c9b0
            try clear c10
            try clear c10b0
            try clear c11
            try clear c11b0
            try clear c12
            try clear c12b0
            try clear c13
            try clear c13b0
            try clear c14
            try clear c14b0
            try clear c15
            try clear c15b0
            try clear c17
            try clear c17b0
            try clear c18
            try clear c18b0
            try clear c19
            try clear c19b0
            try clear c23
            try clear c23b0
            try clear c26
            try clear c26b0
            try clear c27
            try clear c27b0
            try clear c28
            try clear c28b0
            try clear c29
            try clear c29b0
            try clear hx851_0
            try clear hx852_0
            try clear hx853_0
            try clear hx854_0
            try clear hx858_0
            try clear hx859_0
            try clear p2
            try clear p6
            try clear p8
            try clear p851
            try clear p852
            try clear p853
            try clear p854
            try clear p858
            try clear p859
            try clear q8
            try clear q851
            try clear q852
            try clear q853
            try clear q854
            try clear q858
            try clear q859
            obtain ⟨x9_3, x61_3, rfl, rfl, HA, HK3, HO_8, HO_12, HB⟩ := hrel
            cases gk with
            | zero => exact absurd HA.out (by simp [spec_l11Path.l2])
            | succ k3 =>
             have H := HA.out
             clear HA
             simp only [spec_l11Path.l2] at H
             by_cases c31 : x61_3 < ((rd_L1 l0 x9_2).length : Int)
             ·rw [if_pos c31] at H
              have c31b0 : decide (x61_3 < ((rd_L1 l0 x9_2).length : Int)) = true := decide_eq_true c31
              clear c31
              by_cases c32 : 0 ≤ x61_3
              ·rw [if_pos c32] at H
               have c32b0 : decide (0 ≤ x61_3) = true := decide_eq_true c32
               clear c32
               by_cases c33 : x61_3 < ((rd_L1 l0 x9_2).length : Int)
               ·rw [if_pos c33] at H
                have c33b0 : decide (x61_3 < ((rd_L1 l0 x9_2).length : Int)) = true := decide_eq_true c33
                clear c33
                by_cases c34 : 0 ≤ (rd (rd_L1 l0 x9_2) x61_3)
                ·rw [if_pos c34] at H
                 have c34b0 : decide (0 ≤ (rd (rd_L1 l0 x9_2) x61_3)) = true := decide_eq_true c34
                 clear c34
                 by_cases c35 : (rd (rd_L1 l0 x9_2) x61_3) < (t848.length : Int)
                 ·rw [if_pos c35] at H
                  have c35b0 : decide ((rd (rd_L1 l0 x9_2) x61_3) < (t848.length : Int)) = true := decide_eq_true c35
                  clear c35
                  by_cases c36 : 0 ≤ x9_3
                  ·rw [if_pos c36] at H
                   have c36b0 : decide (0 ≤ x9_3) = true := decide_eq_true c36
                   clear c36
                   by_cases c37 : x9_3 < (t848.length : Int)
                   ·rw [if_pos c37] at H
                    have c37b0 : decide (x9_3 < (t848.length : Int)) = true := decide_eq_true c37
                    clear c37
                    by_cases c38 : (rd t848 (rd (rd_L1 l0 x9_2) x61_3)) = (wrap64 ((rd t848 x9_3) - 1))
                    ·rw [if_pos c38] at H
                     have c38b0 : ((rd t848 (rd (rd_L1 l0 x9_2) x61_3)) == (wrap64 ((rd t848 x9_3) - 1))) = true := beq_iff_eq.mpr c38
                     have c38b1 : ((rd t848 (rd (rd_L1 l0 x9_2) x61_3)) != (wrap64 ((rd t848 x9_3) - 1))) = false := bne_eq_false_iff_eq.mpr c38
                     clear c38
                     by_cases c39 : x12_2.length < 17592186044416
                     ·rw [if_pos c39] at H
                      have LMc39 := am_ c39
                      clear c39
                      obtain ⟨y863, hy863⟩ : ∃ y_ : List Int, y_ = (x12_2 ++ [rd (rd_L1 l0 x9_2) x61_3]) := ⟨_, rfl⟩
                      replace H : (spec_l11Path.l1 k3 l0 t848 (rd (rd_L1 l0 x9_2) x61_3) y863) = some (r1, r2) := by first | (rw [hy863]; with_reducible exact H) | (have H2_ := (Option.bind_some _ _).symm.trans H; rw [hy863]; with_reducible exact H2_) | (have H2_ := (Option.bind_some _ _).symm.trans H; with_reducible exact H2_) | with_reducible exact H | (rw [hy863]; exact H) | exact H
                      have Ny863 := am_ hy863
                      clear hy863
                      have H' := am_ H
                      clear H
                      have p860 : 0 ≤ (x61_3 : Int) := of_decide_eq_true (by first | (with_reducible assumption) | assumption)
                      have q860 : x61_3 < ((rd_L1 l0 x9_2).length : Int) := of_decide_eq_true (by first | (with_reducible assumption) | assumption)
                      obtain ⟨ad860, e860, hx860_0⟩ := Kd.at_int HR859_0.out x61_3 p860 q860
                      cases e860
                      (try replace hx860_0 := (HB.out.cell (World.block_lt_of_cell? w _ hx860_0)).trans hx860_0)
                      replace p860 := eq_true p860
                      replace q860 := eq_true q860
                      have p861 : 0 ≤ ((rd (rd_L1 l0 x9_2) x61_3) : Int) := of_decide_eq_true (by first | (with_reducible assumption) | assumption)
                      have q861 : (rd (rd_L1 l0 x9_2) x61_3) < (t848.length : Int) := of_decide_eq_true (by first | (with_reducible assumption) | assumption)
                      obtain ⟨ad861, e861, hx861_0⟩ := Kd.at_int (Kd.R_reads' HO_8.out).2.2 (rd (rd_L1 l0 x9_2) x61_3) p861 q861
                      obtain rfl : ad858 = ad861 := (by injection e861)
                      replace p861 := eq_true p861
                      replace q861 := eq_true q861
                      have p862 : 0 ≤ (x9_3 : Int) := of_decide_eq_true (by first | (with_reducible assumption) | assumption)
                      have q862 : x9_3 < (t848.length : Int) := of_decide_eq_true (by first | (with_reducible assumption) | assumption)
                      obtain ⟨ad862, e862, hx862_0⟩ := Kd.at_int (Kd.R_reads' HO_8.out).2.2 x9_3 p862 q862
                      obtain rfl : ad858 = ad862 := (by injection e862)
                      replace p862 := eq_true p862
                      replace q862 := eq_true q862
                      go_wp2_with (first | ((with_reducible refine gate_builtin (b := .append) (xs := #[.tmp 77, .tmp 79]) rfl ?_); at_builtin; refine Kd.R_append (Kd.int .i64) (w0 := w) w.heap.size rfl (.tmp 77) (.tmp 79) 31 3 (.int .i64 0) 8 rfl Try.underlying31 info3 rfl (by decide) (by omega) u12 x12_2 (rd (rd_L1 l0 x9_2) x61_3) [.int .i64 (rd (rd_L1 l0 x9_2) x61_3)] (fun k_ => some k_ ≠ (.slice (some ad858) t848.length co30 : Value).ownBlock) (fun _ => False) rfl rfl ?aP (fun _ hk => hk.elim) ?aF ?aO ?aB ?aS ?aL ?_; (case aP => exact rfl); (case aB => exact Sh.bw); (case aF => exact (fun k_ hk => Kd.fresh' (Kd.R_lt (by (with_reducible repeat (first | apply Kd.R_alloc | apply Kd.R_drewN | apply Kd.R_drew)); exact HO_8.out)) k_ hk)); (case aO => exact (by (with_reducible repeat (first | apply Kd.R_alloc | apply Kd.R_drewN | apply Kd.R_drew)); exact HO_12.out)); (case aS => exact (below_size Sh.bw)); (case aL => have := LMc39.out; omega); intro v864 w40 ho hb hg hat; rw [← Ny863.out] at ho; have n0_ := am_ (Kd.R_after (ok := (fun _ => True)) (by (with_reducible repeat (first | apply Kd.R_alloc | apply Kd.R_drewN | apply Kd.R_drew)); exact Kd.R_mono HO_8.out (fun _ hk => ⟨trivial, hk⟩)) hg hat); have n1_ := am_ (hb); have n2_ := am_ (ho); clear HO_8; clear HB; clear HO_12; have HO_8 := n0_; have HB := n1_; have HO865 := n2_; clear n0_ n1_ n2_; clear ho hb hg hat))
                      repeat (go_quiet (first | ((with_reducible refine gate_builtin (b := .append) (xs := #[.tmp 77, .tmp 79]) rfl ?_); at_builtin; refine Kd.R_append (Kd.int .i64) (w0 := w) w.heap.size rfl (.tmp 77) (.tmp 79) 31 3 (.int .i64 0) 8 rfl Try.underlying31 info3 rfl (by decide) (by omega) u12 x12_2 (rd (rd_L1 l0 x9_2) x61_3) [.int .i64 (rd (rd_L1 l0 x9_2) x61_3)] (fun k_ => some k_ ≠ (.slice (some ad858) t848.length co30 : Value).ownBlock) (fun _ => False) rfl rfl ?aP (fun _ hk => hk.elim) ?aF ?aO ?aB ?aS ?aL ?_; (case aP => exact rfl); (case aB => exact Sh.bw); (case aF => exact (fun k_ hk => Kd.fresh' (Kd.R_lt (by (with_reducible repeat (first | apply Kd.R_alloc | apply Kd.R_drewN | apply Kd.R_drew)); exact HO_8.out)) k_ hk)); (case aO => exact (by (with_reducible repeat (first | apply Kd.R_alloc | apply Kd.R_drewN | apply Kd.R_drew)); exact HO_12.out)); (case aS => exact (below_size Sh.bw)); (case aL => have := LMc39.out; omega); intro v864 w40 ho hb hg hat; rw [← Ny863.out] at ho; have n0_ := am_ (Kd.R_after (ok := (fun _ => True)) (by (with_reducible repeat (first | apply Kd.R_alloc | apply Kd.R_drewN | apply Kd.R_drew)); exact Kd.R_mono HO_8.out (fun _ hk => ⟨trivial, hk⟩)) hg hat); have n1_ := am_ (hb); have n2_ := am_ (ho); clear HO_8; clear HB; clear HO_12; have HO_8 := n0_; have HB := n1_; have HO865 := n2_; clear n0_ n1_ n2_; clear ho hb hg hat)); try go_wp2_with (first | ((with_reducible refine gate_builtin (b := .append) (xs := #[.tmp 77, .tmp 79]) rfl ?_); at_builtin; refine Kd.R_append (Kd.int .i64) (w0 := w) w.heap.size rfl (.tmp 77) (.tmp 79) 31 3 (.int .i64 0) 8 rfl Try.underlying31 info3 rfl (by decide) (by omega) u12 x12_2 (rd (rd_L1 l0 x9_2) x61_3) [.int .i64 (rd (rd_L1 l0 x9_2) x61_3)] (fun k_ => some k_ ≠ (.slice (some ad858) t848.length co30 : Value).ownBlock) (fun _ => False) rfl rfl ?aP (fun _ hk => hk.elim) ?aF ?aO ?aB ?aS ?aL ?_; (case aP => exact rfl); (case aB => exact Sh.bw); (case aF => exact (fun k_ hk => Kd.fresh' (Kd.R_lt (by (with_reducible repeat (first | apply Kd.R_alloc | apply Kd.R_drewN | apply Kd.R_drew)); exact HO_8.out)) k_ hk)); (case aO => exact (by (with_reducible repeat (first | apply Kd.R_alloc | apply Kd.R_drewN | apply Kd.R_drew)); exact HO_12.out)); (case aS => exact (below_size Sh.bw)); (case aL => have := LMc39.out; omega); intro v864 w40 ho hb hg hat; rw [← Ny863.out] at ho; have n0_ := am_ (Kd.R_after (ok := (fun _ => True)) (by (with_reducible repeat (first | apply Kd.R_alloc | apply Kd.R_drewN | apply Kd.R_drew)); exact Kd.R_mono HO_8.out (fun _ hk => ⟨trivial, hk⟩)) hg hat); have n1_ := am_ (hb); have n2_ := am_ (ho); clear HO_8; clear HB; clear HO_12; have HO_8 := n0_; have HB := n1_; have HO865 := n2_; clear n0_ n1_ n2_; clear ho hb hg hat)))
                      go_roundg k3
                      case measure => have := HK1.out; have := HK2.out; have := HK3.out; omega
                      case rel => exact ⟨(rd (rd_L1 l0 x9_2) x61_3), (y863), (by first | rfl | (simp; done) | (simp [*]; done)), H', ⟨by have := HK1.out; have := HK2.out; have := HK3.out; omega⟩, ⟨by (with_reducible repeat (first | apply Kd.R_alloc | apply Kd.R_drewN | apply Kd.R_drew)); exact Kd.R_mono HO_8.out (fun _ hk => hk.2)⟩, ⟨by (with_reducible repeat (first | apply Kd.R_alloc | apply Kd.R_drewN | apply Kd.R_drew)); exact HO865.out⟩, ⟨by repeat (first | (with_reducible first | exact HB.out | apply below_alloc | apply pw_below_drewN | apply below_drew1) | exact HB.out)⟩⟩
                     ·rw [if_neg c39] at H
                      exact absurd H (by simp)
                    ·rw [if_neg c38] at H
                     have c38b0 : ((rd t848 (rd (rd_L1 l0 x9_2) x61_3)) == (wrap64 ((rd t848 x9_3) - 1))) = false := beq_eq_false_iff_ne.mpr c38
                     have c38b1 : ((rd t848 (rd (rd_L1 l0 x9_2) x61_3)) != (wrap64 ((rd t848 x9_3) - 1))) = true := bne_iff_ne.mpr c38
                     have H' := am_ H
                     clear H
                     have p860 : 0 ≤ (x61_3 : Int) := of_decide_eq_true (by first | (with_reducible assumption) | assumption)
                     have q860 : x61_3 < ((rd_L1 l0 x9_2).length : Int) := of_decide_eq_true (by first | (with_reducible assumption) | assumption)
                     obtain ⟨ad860, e860, hx860_0⟩ := Kd.at_int HR859_0.out x61_3 p860 q860
                     cases e860
                     (try replace hx860_0 := (HB.out.cell (World.block_lt_of_cell? w _ hx860_0)).trans hx860_0)
                     replace p860 := eq_true p860
                     replace q860 := eq_true q860
                     have p861 : 0 ≤ ((rd (rd_L1 l0 x9_2) x61_3) : Int) := of_decide_eq_true (by first | (with_reducible assumption) | assumption)
                     have q861 : (rd (rd_L1 l0 x9_2) x61_3) < (t848.length : Int) := of_decide_eq_true (by first | (with_reducible assumption) | assumption)
                     obtain ⟨ad861, e861, hx861_0⟩ := Kd.at_int (Kd.R_reads' HO_8.out).2.2 (rd (rd_L1 l0 x9_2) x61_3) p861 q861
                     obtain rfl : ad858 = ad861 := (by injection e861)
                     replace p861 := eq_true p861
                     replace q861 := eq_true q861
                     have p862 : 0 ≤ (x9_3 : Int) := of_decide_eq_true (by first | (with_reducible assumption) | assumption)
                     have q862 : x9_3 < (t848.length : Int) := of_decide_eq_true (by first | (with_reducible assumption) | assumption)
                     obtain ⟨ad862, e862, hx862_0⟩ := Kd.at_int (Kd.R_reads' HO_8.out).2.2 x9_3 p862 q862
                     obtain rfl : ad858 = ad862 := (by injection e862)
                     replace p862 := eq_true p862
                     replace q862 := eq_true q862
                     go_wp2
                     repeat (go_quiet (fail); try go_wp2)
                     go_roundg k3
                     case measure => have := HK1.out; have := HK2.out; have := HK3.out; omega
                     case rel => exact ⟨(x9_3), (wrap64 (x61_3 + 1)), (by first | rfl | (simp; done) | (simp [*]; done)), (by first | rfl | (simp; done) | (simp [*]; done)), H', ⟨by have := HK1.out; have := HK2.out; have := HK3.out; omega⟩, ⟨by (with_reducible repeat (first | apply Kd.R_alloc | apply Kd.R_drewN | apply Kd.R_drew)); exact HO_8.out⟩, ⟨by (with_reducible repeat (first | apply Kd.R_alloc | apply Kd.R_drewN | apply Kd.R_drew)); exact HO_12.out⟩, ⟨by repeat (first | (with_reducible first | exact HB.out | apply below_alloc | apply pw_below_drewN | apply below_drew1) | exact HB.out)⟩⟩
                   ·rw [if_neg c37] at H
                    exact absurd H (by simp)
                  ·rw [if_neg c36] at H
                   exact absurd H (by simp)
                 ·rw [if_neg c35] at H
                  exact absurd H (by simp)
                ·rw [if_neg c34] at H
                 exact absurd H (by simp)
               ·rw [if_neg c33] at H
                exact absurd H (by simp)
              ·rw [if_neg c32] at H
               exact absurd H (by simp)
             ·rw [if_neg c31] at H
              have c31b0 : decide (x61_3 < ((rd_L1 l0 x9_2).length : Int)) = false := decide_eq_false c31
              clear c31
              by_cases c41 : x12_2.length < 17592186044416
              ·rw [if_pos c41] at H
               have LMc41 := am_ c41
               clear c41
               obtain ⟨y866, hy866⟩ : ∃ y_ : List Int, y_ = (x12_2 ++ [x9_3]) := ⟨_, rfl⟩
               replace H : (spec_l11Path.l1 k3 l0 t848 x9_3 y866) = some (r1, r2) := by first | (rw [hy866]; with_reducible exact H) | (have H2_ := (Option.bind_some _ _).symm.trans H; rw [hy866]; with_reducible exact H2_) | (have H2_ := (Option.bind_some _ _).symm.trans H; with_reducible exact H2_) | with_reducible exact H | (rw [hy866]; exact H) | exact H
               have Ny866 := am_ hy866
               clear hy866
               have H' := am_ H
               clear H
               go_wp2_with (first | ((with_reducible refine gate_builtin (b := .append) (xs := #[.tmp 77, .tmp 79]) rfl ?_); at_builtin; refine Kd.R_append (Kd.int .i64) (w0 := w) w.heap.size rfl (.tmp 77) (.tmp 79) 31 3 (.int .i64 0) 8 rfl Try.underlying31 info3 rfl (by decide) (by omega) u12 x12_2 x9_3 [.int .i64 x9_3] (fun k_ => some k_ ≠ (.slice (some ad858) t848.length co30 : Value).ownBlock) (fun _ => False) rfl rfl ?aP (fun _ hk => hk.elim) ?aF ?aO ?aB ?aS ?aL ?_; (case aP => exact rfl); (case aB => exact Sh.bw); (case aF => exact (fun k_ hk => Kd.fresh' (Kd.R_lt (by (with_reducible repeat (first | apply Kd.R_alloc | apply Kd.R_drewN | apply Kd.R_drew)); exact HO_8.out)) k_ hk)); (case aO => exact (by (with_reducible repeat (first | apply Kd.R_alloc | apply Kd.R_drewN | apply Kd.R_drew)); exact HO_12.out)); (case aS => exact (below_size Sh.bw)); (case aL => have := LMc41.out; omega); intro v867 w42 ho hb hg hat; rw [← Ny866.out] at ho; have n0_ := am_ (Kd.R_after (ok := (fun _ => True)) (by (with_reducible repeat (first | apply Kd.R_alloc | apply Kd.R_drewN | apply Kd.R_drew)); exact Kd.R_mono HO_8.out (fun _ hk => ⟨trivial, hk⟩)) hg hat); have n1_ := am_ (hb); have n2_ := am_ (ho); clear HO_8; clear HB; clear HO_12; have HO_8 := n0_; have HB := n1_; have HO868 := n2_; clear n0_ n1_ n2_; clear ho hb hg hat))
               repeat (go_quiet (first | ((with_reducible refine gate_builtin (b := .append) (xs := #[.tmp 77, .tmp 79]) rfl ?_); at_builtin; refine Kd.R_append (Kd.int .i64) (w0 := w) w.heap.size rfl (.tmp 77) (.tmp 79) 31 3 (.int .i64 0) 8 rfl Try.underlying31 info3 rfl (by decide) (by omega) u12 x12_2 x9_3 [.int .i64 x9_3] (fun k_ => some k_ ≠ (.slice (some ad858) t848.length co30 : Value).ownBlock) (fun _ => False) rfl rfl ?aP (fun _ hk => hk.elim) ?aF ?aO ?aB ?aS ?aL ?_; (case aP => exact rfl); (case aB => exact Sh.bw); (case aF => exact (fun k_ hk => Kd.fresh' (Kd.R_lt (by (with_reducible repeat (first | apply Kd.R_alloc | apply Kd.R_drewN | apply Kd.R_drew)); exact HO_8.out)) k_ hk)); (case aO => exact (by (with_reducible repeat (first | apply Kd.R_alloc | apply Kd.R_drewN | apply Kd.R_drew)); exact HO_12.out)); (case aS => exact (below_size Sh.bw)); (case aL => have := LMc41.out; omega); intro v867 w42 ho hb hg hat; rw [← Ny866.out] at ho; have n0_ := am_ (Kd.R_after (ok := (fun _ => True)) (by (with_reducible repeat (first | apply Kd.R_alloc | apply Kd.R_drewN | apply Kd.R_drew)); exact Kd.R_mono HO_8.out (fun _ hk => ⟨trivial, hk⟩)) hg hat); have n1_ := am_ (hb); have n2_ := am_ (ho); clear HO_8; clear HB; clear HO_12; have HO_8 := n0_; have HB := n1_; have HO868 := n2_; clear n0_ n1_ n2_; clear ho hb hg hat)); try go_wp2_with (first | ((with_reducible refine gate_builtin (b := .append) (xs := #[.tmp 77, .tmp 79]) rfl ?_); at_builtin; refine Kd.R_append (Kd.int .i64) (w0 := w) w.heap.size rfl (.tmp 77) (.tmp 79) 31 3 (.int .i64 0) 8 rfl Try.underlying31 info3 rfl (by decide) (by omega) u12 x12_2 x9_3 [.int .i64 x9_3] (fun k_ => some k_ ≠ (.slice (some ad858) t848.length co30 : Value).ownBlock) (fun _ => False) rfl rfl ?aP (fun _ hk => hk.elim) ?aF ?aO ?aB ?aS ?aL ?_; (case aP => exact rfl); (case aB => exact Sh.bw); (case aF => exact (fun k_ hk => Kd.fresh' (Kd.R_lt (by (with_reducible repeat (first | apply Kd.R_alloc | apply Kd.R_drewN | apply Kd.R_drew)); exact HO_8.out)) k_ hk)); (case aO => exact (by (with_reducible repeat (first | apply Kd.R_alloc | apply Kd.R_drewN | apply Kd.R_drew)); exact HO_12.out)); (case aS => exact (below_size Sh.bw)); (case aL => have := LMc41.out; omega); intro v867 w42 ho hb hg hat; rw [← Ny866.out] at ho; have n0_ := am_ (Kd.R_after (ok := (fun _ => True)) (by (with_reducible repeat (first | apply Kd.R_alloc | apply Kd.R_drewN | apply Kd.R_drew)); exact Kd.R_mono HO_8.out (fun _ hk => ⟨trivial, hk⟩)) hg hat); have n1_ := am_ (hb); have n2_ := am_ (ho); clear HO_8; clear HB; clear HO_12; have HO_8 := n0_; have HB := n1_; have HO868 := n2_; clear n0_ n1_ n2_; clear ho hb hg hat)))
               go_roundg k3
               case measure => have := HK1.out; have := HK2.out; have := HK3.out; omega
               case rel => exact ⟨(x9_3), (y866), (by first | rfl | (simp; done) | (simp [*]; done)), H', ⟨by have := HK1.out; have := HK2.out; have := HK3.out; omega⟩, ⟨by (with_reducible repeat (first | apply Kd.R_alloc | apply Kd.R_drewN | apply Kd.R_drew)); exact Kd.R_mono HO_8.out (fun _ hk => hk.2)⟩, ⟨by (with_reducible repeat (first | apply Kd.R_alloc | apply Kd.R_drewN | apply Kd.R_drew)); exact HO868.out⟩, ⟨by repeat (first | (with_reducible first | exact HB.out | apply below_alloc | apply pw_below_drewN | apply below_drew1) | exact HB.out)⟩⟩
              ·rw [if_neg c41] at H
               exact absurd H (by simp)
          ·rw [if_neg c29] at H
           exact absurd H (by simp)
         ·rw [if_neg c28] at H
          have c28b0 : decide (0 < (rd t848 x9_2)) = false := decide_eq_false c28
          clear c28
          simp only [Option.some.injEq, Prod.mk.injEq] at H
          obtain ⟨rfl, rfl⟩ := H
          obtain ⟨Ao43, co43, eo43⟩ := Kd.R_slice HO_8.out
          subst eo43
          have p858 : 0 ≤ (x9_2 : Int) := of_decide_eq_true (by first | (with_reducible assumption) | assumption)
          have q858 : x9_2 < (t848.length : Int) := of_decide_eq_true (by first | (with_reducible assumption) | assumption)
          obtain ⟨ad858, e858, hx858_0⟩ := Kd.at_int (Kd.R_reads' HO_8.out).2.2 x9_2 p858 q858
          cases e858
          replace p858 := eq_true p858
          replace q858 := eq_true q858
          go_wp2
          repeat (go_quiet (fail); try go_wp2)
          go_ret2
          exact ⟨_, Sh.eR, by (with_reducible repeat (first | apply Kd.R_alloc | apply Kd.R_drewN | apply Kd.R_drew)); exact Kd.R_mono HO_12.out (fun _ hk => trivial), Sh.bw⟩
        ·rw [if_neg c27] at H
         exact absurd H (by simp)
       ·rw [if_neg c26] at H
        exact absurd H (by simp)

end Go.Proofs.Ytbgbidgnlioomaa.P
namespace Go.Proofs.Ytbgbidgnlioomaa.P
open Go.RowKit Go.Proofs.YtbgbidgnlioomaaW.PrintWords Go.Proofs.YtbgbidgnlioomaaW.PrintLast Go.Proofs.YtbgbidgnlioomaaW.PrintMore Go.Proofs.Ytbgbidgnlioomaa.Hof
attribute [local go_sem] max2_int min2_int max_two min_two max_three min_three max_four min_four   -- for this text's walks alone
set_option linter.unusedVariables false
set_option linter.unusedSimpArgs false

/-! ### spec_ShortPath: function 59 -/
def spec_ShortPath.f (k : Nat) (l0_0 : List (List Int)) (l1 : List Int) (l2 : List Int) : Option (List Int × Bool) := (spec_GoodGraph.f k l0_0).bind fun t870 => (if t870 = true then ((spec_l11Points.f k l1 (l0_0.length : Int)).bind fun t871 => (if t871 = true then ((spec_l11Points.f k l2 (l0_0.length : Int)).bind fun t872 => (if t872 = true then ((spec_l11Path.f k l0_0 l1 l2).bind fun bt873 => (some (bt873.1, bt873.2))) else (some (([] : List Int), false)))) else (some (([] : List Int), false)))) else (some (([] : List Int), false)))
theorem spec_ShortPath.mono : ∀ a0 a1 a2 k, LeO (spec_ShortPath.f k a0 a1 a2) (spec_ShortPath.f (k + 1) a0 a1 a2) := by
 intro a0 a1 a2 k
 unfold spec_ShortPath.f
 repeat' first
   | (with_reducible exact spec_GoodGraph.mono _ _)
   | (with_reducible exact spec_l11Path.mono _ _ _ _)
   | (with_reducible exact spec_l11Points.mono _ _ _)
   | (with_reducible exact LeO.refl _)
   | (with_reducible exact LeO.none _)
   | (with_reducible refine LeO.ite ?_ ?_)
   | (with_reducible refine LeO.bind ?_ (fun _ => ?_))
   | exact spec_GoodGraph.mono _ _
   | exact spec_l11Path.mono _ _ _ _
   | exact spec_l11Points.mono _ _ _
   | exact LeO.none _
   | refine LeO.ite ?_ ?_
   | refine LeO.bind ?_ (fun _ => ?_)
set_option maxHeartbeats 8000000 in
set_option maxRecDepth 100000 in
theorem spec_ShortPath.calls (k : Nat) (A0_0 : Option Addr) (c0_0 : Nat) (l0_0 : List (List Int)) (A1 : Option Addr) (c1 : Nat) (l1 : List Int) (A2 : Option Addr) (c2 : Nat) (l2 : List Int) (r1 : List Int) (r2 : Bool) (w : World) (hr0_0 : Kd.C (Kd.slice 3 (Kd.int .i64)) w A0_0 l0_0.length l0_0) (hc0_0 : l0_0.length ≤ c0_0) (hr1 : Kd.C (Kd.int .i64) w A1 l1.length l1) (hc1 : l1.length ≤ c1) (hr2 : Kd.C (Kd.int .i64) w A2 l2.length l2) (hc2 : l2.length ≤ c2) (h : spec_ShortPath.f k l0_0 l1 l2 = some (r1, r2)) :
  Calls Try.prog 59 #[.agg #[.slice A0_0 l0_0.length c0_0], .slice A1 l1.length c1, .slice A2 l2.length c2] w fun e w' => ∃ v0_ : Value, e = .returned (.tuple #[v0_, .bool r2]) ∧ Kd.R (Kd.int .i64) 3 w' w.heap.size (fun _ => True) v0_ r1 ∧ Below w.heap.size w w' := by
 have hu46 := Try.underlying46
 have HR0_0 := am_ hr0_0
 have HC0_0 := am_ hc0_0
 clear hr0_0 hc0_0
 have HR1 := am_ hr1
 have HC1 := am_ hc1
 clear hr1 hc1
 have HR2 := am_ hr2
 have HC2 := am_ hc2
 clear hr2 hc2
 have HB := am_ (Below.refl w.heap.size w)
 have H : ((spec_GoodGraph.f k l0_0).bind fun t870 => (if t870 = true then ((spec_l11Points.f k l1 (l0_0.length : Int)).bind fun t871 => (if t871 = true then ((spec_l11Points.f k l2 (l0_0.length : Int)).bind fun t872 => (if t872 = true then ((spec_l11Path.f k l0_0 l1 l2).bind fun bt873 => (some (bt873.1, bt873.2))) else (some (([] : List Int), false)))) else (some (([] : List Int), false)))) else (some (([] : List Int), false)))) = some (r1, r2) := h
 clear h
 replace H := Option.bind_eq_some_iff.mp H
 obtain ⟨t870, A40, H⟩ := H
 replace H : (if t870 = true then ((spec_l11Points.f k l1 (l0_0.length : Int)).bind fun t871 => (if t871 = true then ((spec_l11Points.f k l2 (l0_0.length : Int)).bind fun t872 => (if t872 = true then ((spec_l11Path.f k l0_0 l1 l2).bind fun bt873 => (some (bt873.1, bt873.2))) else (some (([] : List Int), false)))) else (some (([] : List Int), false)))) else (some (([] : List Int), false))) = some (r1, r2) := H
 have A4 := am_ A40
 clear A40
 by_cases c5 : t870 = true
 ·subst c5
  have H1 : ((spec_l11Points.f k l1 (l0_0.length : Int)).bind fun t871 => (if t871 = true then ((spec_l11Points.f k l2 (l0_0.length : Int)).bind fun t872 => (if t872 = true then ((spec_l11Path.f k l0_0 l1 l2).bind fun bt873 => (some (bt873.1, bt873.2))) else (some (([] : List Int), false)))) else (some (([] : List Int), false)))) = some (r1, r2) := by rw [if_pos rfl] at H; exact H
  clear H
  have H := H1
  clear H1
  replace H := Option.bind_eq_some_iff.mp H
  obtain ⟨t871, A60, H⟩ := H
  replace H : (if t871 = true then ((spec_l11Points.f k l2 (l0_0.length : Int)).bind fun t872 => (if t872 = true then ((spec_l11Path.f k l0_0 l1 l2).bind fun bt873 => (some (bt873.1, bt873.2))) else (some (([] : List Int), false)))) else (some (([] : List Int), false))) = some (r1, r2) := H
  have A6 := am_ A60
  clear A60
  by_cases c7 : t871 = true
  ·subst c7
   have H1 : ((spec_l11Points.f k l2 (l0_0.length : Int)).bind fun t872 => (if t872 = true then ((spec_l11Path.f k l0_0 l1 l2).bind fun bt873 => (some (bt873.1, bt873.2))) else (some (([] : List Int), false)))) = some (r1, r2) := by rw [if_pos rfl] at H; exact H
   clear H
   have H := H1
   clear H1
   replace H := Option.bind_eq_some_iff.mp H
   obtain ⟨t872, A80, H⟩ := H
   replace H : (if t872 = true then ((spec_l11Path.f k l0_0 l1 l2).bind fun bt873 => (some (bt873.1, bt873.2))) else (some (([] : List Int), false))) = some (r1, r2) := H
   have A8 := am_ A80
   clear A80
   by_cases c9 : t872 = true
   ·subst c9
    have H1 : ((spec_l11Path.f k l0_0 l1 l2).bind fun bt873 => (some (bt873.1, bt873.2))) = some (r1, r2) := by rw [if_pos rfl] at H; exact H
    clear H
    have H := H1
    clear H1
    replace H := Option.bind_eq_some_iff.mp H
    obtain ⟨⟨t873, t874⟩, A100, H⟩ := H
    replace H : (some (t873, t874)) = some (r1, r2) := H
    have A10 := am_ A100
    clear A100
    simp only [Option.some.injEq, Prod.mk.injEq] at H
    obtain ⟨rfl, rfl⟩ := H
    go_enter Try.func59, Try.ntmps59
    go_wp2_with (first | ((with_reducible refine gate_dst (N := 3) rfl ?_); (try (refine gate_guard (by rfl) ?_; dsimp only)); refine Sh.bx (N := 3) (cs := #[.slice A0_0 l0_0.length c0_0]) (t := 46) (h := ?_); intro gb869 hg w11 hbox hb; have n0_ := am_ (below_step Sh.bw hb); have n1_ := am_ (hbox); have n2_ := am_ (Sh.gw (w := w) hg); have n3_ := am_ (Sh.gw (w := w) hg); clear HB; have HB := n0_; have BK869 := n1_; have GW869 := n2_; have GE869 := n3_; clear n0_ n1_ n2_ n3_; clear hb hbox hg; have hcz12_0 := Sh.bc BK869.out 0; have hfz12_0 := blk_frozen BK869.out 0) | ((with_reducible refine gate_callee (f := 79) rfl ?_); refine Sh.gL (some 9) Try.func79 #[.agg #[.slice A0_0 l0_0.length c0_0]] (h := ?_); (with_reducible refine (spec_GoodGraph.calls k _ _ l0_0 true _ (Sh.cB HR0_0.out) HC0_0.out A4.out).mono ?_); rintro e w13 ⟨rfl, hb⟩; refine ⟨_, rfl, ?_⟩; have n0_ := am_ (Sh.bb BK869.out hb); have n1_ := am_ (below_step Sh.bw hb); clear BK869; clear HB; have BK869 := n0_; have HB := n1_; clear n0_ n1_; (try clear hb); (try clear hb2); (try clear hk); (try clear hi); have hcz14_0 := Sh.bc BK869.out 0; have hfz14_0 := blk_frozen BK869.out 0) | (go_at_call 96; (with_reducible refine (spec_l11Points.calls k _ _ l1 (l0_0.length : Int) true _ (Sh.cB HR1.out) HC1.out A6.out).mono ?_); rintro e w' ⟨rfl, ⟨nd, rfl⟩⟩) | (go_at_call 96; (with_reducible refine (spec_l11Points.calls k _ _ l2 (l0_0.length : Int) true _ ?side1 ?side2 A8.out).mono ?_); (case side1 => repeat (first | exact (Kd.C_below HR2.out Sh.bw) | (with_reducible first | refine Kd.C_alloc ?_ _ | refine Kd.C_drewN ?_ _ | refine Kd.C_drew ?_))); (case side2 => exact HC2.out); rintro e w' ⟨rfl, ⟨nd, rfl⟩⟩) | ((with_reducible refine gate_callee (f := 116) rfl ?_); refine Sh.gL (some 31) Try.func116 #[.slice A0_0 l0_0.length c0_0, .slice A1 l1.length c1, .slice A2 l2.length c2] (h := ?_); (with_reducible refine (spec_l11Path.calls k _ _ l0_0 _ _ l1 _ _ l2 t873 t874 _ ?side1 ?side2 ?side3 ?side4 ?side5 ?side6 A10.out).mono ?_); (case side1 => repeat (first | exact (Kd.C_below HR0_0.out Sh.bw) | (with_reducible first | refine Kd.C_alloc ?_ _ | refine Kd.C_drewN ?_ _ | refine Kd.C_drew ?_))); (case side2 => exact HC0_0.out); (case side3 => repeat (first | exact (Kd.C_below HR1.out Sh.bw) | (with_reducible first | refine Kd.C_alloc ?_ _ | refine Kd.C_drewN ?_ _ | refine Kd.C_drew ?_))); (case side4 => exact HC1.out); (case side5 => repeat (first | exact (Kd.C_below HR2.out Sh.bw) | (with_reducible first | refine Kd.C_alloc ?_ _ | refine Kd.C_drewN ?_ _ | refine Kd.C_drew ?_))); (case side6 => exact HC2.out); rintro e w15 ⟨v875, rfl, ho0, hb⟩; refine ⟨_, rfl, ?_⟩; have n0_ := am_ (Kd.R_lower ho0 (below_size Sh.bw)); have n1_ := am_ (Sh.bb BK869.out hb); have n2_ := am_ (below_step Sh.bw hb); clear BK869; clear HB; have HO876 := n0_; have BK869 := n1_; have HB := n2_; clear n0_ n1_ n2_; (try clear hb); (try clear hb2); (try clear hk); (try clear hi); (try clear ho0)))
    go_ret2
    exact ⟨_, Sh.eR, by (with_reducible repeat (first | apply Kd.R_alloc | apply Kd.R_drewN | apply Kd.R_drew)); exact HO876.out, Sh.bw⟩
   ·replace c9 := Bool.eq_false_iff.mpr c9
    subst c9
    have H1 : (some (([] : List Int), false)) = some (r1, r2) := by rw [if_neg (show ¬ (false = true) by decide)] at H; exact H
    clear H
    have H := H1
    clear H1
    simp only [Option.some.injEq, Prod.mk.injEq] at H
    obtain ⟨rfl, rfl⟩ := H
    go_enter Try.func59, Try.ntmps59
    go_wp2_with (first | ((with_reducible refine gate_dst (N := 3) rfl ?_); (try (refine gate_guard (by rfl) ?_; dsimp only)); refine Sh.bx (N := 3) (cs := #[.slice A0_0 l0_0.length c0_0]) (t := 46) (h := ?_); intro gb869 hg w16 hbox hb; have n0_ := am_ (below_step Sh.bw hb); have n1_ := am_ (hbox); have n2_ := am_ (Sh.gw (w := w) hg); have n3_ := am_ (Sh.gw (w := w) hg); clear HB; have HB := n0_; have BK869 := n1_; have GW869 := n2_; have GE869 := n3_; clear n0_ n1_ n2_ n3_; clear hb hbox hg; have hcz17_0 := Sh.bc BK869.out 0; have hfz17_0 := blk_frozen BK869.out 0) | ((with_reducible refine gate_callee (f := 79) rfl ?_); refine Sh.gL (some 9) Try.func79 #[.agg #[.slice A0_0 l0_0.length c0_0]] (h := ?_); (with_reducible refine (spec_GoodGraph.calls k _ _ l0_0 true _ (Sh.cB HR0_0.out) HC0_0.out A4.out).mono ?_); rintro e w18 ⟨rfl, hb⟩; refine ⟨_, rfl, ?_⟩; have n0_ := am_ (Sh.bb BK869.out hb); have n1_ := am_ (below_step Sh.bw hb); clear BK869; clear HB; have BK869 := n0_; have HB := n1_; clear n0_ n1_; (try clear hb); (try clear hb2); (try clear hk); (try clear hi); have hcz19_0 := Sh.bc BK869.out 0; have hfz19_0 := blk_frozen BK869.out 0) | (go_at_call 96; (with_reducible refine (spec_l11Points.calls k _ _ l1 (l0_0.length : Int) true _ (Sh.cB HR1.out) HC1.out A6.out).mono ?_); rintro e w' ⟨rfl, ⟨nd, rfl⟩⟩) | (go_at_call 96; (with_reducible refine (spec_l11Points.calls k _ _ l2 (l0_0.length : Int) false _ ?side1 ?side2 A8.out).mono ?_); (case side1 => repeat (first | exact (Kd.C_below HR2.out Sh.bw) | (with_reducible first | refine Kd.C_alloc ?_ _ | refine Kd.C_drewN ?_ _ | refine Kd.C_drew ?_))); (case side2 => exact HC2.out); rintro e w' ⟨rfl, ⟨nd, rfl⟩⟩))
    go_ret2
    exact ⟨_, Sh.eR, by first | exact Kd.R_nil _ _ _ _ _ | exact Kd.N_nil _ _ _ _ _ | exact Kd.V_nil _ _ _ _ _ | exact Kd.Q_nil _ _ _ _ _ | exact Kd.S_nil _ _ _ _ _, Sh.bw⟩
  ·replace c7 := Bool.eq_false_iff.mpr c7
   subst c7
   have H1 : (some (([] : List Int), false)) = some (r1, r2) := by rw [if_neg (show ¬ (false = true) by decide)] at H; exact H
   clear H
   have H := H1
   clear H1
   simp only [Option.some.injEq, Prod.mk.injEq] at H
   obtain ⟨rfl, rfl⟩ := H
   go_enter Try.func59, Try.ntmps59
   go_wp2_with (first | ((with_reducible refine gate_dst (N := 3) rfl ?_); (try (refine gate_guard (by rfl) ?_; dsimp only)); refine Sh.bx (N := 3) (cs := #[.slice A0_0 l0_0.length c0_0]) (t := 46) (h := ?_); intro gb869 hg w20 hbox hb; have n0_ := am_ (below_step Sh.bw hb); have n1_ := am_ (hbox); have n2_ := am_ (Sh.gw (w := w) hg); have n3_ := am_ (Sh.gw (w := w) hg); clear HB; have HB := n0_; have BK869 := n1_; have GW869 := n2_; have GE869 := n3_; clear n0_ n1_ n2_ n3_; clear hb hbox hg; have hcz21_0 := Sh.bc BK869.out 0; have hfz21_0 := blk_frozen BK869.out 0) | ((with_reducible refine gate_callee (f := 79) rfl ?_); refine Sh.gL (some 9) Try.func79 #[.agg #[.slice A0_0 l0_0.length c0_0]] (h := ?_); (with_reducible refine (spec_GoodGraph.calls k _ _ l0_0 true _ (Sh.cB HR0_0.out) HC0_0.out A4.out).mono ?_); rintro e w22 ⟨rfl, hb⟩; refine ⟨_, rfl, ?_⟩; have n0_ := am_ (Sh.bb BK869.out hb); have n1_ := am_ (below_step Sh.bw hb); clear BK869; clear HB; have BK869 := n0_; have HB := n1_; clear n0_ n1_; (try clear hb); (try clear hb2); (try clear hk); (try clear hi); have hcz23_0 := Sh.bc BK869.out 0; have hfz23_0 := blk_frozen BK869.out 0) | (go_at_call 96; (with_reducible refine (spec_l11Points.calls k _ _ l1 (l0_0.length : Int) false _ (Sh.cB HR1.out) HC1.out A6.out).mono ?_); rintro e w' ⟨rfl, ⟨nd, rfl⟩⟩))
   go_ret2
   exact ⟨_, Sh.eR, by first | exact Kd.R_nil _ _ _ _ _ | exact Kd.N_nil _ _ _ _ _ | exact Kd.V_nil _ _ _ _ _ | exact Kd.Q_nil _ _ _ _ _ | exact Kd.S_nil _ _ _ _ _, Sh.bw⟩
 ·replace c5 := Bool.eq_false_iff.mpr c5
  subst c5
  have H1 : (some (([] : List Int), false)) = some (r1, r2) := by rw [if_neg (show ¬ (false = true) by decide)] at H; exact H
  clear H
  have H := H1
  clear H1
  simp only [Option.some.injEq, Prod.mk.injEq] at H
  obtain ⟨rfl, rfl⟩ := H
  go_enter Try.func59, Try.ntmps59
  go_wp2_with (first | ((with_reducible refine gate_dst (N := 3) rfl ?_); (try (refine gate_guard (by rfl) ?_; dsimp only)); refine Sh.bx (N := 3) (cs := #[.slice A0_0 l0_0.length c0_0]) (t := 46) (h := ?_); intro gb869 hg w24 hbox hb; have n0_ := am_ (below_step Sh.bw hb); have n1_ := am_ (hbox); have n2_ := am_ (Sh.gw (w := w) hg); have n3_ := am_ (Sh.gw (w := w) hg); clear HB; have HB := n0_; have BK869 := n1_; have GW869 := n2_; have GE869 := n3_; clear n0_ n1_ n2_ n3_; clear hb hbox hg; have hcz25_0 := Sh.bc BK869.out 0; have hfz25_0 := blk_frozen BK869.out 0) | ((with_reducible refine gate_callee (f := 79) rfl ?_); refine Sh.gL (some 9) Try.func79 #[.agg #[.slice A0_0 l0_0.length c0_0]] (h := ?_); (with_reducible refine (spec_GoodGraph.calls k _ _ l0_0 false _ (Sh.cB HR0_0.out) HC0_0.out A4.out).mono ?_); rintro e w26 ⟨rfl, hb⟩; refine ⟨_, rfl, ?_⟩; have n0_ := am_ (Sh.bb BK869.out hb); have n1_ := am_ (below_step Sh.bw hb); clear BK869; clear HB; have BK869 := n0_; have HB := n1_; clear n0_ n1_; (try clear hb); (try clear hb2); (try clear hk); (try clear hi)))
  go_ret2
  exact ⟨_, Sh.eR, by first | exact Kd.R_nil _ _ _ _ _ | exact Kd.N_nil _ _ _ _ _ | exact Kd.V_nil _ _ _ _ _ | exact Kd.Q_nil _ _ _ _ _ | exact Kd.S_nil _ _ _ _ _, Sh.bw⟩

end Go.Proofs.Ytbgbidgnlioomaa.P
namespace Go.Proofs.Ytbgbidgnlioomaa.P
open Go.RowKit Go.Proofs.YtbgbidgnlioomaaW.PrintWords Go.Proofs.YtbgbidgnlioomaaW.PrintLast Go.Proofs.YtbgbidgnlioomaaW.PrintMore Go.Proofs.Ytbgbidgnlioomaa.Hof
attribute [local go_sem] max2_int min2_int max_two min_two max_three min_three max_four min_four   -- for this text's walks alone
set_option linter.unusedVariables false
set_option linter.unusedSimpArgs false

/-! ### impl_turned: function 83 -/
mutual
def impl_turned.l0 : Nat → List (List Int) → List (List Int) → Int → Int → Option ((List (List Int)))
 | 0, _, _, _, _ => none
 | k + 1, x3, x11, x12, x13 => if x13 < x12 then (if 0 ≤ x13 then (if x13 < (x11.length : Int) then (impl_turned.l1 k x3 x13 x11 x12 x13 (rd_L1 x11 x13) ((rd_L1 x11 x13).length : Int) 0) else (none)) else (none)) else (some x3)
def impl_turned.l1 : Nat → List (List Int) → Int → List (List Int) → Int → Int → List Int → Int → Int → Option ((List (List Int)))
 | 0, _, _, _, _, _, _, _, _ => none
 | k + 1, x3, x4, x11, x12, x13, x18, x19, x20 => if x20 < x19 then (if 0 ≤ x20 then (if x20 < (x18.length : Int) then (if 0 ≤ (rd x18 x20) then (if (rd x18 x20) < (x3.length : Int) then (if (rd_L1 x3 (rd x18 x20)).length < 17592186044416 then (impl_turned.l1 k (x3.set ((rd x18 x20) : Int).toNat ((rd_L1 x3 (rd x18 x20)) ++ [x4])) x4 x11 x12 x13 x18 x19 (wrap64 (x20 + 1))) else (none)) else (none)) else (none)) else (none)) else (none)) else (impl_turned.l0 k x3 x11 x12 (wrap64 (x13 + 1)))
end
def impl_turned.f (k : Nat) (l0 : List (List Int)) : Option ((List (List Int))) := if 0 ≤ (l0.length : Int) then (if ((l0.length : Int) : Int).toNat ≤ 11728124029610 then (impl_turned.l0 k (List.replicate ((l0.length : Int) : Int).toNat []) l0 (l0.length : Int) 0) else (none)) else (none)
theorem impl_turned.mono_l : ∀ k, (∀ y0 y1 y2 y3, LeO (impl_turned.l0 k y0 y1 y2 y3) (impl_turned.l0 (k + 1) y0 y1 y2 y3)) ∧ (∀ y0 y1 y2 y3 y4 y5 y6 y7, LeO (impl_turned.l1 k y0 y1 y2 y3 y4 y5 y6 y7) (impl_turned.l1 (k + 1) y0 y1 y2 y3 y4 y5 y6 y7))
 | 0 => ⟨fun _ _ _ _ r h => by simp [impl_turned.l0] at h, fun _ _ _ _ _ _ _ _ r h => by simp [impl_turned.l1] at h⟩
 | k + 1 => by
  obtain ⟨ih0, ih1⟩ := impl_turned.mono_l k
  refine ⟨?_, ?_⟩
  ·intro y0 y1 y2 y3
   unfold impl_turned.l0
   repeat' first
   | (with_reducible exact ih0 _ _ _ _)
   | (with_reducible exact ih1 _ _ _ _ _ _ _ _)
   | (with_reducible exact LeO.refl _)
   | (with_reducible exact LeO.none _)
   | (with_reducible refine LeO.ite ?_ ?_)
   | (with_reducible refine LeO.bind ?_ (fun _ => ?_))
   | exact ih0 _ _ _ _
   | exact ih1 _ _ _ _ _ _ _ _
   | exact LeO.none _
   | refine LeO.ite ?_ ?_
   | refine LeO.bind ?_ (fun _ => ?_)
  ·intro y0 y1 y2 y3 y4 y5 y6 y7
   unfold impl_turned.l1
   repeat' first
   | (with_reducible exact ih0 _ _ _ _)
   | (with_reducible exact ih1 _ _ _ _ _ _ _ _)
   | (with_reducible exact LeO.refl _)
   | (with_reducible exact LeO.none _)
   | (with_reducible refine LeO.ite ?_ ?_)
   | (with_reducible refine LeO.bind ?_ (fun _ => ?_))
   | exact ih0 _ _ _ _
   | exact ih1 _ _ _ _ _ _ _ _
   | exact LeO.none _
   | refine LeO.ite ?_ ?_
   | refine LeO.bind ?_ (fun _ => ?_)
theorem impl_turned.mono : ∀ a0 k, LeO (impl_turned.f k a0) (impl_turned.f (k + 1) a0) := by
 intro a0 k
 obtain ⟨ih0, ih1⟩ := impl_turned.mono_l k
 unfold impl_turned.f
 repeat' first
   | (with_reducible exact ih0 _ _ _ _)
   | (with_reducible exact ih1 _ _ _ _ _ _ _ _)
   | (with_reducible exact LeO.refl _)
   | (with_reducible exact LeO.none _)
   | (with_reducible refine LeO.ite ?_ ?_)
   | (with_reducible refine LeO.bind ?_ (fun _ => ?_))
   | exact ih0 _ _ _ _
   | exact ih1 _ _ _ _ _ _ _ _
   | exact LeO.none _
   | refine LeO.ite ?_ ?_
   | refine LeO.bind ?_ (fun _ => ?_)
set_option maxHeartbeats 8000000 in
set_option maxRecDepth 100000 in
theorem impl_turned.calls (k : Nat) (A0 : Option Addr) (c0 : Nat) (l0 : List (List Int)) (r : List (List Int)) (w : World) (hr0 : Kd.C (Kd.slice 3 (Kd.int .i64)) w A0 l0.length l0) (hc0 : l0.length ≤ c0) (h : impl_turned.f k l0 = some r) :
  Calls Try.prog 83 #[.slice A0 l0.length c0] w fun e w' => ∃ v0_ : Value, e = .returned (v0_) ∧ Kd.S (Kd.slice 3 (Kd.int .i64)) 31 w' w.heap.size (fun _ => True) v0_ r ∧ Below w.heap.size w w' := by
 have HR0 := am_ hr0
 have HC0 := am_ hc0
 clear hr0 hc0
 have HB := am_ (Below.refl w.heap.size w)
 have H : (if 0 ≤ (l0.length : Int) then (if ((l0.length : Int) : Int).toNat ≤ 11728124029610 then (impl_turned.l0 k (List.replicate ((l0.length : Int) : Int).toNat []) l0 (l0.length : Int) 0) else (none)) else (none)) = some r := h
 clear h
 by_cases c2 : 0 ≤ (l0.length : Int)
 ·rw [if_pos c2] at H
  have c2b0 := eq_true c2
  have c2b1 : decide (0 ≤ (l0.length : Int)) = true := decide_eq_true c2
  clear c2
  by_cases c3 : ((l0.length : Int) : Int).toNat ≤ 11728124029610
  ·rw [if_pos c3] at H
   have c3b0 := eq_true c3
   have c3b1 : decide (((l0.length : Int) : Int).toNat ≤ 11728124029610) = true := decide_eq_true c3
   clear c3
   obtain ⟨y877, hy877⟩ : ∃ y_ : List (List Int), y_ = (List.replicate ((l0.length : Int) : Int).toNat []) := ⟨_, rfl⟩
   replace H : (impl_turned.l0 k y877 l0 (l0.length : Int) 0) = some r := by first | (rw [hy877]; with_reducible exact H) | (have H2_ := (Option.bind_some _ _).symm.trans H; rw [hy877]; with_reducible exact H2_) | (have H2_ := (Option.bind_some _ _).symm.trans H; with_reducible exact H2_) | with_reducible exact H | (rw [hy877]; exact H) | exact H
   have Ny877 := am_ hy877
   clear hy877
   have H' := am_ H
   clear H
   go_enter Try.func83, Try.ntmps83
   go_wp2_with (first | ((with_reducible refine gate_dst (N := 10) rfl ?_); refine Kd.S_make (Kd.slice 3 (Kd.int .i64)) _ 31 rfl (N := 10) rfl 42 _ _ rfl (l0.length : Int) rfl rfl Try.underlying42 (.slice none 0 0) 24 info31 rfl (by decide) (by omega) [] (ok := fun _ => True) (okp := fun _ => True) ⟨_, rfl, Kd.R_nil _ _ _ _ _⟩ (fun _ hk => hk) trivial (of_decide_eq_true (by first | (with_reducible assumption) | assumption)) (Nat.le_trans (Nat.mul_le_mul_right _ (of_decide_eq_true (by first | (with_reducible assumption) | assumption) : (l0.length : Int).toNat ≤ 11728124029610)) (by omega)) (Below.refl _ _) (Nat.le_refl _) ?_; intro v878 w4 ho5 hb hg_ hnew_; clear hg_ hnew_; (first | rw [← Ny877.out] at ho5 | (simp only [Int.reduceToNat] at ho5; rw [← Ny877.out] at ho5)); have n0_ := am_ (Kd.S_lower ho5 (below_size Sh.bw)); have n1_ := am_ (below_step Sh.bw hb); clear HB; have HO879 := n0_; have HB := n1_; clear n0_ n1_; clear hb ho5))
   go_loopg [13] k (fun kq v13 w' => ∃ (x3_1 : List (List Int)) (x13_1 : Int), v13 = .int .i64 x13_1 ∧ Aside0 (impl_turned.l0 kq x3_1 l0 (l0.length : Int) x13_1 = some r) ∧ Aside0 (kq ≤ k) ∧ Aside0 (Kd.S (Kd.slice 3 (Kd.int .i64)) 31 w' w.heap.size (fun _ => True) v878 x3_1) ∧ Aside0 (Below w.heap.size w w'))
   case atStart => exact ⟨(y877), (0), (by first | rfl | (simp; done) | (simp [*]; done)), H', ⟨Nat.le_refl _⟩, ⟨by (with_reducible repeat (first | apply Kd.S_alloc | apply Kd.S_drewN | apply Kd.S_drew)); exact HO879.out⟩, ⟨by repeat (first | (with_reducible first | exact HB.out | apply below_alloc | apply pw_below_drewN | apply below_drew1) | exact HB.out)⟩⟩
   case round =>
    clear H'
    try clear c2
    try clear c2b0
    try clear c2b1
    try clear p2
    try clear c3
    try clear c3b0
    try clear c3b1
    obtain ⟨x3_1, x13_1, rfl, HA, HK1, HO_3, HB⟩ := hrel
    cases gk with
    | zero => exact absurd HA.out (by simp [impl_turned.l0])
    | succ k1 =>
     have H := HA.out
     clear HA
     simp only [impl_turned.l0] at H
     by_cases c6 : x13_1 < (l0.length : Int)
     ·rw [if_pos c6] at H
      have c6b0 : decide (x13_1 < (l0.length : Int)) = true := decide_eq_true c6
      clear c6
      by_cases c7 : 0 ≤ x13_1
      ·rw [if_pos c7] at H
       have c7b0 : decide (0 ≤ x13_1) = true := decide_eq_true c7
       clear c7
       by_cases c8 : x13_1 < (l0.length : Int)
       ·rw [if_pos c8] at H
        have c8b0 : decide (x13_1 < (l0.length : Int)) = true := decide_eq_true c8
        clear c8
        have H' := am_ H
        clear H
        have p880 : 0 ≤ (x13_1 : Int) := of_decide_eq_true (by first | (with_reducible assumption) | assumption)
        have q880 : x13_1 < (l0.length : Int) := of_decide_eq_true (by first | (with_reducible assumption) | assumption)
        obtain ⟨ad880, A880_0, c880_0, e880, hx880_0, hl880_0, hi880_0⟩ := at_L1 HR0.out x13_1 p880 q880
        cases e880
        (try replace hx880_0 := (HB.out.cell (World.block_lt_of_cell? w _ hx880_0)).trans hx880_0)
        have HR880_0 := am_ hi880_0
        have HC880_0 := am_ hl880_0
        clear hi880_0 hl880_0
        replace p880 := eq_true p880
        replace q880 := eq_true q880
        go_wp2
        go_loopg [20] k1 (fun kq v20 w' => ∃ (x3_2 : List (List Int)) (x20_2 : Int), v20 = .int .i64 x20_2 ∧ Aside0 (impl_turned.l1 kq x3_2 x13_1 l0 (l0.length : Int) x13_1 (rd_L1 l0 x13_1) ((rd_L1 l0 x13_1).length : Int) x20_2 = some r) ∧ Aside0 (kq ≤ k1) ∧ Aside0 (Kd.S (Kd.slice 3 (Kd.int .i64)) 31 w' w.heap.size (fun _ => True) v878 x3_2) ∧ Aside0 (Below w.heap.size w w'))
        case atStart => exact ⟨(x3_1), (0), (by first | rfl | (simp; done) | (simp [*]; done)), H', ⟨Nat.le_refl _⟩, ⟨by (with_reducible repeat (first | apply Kd.S_alloc | apply Kd.S_drewN | apply Kd.S_drew)); exact HO_3.out⟩, ⟨by repeat (first | (with_reducible first | exact HB.out | apply below_alloc | apply pw_below_drewN | apply below_drew1) | exact HB.out)⟩⟩
        case round =>
         clear H'
         try clear c2
         try clear c2b0
         try clear c2b1
         try clear p2
         try clear c3
         try clear c3b0
         try clear c3b1
         try clear c6
         try clear c6b0
         try clear c7
         try clear c7b0
         try clear c8
         try clear c8b0
         try clear p8
         try clear q8
         try clear hx8
         try clear hx880_0
         try clear p2
         try clear p880
         try clear q880
         obtain ⟨x3_2, x20_2, rfl, HA, HK2, HO_3, HB⟩ := hrel
         cases gk with
         | zero => exact absurd HA.out (by simp [impl_turned.l1])
         | succ k2 =>
          have H := HA.out
          clear HA
          simp only [impl_turned.l1] at H
          by_cases c9 : x20_2 < ((rd_L1 l0 x13_1).length : Int)
          ·rw [if_pos c9] at H
           have c9b0 : decide (x20_2 < ((rd_L1 l0 x13_1).length : Int)) = true := decide_eq_true c9
           clear c9
           by_cases c10 : 0 ≤ x20_2
           ·rw [if_pos c10] at H
            have c10b0 : decide (0 ≤ x20_2) = true := decide_eq_true c10
            clear c10
            by_cases c11 : x20_2 < ((rd_L1 l0 x13_1).length : Int)
            ·rw [if_pos c11] at H
             have c11b0 : decide (x20_2 < ((rd_L1 l0 x13_1).length : Int)) = true := decide_eq_true c11
             clear c11
             by_cases c12 : 0 ≤ (rd (rd_L1 l0 x13_1) x20_2)
             ·rw [if_pos c12] at H
              have c12b0 : decide (0 ≤ (rd (rd_L1 l0 x13_1) x20_2)) = true := decide_eq_true c12
              clear c12
              by_cases c13 : (rd (rd_L1 l0 x13_1) x20_2) < (x3_2.length : Int)
              ·rw [if_pos c13] at H
               have c13b0 : decide ((rd (rd_L1 l0 x13_1) x20_2) < (x3_2.length : Int)) = true := decide_eq_true c13
               clear c13
               by_cases c14 : (rd_L1 x3_2 (rd (rd_L1 l0 x13_1) x20_2)).length < 17592186044416
               ·rw [if_pos c14] at H
                have LMc14 := am_ c14
                clear c14
                obtain ⟨y883, hy883⟩ : ∃ y_ : List Int, y_ = ((rd_L1 x3_2 (rd (rd_L1 l0 x13_1) x20_2)) ++ [x13_1]) := ⟨_, rfl⟩
                replace H : (impl_turned.l1 k2 (x3_2.set ((rd (rd_L1 l0 x13_1) x20_2) : Int).toNat y883) x13_1 l0 (l0.length : Int) x13_1 (rd_L1 l0 x13_1) ((rd_L1 l0 x13_1).length : Int) (wrap64 (x20_2 + 1))) = some r := by first | (rw [hy883]; with_reducible exact H) | (have H2_ := (Option.bind_some _ _).symm.trans H; rw [hy883]; with_reducible exact H2_) | (have H2_ := (Option.bind_some _ _).symm.trans H; with_reducible exact H2_) | with_reducible exact H | (rw [hy883]; exact H) | exact H
                have Ny883 := am_ hy883
                clear hy883
                obtain ⟨y886, hy886⟩ : ∃ y_ : List (List Int), y_ = (x3_2.set ((rd (rd_L1 l0 x13_1) x20_2) : Int).toNat y883) := ⟨_, rfl⟩
                replace H : (impl_turned.l1 k2 y886 x13_1 l0 (l0.length : Int) x13_1 (rd_L1 l0 x13_1) ((rd_L1 l0 x13_1).length : Int) (wrap64 (x20_2 + 1))) = some r := by first | (rw [hy886]; with_reducible exact H) | (have H2_ := (Option.bind_some _ _).symm.trans H; rw [hy886]; with_reducible exact H2_) | (have H2_ := (Option.bind_some _ _).symm.trans H; with_reducible exact H2_) | with_reducible exact H | (rw [hy886]; exact H) | exact H
                have Ny886 := am_ hy886
                clear hy886
                have H' := am_ H
                clear H
                have p881 : 0 ≤ (x20_2 : Int) := of_decide_eq_true (by first | (with_reducible assumption) | assumption)
                have q881 : x20_2 < ((rd_L1 l0 x13_1).length : Int) := of_decide_eq_true (by first | (with_reducible assumption) | assumption)
                obtain ⟨ad881, e881, hx881_0⟩ := Kd.at_int HR880_0.out x20_2 p881 q881
                cases e881
                (try replace hx881_0 := (HB.out.cell (World.block_lt_of_cell? w _ hx881_0)).trans hx881_0)
                replace p881 := eq_true p881
                replace q881 := eq_true q881
                obtain ⟨Ao16, co16, eo16⟩ := Kd.S_slice HO_3.out
                subst eo16
                have p882 : 0 ≤ ((rd (rd_L1 l0 x13_1) x20_2) : Int) := of_decide_eq_true (by first | (with_reducible assumption) | assumption)
                have q882 : (rd (rd_L1 l0 x13_1) x20_2) < (x3_2.length : Int) := of_decide_eq_true (by first | (with_reducible assumption) | assumption)
                obtain ⟨ad882, A882_0, c882_0, e882, hx882_0, hl882_0, hi882_0⟩ := at_L1 (Kd.S_reads' HO_3.out).2.2 (rd (rd_L1 l0 x13_1) x20_2) p882 q882
                cases e882
                obtain ⟨ce882, hce882, hMe882, hcc882⟩ := Kd.S_get HO_3.out [] (rd (rd_L1 l0 x13_1) x20_2) p882 (by first | exact q882 | exact of_decide_eq_true (by first | (with_reducible assumption) | assumption) | (have e_ := (Kd.S_reads' HO_3.out).1; omega))
                obtain ⟨ve882_0, rfl, ge882_0⟩ := hMe882
                have hv882_0 := hcc882 0 _ rfl
                rw [Nat.add_zero, show ((Kd.slice 3 (Kd.int .i64))).sz = 1 from rfl, Nat.mul_one] at hv882_0
                replace hv882_0 := Option.some.inj (hv882_0.symm.trans hx882_0)
                rw [hv882_0] at ge882_0
                have HL882_0 := am_ (show Kd.R (Kd.int .i64) 3 _ _ _ _ (rd_L1 x3_2 (rd (rd_L1 l0 x13_1) x20_2)) from ge882_0)
                clear hv882_0 ge882_0
                have HX882_0 := am_ hx882_0
                clear hcc882 hce882
                have HR882_0 := am_ hi882_0
                have HC882_0 := am_ hl882_0
                clear hi882_0 hl882_0
                replace p882 := eq_true p882
                replace q882 := eq_true q882
                obtain ⟨go17, co17, eo17, gb17, gl17, cl17, HG17⟩ := Kd.S_form HO_3.out (by have h_ : ((rd (rd_L1 l0 x13_1) x20_2) : Int) < ((x3_2.length : Int) : Int) := of_decide_eq_true (by first | (with_reducible assumption) | assumption); have h2_ : 0 ≤ ((rd (rd_L1 l0 x13_1) x20_2) : Int) := (of_decide_eq_true (by first | (with_reducible assumption) | assumption)); omega)
                (first | cases eo17 | (injection eo17 with ea_ en_ ec_; (first | subst ea_ | (injection ea_ with ea_; subst ea_)); subst ec_; clear en_))
                have GB17 := am_ gb17
                have GG17 := am_ HG17
                clear gb17 gl17 HG17
                (first | simp only [add_plain] at hx882_0 | skip)
                obtain ⟨oki17, ce17, hcl17, hM17, hcc17, _, _, hH17⟩ := Kd.S_elem HO_3.out [] ((rd (rd_L1 l0 x13_1) x20_2) : Int) (of_decide_eq_true (by first | (with_reducible assumption) | assumption)) (by have h_ : ((rd (rd_L1 l0 x13_1) x20_2) : Int) < ((x3_2.length : Int) : Int) := of_decide_eq_true (by first | (with_reducible assumption) | assumption); first | exact h_ | (have e_ := (Kd.S_reads' HO_3.out).1; omega) | simpa using h_)
                obtain ⟨ve17_0, rfl, ge17_0⟩ := hM17
                have hv17 := hcc17 0 _ rfl
                have hX17 := HX882_0.out
                (try simp only [add_plain] at hX17)
                (try simp only [Nat.add_zero] at hv17)
                (try rw [show ((Kd.slice 3 (Kd.int .i64))).sz = 1 from rfl, Nat.mul_one] at hv17)
                replace hv17 := Option.some.inj (hv17.symm.trans hX17)
                subst hv17
                clear hX17 hcc17 hcl17
                have UU17 := am_ (show Kd.R (Kd.int .i64) 3 _ w.heap.size oki17 (.slice A882_0 (rd_L1 x3_2 (rd (rd_L1 l0 x13_1) x20_2)).length c882_0) (rd_L1 x3_2 (rd (rd_L1 l0 x13_1) x20_2)) from ge17_0)
                have HH17 := am_ hH17
                have HN17 := am_ (Kd.S_reads' HO_3.out).1
                clear hH17 ge17_0
                go_wp2_with (first | ((with_reducible refine gate_builtin (b := .append) (xs := #[.tmp 29, .tmp 31]) rfl ?_); at_builtin; refine Kd.R_append (Kd.int .i64) (w0 := w) w.heap.size rfl (.tmp 29) (.tmp 31) 31 3 (.int .i64 0) 8 rfl Try.underlying31 info3 rfl (by decide) (by omega) (.slice A882_0 (rd_L1 x3_2 (rd (rd_L1 l0 x13_1) x20_2)).length c882_0) (rd_L1 x3_2 (rd (rd_L1 l0 x13_1) x20_2)) x13_1 [.int .i64 x13_1] (fun k_ => oki17 k_ ∨ ((fun _ => True)) k_ ∧ wr.heap.size ≤ k_) (fun _ => False) rfl rfl ?aP (fun _ hk => hk.elim) ?aF ?aO ?aB ?aS ?aL ?_; (case aP => exact rfl); (case aB => exact Sh.bw); (case aF => exact (fun k_ hk => .inr ⟨trivial, hk⟩)); (case aO => exact (by (with_reducible repeat (first | apply Kd.R_alloc | apply Kd.R_drewN | apply Kd.R_drew)); exact Kd.R_mono UU17.out (fun _ hk => .inl hk))); (case aS => exact (below_size Sh.bw)); (case aL => have := LMc14.out; omega); intro v884 w18 ho hb hg hat; rw [← Ny883.out] at ho; have n0_ := am_ (hb); have n1_ := am_ (Kd.H_grown (Kd.H_widen (by repeat (first | exact HH17.out | refine Kd.H_alloc ?_ _ | refine Kd.H_drewN ?_ _ | refine Kd.H_drew ?_))) hg (fun k_ e_ => .inl (UU17.out.1 k_ e_))); have n2_ := am_ (ho); clear HB; clear HH17; clear HO_3; clear UU17; clear HL882_0; have HB := n0_; have HH17 := n1_; have HO885 := n2_; clear n0_ n1_ n2_; clear ho hb hg hat; have p15 : 0 ≤ ((rd (rd_L1 l0 x13_1) x20_2) : Int) := of_decide_eq_true (by first | (with_reducible assumption) | assumption); have q15 : ((rd (rd_L1 l0 x13_1) x20_2) : Int) < ((x3_2.length : Int) : Int) := of_decide_eq_true (by first | (with_reducible assumption) | assumption); replace p15 := eq_true p15; replace q15 := eq_true q15; obtain ⟨Ao21, co21, eo21⟩ := Kd.R_slice HO885.out; subst eo21; obtain ⟨_, _, hraw19, _, _, hcc19, _⟩ := Kd.H_raw HH17.out (of_decide_eq_true (by first | (with_reducible assumption) | assumption)) (by have h_ : ((rd (rd_L1 l0 x13_1) x20_2) : Int) < ((x3_2.length : Int) : Int) := of_decide_eq_true (by first | (with_reducible assumption) | assumption); first | exact h_ | (have e_ := (HN17.out); omega) | simpa using h_); obtain ⟨_, hfr19⟩ := Kd.H_at HH17.out (of_decide_eq_true (by first | (with_reducible assumption) | assumption)) (by have h_ : ((rd (rd_L1 l0 x13_1) x20_2) : Int) < ((x3_2.length : Int) : Int) := of_decide_eq_true (by first | (with_reducible assumption) | assumption); first | exact h_ | (have e_ := (HN17.out); omega) | simpa using h_); have hx19_0 := hcc19 0 _ rfl; have hf19_0 := hfr19 0; (try simp only [Nat.add_zero] at hx19_0 hf19_0); (try rw [show ((Kd.slice 3 (Kd.int .i64))).sz = 1 from rfl, Nat.mul_one] at hx19_0); (try rw [show ((Kd.slice 3 (Kd.int .i64))).sz = 1 from rfl, Nat.mul_one] at hf19_0); have HP19 := Kd.S_seg0 HH17.out (of_decide_eq_true (by first | (with_reducible assumption) | assumption)) (by have h_ : ((rd (rd_L1 l0 x13_1) x20_2) : Int) < ((x3_2.length : Int) : Int) := of_decide_eq_true (by first | (with_reducible assumption) | assumption); first | exact h_ | (have e_ := (HN17.out); omega) | simpa using h_) (seg := [.slice Ao21 y883.length co21]) (j := 0) (show 1 ≤ 1 from by decide) (x' := y883) (Kd.M_row HO885.out) (fun _ hk => hk); (try simp only [show ((Kd.slice 3 (Kd.int .i64))).sz = 1 from rfl, Nat.mul_one, Nat.add_zero] at HP19); clear hcc19 hfr19) | ((with_reducible refine gate_store (t := 31) (p := 33) rfl ?_); refine store_event (t := 31) (p := 33) (v := ?vo_w20) (w1 := (w18.setCell ⟨go17, ((rd (rd_L1 l0 x13_1) x20_2) : Int).toNat, none⟩ (.slice Ao21 y883.length co21))) ?hg ?ho ?hn ?hr ?_; (case ho => rfl); (case hg => rfl); (case hn => rfl); (case hr => first | (go_simp; done) | (go_simp; rfl)); intro w20 hw; have hg : w18.grownBy w20 (some go17) := (by rw [hw]; exact HP19.2); have hp_ : Kd.S (Kd.slice 3 (Kd.int .i64)) 31 w20 w.heap.size (fun _ => True) (.slice (some ⟨go17, 0, none⟩) x3_2.length co16) y886 := (by rw [hw, Ny886.out]; exact HP19.1); clear HP19; have n0_ := am_ ((by rw [hw]; exact below_set HB.out GB17.out : Below w.heap.size w w20)); have n1_ := am_ (hp_); clear HB; clear HO885; clear HH17; have HB := n0_; have HO_3 := n1_; clear n0_ n1_; clear hg hw hp_ hraw19))
                go_roundg k2
                case measure => have := HK1.out; have := HK2.out; omega
                case rel => exact ⟨(y886), (wrap64 (x20_2 + 1)), (by first | rfl | (simp; done) | (simp [*]; done)), H', ⟨by have := HK1.out; have := HK2.out; omega⟩, ⟨by (with_reducible repeat (first | apply Kd.S_alloc | apply Kd.S_drewN | apply Kd.S_drew)); exact HO_3.out⟩, ⟨by repeat (first | (with_reducible first | exact HB.out | apply below_alloc | apply pw_below_drewN | apply below_drew1) | exact HB.out)⟩⟩
               ·rw [if_neg c14] at H
                exact absurd H (by simp)
              ·rw [if_neg c13] at H
               exact absurd H (by simp)
             ·rw [if_neg c12] at H
              exact absurd H (by simp)
            ·rw [if_neg c11] at H
             exact absurd H (by simp)
           ·rw [if_neg c10] at H
            exact absurd H (by simp)
          ·rw [if_neg c9] at H
           have c9b0 : decide (x20_2 < ((rd_L1 l0 x13_1).length : Int)) = false := decide_eq_false c9
           clear c9
           have H' := am_ H
           clear H
           go_wp2
           go_roundg k2
           case measure => have := HK1.out; have := HK2.out; omega
           case rel => exact ⟨(x3_2), (wrap64 (x13_1 + 1)), (by first | rfl | (simp; done) | (simp [*]; done)), H', ⟨by have := HK1.out; have := HK2.out; omega⟩, ⟨by (with_reducible repeat (first | apply Kd.S_alloc | apply Kd.S_drewN | apply Kd.S_drew)); exact HO_3.out⟩, ⟨by repeat (first | (with_reducible first | exact HB.out | apply below_alloc | apply pw_below_drewN | apply below_drew1) | exact HB.out)⟩⟩
       ·rw [if_neg c8] at H
        exact absurd H (by simp)
      ·rw [if_neg c7] at H
       exact absurd H (by simp)
     ·rw [if_neg c6] at H
      have c6b0 : decide (x13_1 < (l0.length : Int)) = false := decide_eq_false c6
      clear c6
      obtain rfl := Option.some.inj H
      go_wp2
      go_ret
      exact ⟨_, Sh.eR, by (with_reducible repeat (first | apply Kd.S_alloc | apply Kd.S_drewN | apply Kd.S_drew)); exact HO_3.out, Sh.bw⟩
  ·rw [if_neg c3] at H
   exact absurd H (by simp)
 ·rw [if_neg c2] at H
  exact absurd H (by simp)

end Go.Proofs.Ytbgbidgnlioomaa.P
namespace Go.Proofs.Ytbgbidgnlioomaa.P
open Go.RowKit Go.Proofs.YtbgbidgnlioomaaW.PrintWords Go.Proofs.YtbgbidgnlioomaaW.PrintLast Go.Proofs.YtbgbidgnlioomaaW.PrintMore Go.Proofs.Ytbgbidgnlioomaa.Hof
attribute [local go_sem] max2_int min2_int max_two min_two max_three min_three max_four min_four   -- for this text's walks alone
set_option linter.unusedVariables false
set_option linter.unusedSimpArgs false

/-! ### impl_leastWay_1: function 147 -/
def impl_leastWay_1.f (a0 : Int) (l1_0 : List Int) (a2_0 : Int) : Option (Bool) := if 0 ≤ a0 then (if a0 < (l1_0.length : Int) then (if 0 ≤ a2_0 then (if a2_0 < (l1_0.length : Int) then (some ((rd l1_0 a0) == (wrap64 ((rd l1_0 a2_0) - 1)))) else (none)) else (none)) else (none)) else (none)
set_option maxHeartbeats 8000000 in
set_option maxRecDepth 100000 in
theorem impl_leastWay_1.calls (a0 : Int) (bp1 : Nat) (A1_0 : Option Addr) (c1_0 : Nat) (l1_0 : List Int) (bp2 : Nat) (a2_0 : Int) (r : Bool) (w : World) (hr1_0 : Kd.C (Kd.int .i64) w A1_0 l1_0.length l1_0) (hc1_0 : l1_0.length ≤ c1_0) (hb1 : w.heap[bp1]? = some (.cells #[.slice A1_0 l1_0.length c1_0] 31 (0, 0))) (hb2 : w.heap[bp2]? = some (.cells #[.int .i64 a2_0] 3 (0, 0))) (hd1_2 : bp1 ≠ bp2) (h : impl_leastWay_1.f a0 l1_0 a2_0 = some r) :
  Calls Try.prog 147 #[.int .i64 a0, .pointer (some ⟨bp1, 0, none⟩), .pointer (some ⟨bp2, 0, none⟩)] w fun e w' => e = .returned (.bool r) ∧ Drawn0 w w' := by
 have HR1_0 := am_ hr1_0
 have HC1_0 := am_ hc1_0
 clear hr1_0 hc1_0
 have HX1 := am_ hb1
 clear hb1
 have HX2 := am_ hb2
 clear hb2
 have NB1_2 := am_ hd1_2
 have NB2_1 := am_ hd1_2.symm
 clear hd1_2
 have H : (if 0 ≤ a0 then (if a0 < (l1_0.length : Int) then (if 0 ≤ a2_0 then (if a2_0 < (l1_0.length : Int) then (some ((rd l1_0 a0) == (wrap64 ((rd l1_0 a2_0) - 1)))) else (none)) else (none)) else (none)) else (none)) = some r := h
 clear h
 by_cases c4 : 0 ≤ a0
 ·rw [if_pos c4] at H
  have c4b0 : decide (0 ≤ a0) = true := decide_eq_true c4
  clear c4
  by_cases c5 : a0 < (l1_0.length : Int)
  ·rw [if_pos c5] at H
   have c5b0 : decide (a0 < (l1_0.length : Int)) = true := decide_eq_true c5
   clear c5
   by_cases c6 : 0 ≤ a2_0
   ·rw [if_pos c6] at H
    have c6b0 : decide (0 ≤ a2_0) = true := decide_eq_true c6
    clear c6
    by_cases c7 : a2_0 < (l1_0.length : Int)
    ·rw [if_pos c7] at H
     have c7b0 : decide (a2_0 < (l1_0.length : Int)) = true := decide_eq_true c7
     clear c7
     obtain rfl := Option.some.inj H
     have hnb8 := NB1_2.out
     have hnc8 := NB2_1.out
     have hcz9_0 : w.cell? ⟨bp1, 0, none⟩ = some (.slice A1_0 l1_0.length c1_0) := (blk_cell HX1.out 0).trans rfl
     have hfz9_0 := blk_frozen HX1.out 0
     have p887 : 0 ≤ (a0 : Int) := of_decide_eq_true (by first | (with_reducible assumption) | assumption)
     have q887 : a0 < (l1_0.length : Int) := of_decide_eq_true (by first | (with_reducible assumption) | assumption)
     obtain ⟨ad887, e887, hx887_0⟩ := Kd.at_int HR1_0.out a0 p887 q887
     cases e887
     replace p887 := eq_true p887
     replace q887 := eq_true q887
     have hcz10_0 : w.cell? ⟨bp2, 0, none⟩ = some (.int .i64 a2_0) := (blk_cell HX2.out 0).trans rfl
     have hfz10_0 := blk_frozen HX2.out 0
     have p888 : 0 ≤ (a2_0 : Int) := of_decide_eq_true (by first | (with_reducible assumption) | assumption)
     have q888 : a2_0 < (l1_0.length : Int) := of_decide_eq_true (by first | (with_reducible assumption) | assumption)
     obtain ⟨ad888, e888, hx888_0⟩ := Kd.at_int HR1_0.out a2_0 p888 q888
     obtain rfl : ad887 = ad888 := (by injection e888)
     replace p888 := eq_true p888
     replace q888 := eq_true q888
     go_enter Try.func147, Try.ntmps147
     go_wp2
     repeat (go_quiet (fail); try go_wp2)
     go_ret
     exact ⟨by first | rfl | (simp; done) | (simp [*]; done), by repeat (first | exact Drawn0.refl _ | apply Drawn0.step)⟩
    ·rw [if_neg c7] at H
     exact absurd H (by simp)
   ·rw [if_neg c6] at H
    exact absurd H (by simp)
  ·rw [if_neg c5] at H
   exact absurd H (by simp)
 ·rw [if_neg c4] at H
  exact absurd H (by simp)

end Go.Proofs.Ytbgbidgnlioomaa.P
namespace Go.Proofs.Ytbgbidgnlioomaa.P
open Go.RowKit Go.Proofs.YtbgbidgnlioomaaW.PrintWords Go.Proofs.YtbgbidgnlioomaaW.PrintLast Go.Proofs.YtbgbidgnlioomaaW.PrintMore Go.Proofs.Ytbgbidgnlioomaa.Hof
attribute [local go_sem] max2_int min2_int max_two min_two max_three min_three max_four min_four   -- for this text's walks alone
set_option linter.unusedVariables false
set_option linter.unusedSimpArgs false

/-! ### slices_IndexFunc_int_int_146_by_impl_leastWay_1: function 146 by function 147 -/
def slices_IndexFunc_int_int_146_by_impl_leastWay_1.f (l0 : List Int) (l1_0 : List Int) (a2_0 : Int) : Option (Int) := idxO (fun x_ => impl_leastWay_1.f x_ l1_0 a2_0) l0 0
set_option maxHeartbeats 2000000 in
theorem slices_IndexFunc_int_int_146_by_impl_leastWay_1.calls (A0 : Option Addr) (c0 : Nat) (l0 : List Int) (bp1 : Nat) (A1_0 : Option Addr) (c1_0 : Nat) (l1_0 : List Int) (bp2 : Nat) (a2_0 : Int) (r : Int) (w : World) (hr0 : Kd.C (Kd.int .i64) w A0 l0.length l0) (hc0 : l0.length ≤ c0) (hr1_0 : Kd.C (Kd.int .i64) w A1_0 l1_0.length l1_0) (hc1_0 : l1_0.length ≤ c1_0) (hb1 : w.heap[bp1]? = some (.cells #[.slice A1_0 l1_0.length c1_0] 31 (0, 0))) (hb2 : w.heap[bp2]? = some (.cells #[.int .i64 a2_0] 3 (0, 0))) (hd1_2 : bp1 ≠ bp2) (h : slices_IndexFunc_int_int_146_by_impl_leastWay_1.f l0 l1_0 a2_0 = some r) :
  Calls Try.prog 146 #[.slice A0 l0.length c0, .func (.func 147) #[] #[.pointer (some ⟨bp1, 0, none⟩), .pointer (some ⟨bp2, 0, none⟩)]] w fun e w' => e = .returned (.int .i64 r) ∧ Below w.heap.size w w' := by
 refine slices_IndexFunc_int_int_146.gen 147 #[.pointer (some ⟨bp1, 0, none⟩), .pointer (some ⟨bp2, 0, none⟩)] (enters_of Try.func147 (by kernel_rfl) rfl) _ A0 c0 l0 r w hr0 hc0 ?_ h
 intro W x b hB_ hin_ hq_
 refine (impl_leastWay_1.calls x bp1 _ _ l1_0 bp2 a2_0 b W (Kd.C_below hr1_0 hB_) hc1_0 ((hB_.block _ (blk_lt hb1)).trans hb1) ((hB_.block _ (blk_lt hb2)).trans hb2) hd1_2 hq_).mono ?_
 rintro e w' ⟨rfl, hd_⟩
 exact ⟨rfl, hd_.below⟩

end Go.Proofs.Ytbgbidgnlioomaa.P
