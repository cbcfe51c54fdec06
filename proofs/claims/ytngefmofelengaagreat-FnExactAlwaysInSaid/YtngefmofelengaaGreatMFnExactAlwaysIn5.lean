/- Go functions of this seat as Lean functions, and the proofs that the calls come to what these say; printed by a program of this session. No condition. -/
import Derived.Test.YtngefmofelengaaGreatP0
import Derived.Test.YtngefmofelengaaGreatMFnExactAlwaysIn4
import Derived.Test.YtngefmofelengaaGreatMFnExactAlwaysIn3
import Derived.Test.YtngefmofelengaaGreatMFnExactAlwaysIn1
set_option linter.unusedVariables false
set_option linter.unusedSimpArgs false
set_option maxHeartbeats 40000000
set_option maxRecDepth 100000
namespace Go.Proofs.YtngefmofelengaaGreat.P
open Go.RowKit Go.Proofs.YtngefmofelengaaGreatW.PrintWords Go.Proofs.YtngefmofelengaaGreatW.PrintLast Go.Proofs.YtngefmofelengaaGreatW.PrintMore Go.Proofs.YtngefmofelengaaGreat.Hof
attribute [local go_sem] max2_int min2_int max_two min_two max_three min_three max_four min_four
mutual
def impl_stepsFrom.l0 : Nat → List (List Int) → List Int → List Int → List Int → Int → Int → Option (List Int)
 | 0, _, _, _, _, _, _ => none
 | k + 1, x0, x5, x6, x17, x18, x19 => if x19 < x18 then (if 0 ≤ x19 then (if x19 < (x17.length : Int) then (if 0 ≤ (rd x17 x19) then (if (rd x17 x19) < (x5.length : Int) then (impl_stepsFrom.l0 k x0 (x5.set ((rd x17 x19) : Int).toNat 0) x6 x17 x18 (wrap64 (x19 + 1))) else (none)) else (none)) else (none)) else (none)) else (impl_stepsFrom.l1 k x0 x5 x6)
def impl_stepsFrom.l1 : Nat → List (List Int) → List Int → List Int → Option (List Int)
 | 0, _, _, _ => none
 | k + 1, x0, x5, x6 => if (x6.length : Int) > 0 then (if 0 < (x6.length : Int) then (if 0 ≤ (rd x6 0) then (if (rd x6 0) < (x0.length : Int) then (impl_stepsFrom.l2 k x0 x5 x6 (rd_L12 x0 (rd x6 0)) ((rd_L12 x0 (rd x6 0)).length : Int) 0) else (none)) else (none)) else (none)) else (some x5)
def impl_stepsFrom.l2 : Nat → List (List Int) → List Int → List Int → List Int → Int → Int → Option (List Int)
 | 0, _, _, _, _, _, _ => none
 | k + 1, x0, x5, x6, x37, x38, x39 => if x39 < x38 then (if 0 ≤ x39 then (if x39 < (x37.length : Int) then (if 0 ≤ (rd x37 x39) then (if (rd x37 x39) < (x5.length : Int) then (if (rd x5 (rd x37 x39)) < 0 then (if 0 < (x6.length : Int) then (if 0 ≤ (rd x6 0) then (if (rd x6 0) < (x5.length : Int) then (if x6.length < 17592186044416 then (impl_stepsFrom.l2 k x0 (x5.set ((rd x37 x39) : Int).toNat (wrap64 ((rd x5 (rd x6 0)) + 1))) (x6 ++ [rd x37 x39]) x37 x38 (wrap64 (x39 + 1))) else (none)) else (none)) else (none)) else (none)) else (impl_stepsFrom.l2 k x0 x5 x6 x37 x38 (wrap64 (x39 + 1)))) else (none)) else (none)) else (none)) else (none)) else (if 1 ≤ (x6.length : Int) then (impl_stepsFrom.l1 k x0 x5 (x6.drop (1 : Int).toNat)) else (none))
end
def impl_stepsFrom.f (k : Nat) (l0 : List (List Int)) (l1 : List Int) : Option (List Int) := (slices_Repeat_int_int.f (([(-1)] : List Int)) (l0.length : Int)).bind fun t717 => ((slices_Clone_int_int.f l1).bind fun t720 => (impl_stepsFrom.l0 k l0 t717 t720 l1 (l1.length : Int) 0))
theorem impl_stepsFrom.mono_l : ∀ k, (∀ y0 y1 y2 y3 y4 y5, LeO (impl_stepsFrom.l0 k y0 y1 y2 y3 y4 y5) (impl_stepsFrom.l0 (k + 1) y0 y1 y2 y3 y4 y5)) ∧ (∀ y0 y1 y2, LeO (impl_stepsFrom.l1 k y0 y1 y2) (impl_stepsFrom.l1 (k + 1) y0 y1 y2)) ∧ (∀ y0 y1 y2 y3 y4 y5, LeO (impl_stepsFrom.l2 k y0 y1 y2 y3 y4 y5) (impl_stepsFrom.l2 (k + 1) y0 y1 y2 y3 y4 y5))
 | 0 => ⟨fun _ _ _ _ _ _ r h => by simp [impl_stepsFrom.l0] at h, fun _ _ _ r h => by simp [impl_stepsFrom.l1] at h, fun _ _ _ _ _ _ r h => by simp [impl_stepsFrom.l2] at h⟩
 | k + 1 => by
  obtain ⟨ih0, ih1, ih2⟩ := impl_stepsFrom.mono_l k
  and_intros <;> intros
  all_goals (first | unfold impl_stepsFrom.l0 | unfold impl_stepsFrom.l1 | unfold impl_stepsFrom.l2)
  all_goals repeat' with_reducible first | apply ih0 | apply ih1 | apply ih2 | exact LeO.refl _ | exact LeO.none _ | apply LeO.ite | refine LeO.bind ?_ fun _ => ?_
theorem impl_stepsFrom.mono : ∀ a0 a1 k, LeO (impl_stepsFrom.f k a0 a1) (impl_stepsFrom.f (k + 1) a0 a1) := by
 intro a0 a1 k
 obtain ⟨ih0, ih1, ih2⟩ := impl_stepsFrom.mono_l k
 unfold impl_stepsFrom.f
 repeat' with_reducible first | apply ih0 | apply ih1 | apply ih2 | exact LeO.refl _ | exact LeO.none _ | apply LeO.ite | refine LeO.bind ?_ fun _ => ?_
theorem impl_stepsFrom.calls (k : Nat) (A0 : Option Addr) (c0 : Nat) (l0 : List (List Int)) (A1 : Option Addr) (c1 : Nat) (l1 : List Int) (r : List Int) (w : World) (hr0 : Kd.C (Kd.slice 3 (Kd.int .i64)) w A0 l0.length l0) (hc0 : l0.length ≤ c0) (hr1 : Kd.C (Kd.int .i64) w A1 l1.length l1) (hc1 : l1.length ≤ c1) (h : impl_stepsFrom.f k l0 l1 = some r) :
  Calls Tryz.prog 70 #[.slice A0 l0.length c0, .slice A1 l1.length c1] w fun e w' => ∃ v0_ : Value, e = .returned (v0_) ∧ Kd.R (Kd.int .i64) 3 w' w.heap.size (fun _ => True) v0_ r ∧ Below w.heap.size w w' := by
 have HR0 := am_ hr0
 have HC0 := am_ hc0
 clear hr0 hc0
 have HR1 := am_ hr1
 have HC1 := am_ hc1
 clear hr1 hc1
 have HB := am_ (Below.refl w.heap.size w)
 have H := h
 clear h
 unfold impl_stepsFrom.f at H
 obtain ⟨y714, hy714⟩ : ∃ y_ : List Int, y_ = (([(-1)] : List Int)) := ⟨_, rfl⟩
 replace H : ((slices_Repeat_int_int.f y714 (l0.length : Int)).bind fun t717 => ((slices_Clone_int_int.f l1).bind fun t720 => (impl_stepsFrom.l0 k l0 t717 t720 l1 (l1.length : Int) 0))) = some r := by first | (rw [hy714]; with_reducible exact H) | (have H2_ := (Option.bind_some _ _).symm.trans H; rw [hy714]; with_reducible exact H2_) | (have H2_ := (Option.bind_some _ _).symm.trans H; with_reducible exact H2_) | with_reducible exact H | (rw [hy714]; exact H) | exact H
 have Ny714 := am_ hy714
 clear hy714
 obtain ⟨t717, A3, H⟩ := Sh.ba H
 obtain ⟨t720, A4, H⟩ := Sh.ba H
 have H' := am_ H
 clear H
 go_enter Tryz.func70, Tryz.ntmps70
 go_wp2_with (first | ((with_reducible refine Sh.d 11 ?_); refine Kd.R_lit (Kd.int .i64) _ 3 ?hg (N := 11) ?hd (xs := ([(-1)] : List Int)) (inner := [.int .i64 (-1)]) (ok := fun _ => True) (okp := fun _ => True) ?hr ?hp (fun _ hk => hk) trivial (Below.refl _ _) (Nat.le_refl _) (by simp) ?_; (case hd => rfl); (case hg => rfl); (case hr => first | (go_simp; done) | (go_simp; rfl)); (case hp => exact (Reps.one (show Kd.M (Kd.int .i64) _ _ _ (-1) [.int .i64 (-1)] from rfl) (Reps.none _ _))); intro v715 w5 ho6 hb hg_ hnew_; clear hg_ hnew_; (first | rw [← Ny714.out] at ho6 | (simp only [Int.reduceToNat] at ho6; rw [← Ny714.out] at ho6)); have HO716 := am_ (Kd.R_lower ho6 (below_size Sh.bw)); replace HB := Sh.hb hb; clear hb ho6; obtain ⟨Ao7, co7, eo7⟩ := Kd.R_slice HO716.out; subst eo7) | ((with_reducible refine Sh.k 105 ?_); refine Sh.gL (some 14) Tryz.func105 #[.slice Ao7 y714.length co7, .int .i64 (l0.length : Int)] (h := ?_); (with_reducible refine (slices_Repeat_int_int.calls _ _ y714 (l0.length : Int) t717 _ (Sh.cR (Kd.R_reads' HO716.out).2.2) (Kd.R_reads' HO716.out).2.1 A3.out).mono ?_); rintro e w8 ⟨v718, rfl, ho0, hb⟩; refine ⟨_, rfl, ?_⟩; have HO719 := am_ (Kd.R_lower (Kd.R_new' ho0 (Kd.R_lt (Sh.rl HO716.out))) (below_size Sh.bw)); replace HO716 := am_ (Kd.R_elder' (Sh.rl HO716.out) (Kd.R_base ho0) hb); replace HB := Sh.hb hb; (try clear hb); (try clear hb2); (try clear hk); (try clear hi); (try clear ho0)) | ((with_reducible refine Sh.k 106 ?_); refine Sh.gL (some 16) Tryz.func106 #[.slice A1 l1.length c1] (h := ?_); (with_reducible refine (slices_Clone_int_int.calls _ _ l1 t720 _ (Sh.cB HR1.out) HC1.out A4.out).mono ?_); rintro e w9 ⟨v721, rfl, ho0, hb⟩; refine ⟨_, rfl, ?_⟩; have HO722 := am_ (Kd.R_lower (Kd.R_new' (Kd.R_new' ho0 (Kd.R_lt (Sh.rl HO716.out))) (Kd.R_lt (Sh.rl HO719.out))) (below_size Sh.bw)); replace HO716 := am_ (Kd.R_elder' (Sh.rl HO716.out) (Kd.R_base ho0) hb); replace HO719 := am_ (Kd.R_elder' (Sh.rl HO719.out) (Kd.R_base ho0) hb); replace HB := Sh.hb hb; (try clear hb); (try clear hb2); (try clear hk); (try clear hi); (try clear ho0)))
 go_loopg [19] k (fun kq v19 w' => ∃ (x5_1 : List Int) (x19_1 : Int), v19 = .int .i64 x19_1 ∧ Aside0 (impl_stepsFrom.l0 kq l0 x5_1 t720 l1 (l1.length : Int) x19_1 = some r) ∧ Aside0 (kq ≤ k) ∧ Aside0 (Kd.R (Kd.int .i64) 3 w' w.heap.size (fun k_ => some k_ ≠ (v721 : Value).ownBlock) v718 x5_1) ∧ Aside0 (Kd.Q (Kd.int .i64) 3 w' w.heap.size (fun k_ => some k_ ≠ (v718 : Value).ownBlock) v721 t720) ∧ Aside0 (Below w.heap.size w w'))
 case atStart => exact ⟨(t717), (0), (Sh.es), H', ⟨Nat.le_refl _⟩, ⟨Sh.rl (Kd.R_mono HO719.out (fun _ hk => hk.2))⟩, ⟨Kd.Q_of_R (Sh.rl (Kd.R_mono HO722.out (fun _ hk => hk.2)))⟩, ⟨Sh.bw⟩⟩
 case round =>
  clear H'
  obtain ⟨x5_1, x19_1, rfl, HA, HK1, HO_5, HO_6, HB⟩ := hrel
  cases gk with
  | zero => exact absurd HA.out (by simp [impl_stepsFrom.l0])
  | succ k1 =>
   have H := HA.out
   clear HA
   simp only [impl_stepsFrom.l0] at H
   by_cases c10 : x19_1 < (l1.length : Int)
   ·rw [if_pos c10] at H
    have c10b0 := decide_eq_true c10
    clear c10
    by_cases c11 : 0 ≤ x19_1
    ·rw [if_pos c11] at H
     have c11b0 := decide_eq_true c11
     clear c11
     by_cases c12 : x19_1 < (l1.length : Int)
     ·rw [if_pos c12] at H
      have c12b0 := decide_eq_true c12
      clear c12
      by_cases c13 : 0 ≤ (rd l1 x19_1)
      ·rw [if_pos c13] at H
       have c13b0 := decide_eq_true c13
       clear c13
       by_cases c14 : (rd l1 x19_1) < (x5_1.length : Int)
       ·rw [if_pos c14] at H
        have c14b0 := decide_eq_true c14
        clear c14
        obtain ⟨y724, hy724⟩ : ∃ y_ : List Int, y_ = (x5_1.set ((rd l1 x19_1) : Int).toNat 0) := ⟨_, rfl⟩
        replace H : (impl_stepsFrom.l0 k1 l0 y724 t720 l1 (l1.length : Int) (wrap64 (x19_1 + 1))) = some r := by first | (rw [hy724]; with_reducible exact H) | (have H2_ := (Option.bind_some _ _).symm.trans H; rw [hy724]; with_reducible exact H2_) | (have H2_ := (Option.bind_some _ _).symm.trans H; with_reducible exact H2_) | with_reducible exact H | (rw [hy724]; exact H) | exact H
        have Ny724 := am_ hy724
        clear hy724
        have H' := am_ H
        clear H
        have p723 : 0 ≤ (x19_1 : Int) := Sh.od
        have q723 : x19_1 < (l1.length : Int) := Sh.od
        obtain ⟨ad723, e723, hx723_0⟩ := Kd.at_int HR1.out x19_1 p723 q723
        cases e723
        try replace hx723_0 := Sh.cw hx723_0
        replace p723 := eq_true p723
        replace q723 := eq_true q723
        have p15 : 0 ≤ ((rd l1 x19_1) : Int) := Sh.od
        have q15 : ((rd l1 x19_1) : Int) < ((x5_1.length : Int) : Int) := Sh.od
        obtain ⟨go15, co15, eo15, gb15, gl15, cl15, HG15⟩ := Kd.R_form HO_5.out (by omega)
        (first | cases eo15 | (injection eo15 with ea_ en_ ec_; (first | subst ea_ | (injection ea_ with ea_; subst ea_)); subst ec_; clear en_))
        have GB15 := am_ gb15
        have GG15 := am_ HG15
        clear gb15 gl15 HG15
        obtain ⟨hx15_0, hf15_0⟩ := Kd.R_celln 0 HO_5.out ((rd l1 x19_1) : Int) p15 q15
        replace p15 := eq_true p15
        replace q15 := eq_true q15
        have HP16 := Kd.R_putg HO_5.out ((rd l1 x19_1) : Int) 0
        go_wp2_with (first | ((with_reducible refine gate_store (t := 3) (p := 25) rfl ?_); refine store_event (t := 3) (p := 25) (v := ?vo_w17) (w1 := (wr.setCell ⟨go15, ((rd l1 x19_1) : Int).toNat, none⟩ (.int .i64 0))) ?hg ?ho ?hn ?hr ?_; (case ho => rfl); (case hg => rfl); (case hn => rfl); (case hr => first | (go_simp; done) | (go_simp; rfl)); intro w17 hw; have hg : wr.grownBy w17 (some go15) := (by rw [hw]; exact HP16.2); have hp_ : Kd.R (Kd.int .i64) 3 w17 w.heap.size (fun k_ => some k_ ≠ (v721 : Value).ownBlock) (.slice (some ⟨go15, 0, none⟩) x5_1.length co15) y724 := (by rw [hw, Ny724.out]; exact HP16.1); clear HP16; replace HO_5 := am_ hp_; replace HO_6 := am_ (Kd.Q_after (v := (.slice (some ⟨go15, 0, none⟩) x5_1.length co15)) (v1 := (.slice (some ⟨go15, 0, none⟩) x5_1.length co15)) (ok := (fun _ => True)) (by (with_reducible repeat (first | apply Kd.Q_alloc | apply Kd.Q_drewN | apply Kd.Q_drew)); exact Kd.Q_mono HO_6.out (fun _ hk => ⟨trivial, hk⟩)) hg (.inl rfl)); replace HB := am_ ((by rw [hw]; exact below_set (HB.out) GB15.out : Below w.heap.size w w17)); clear hg hw hp_))
        go_roundg k1
        case measure => have := HK1.out; omega
        case rel => exact ⟨(y724), (wrap64 (x19_1 + 1)), (Sh.es), H', ⟨by have := HK1.out; omega⟩, ⟨Sh.rl HO_5.out⟩, ⟨by (with_reducible repeat (first | apply Kd.Q_alloc | apply Kd.Q_drewN | apply Kd.Q_drew)); exact Kd.Q_mono HO_6.out (fun _ hk => hk.2)⟩, ⟨Sh.bw⟩⟩
       ·rw [if_neg c14] at H
        exact absurd H (by simp)
      ·rw [if_neg c13] at H
       exact absurd H (by simp)
     ·rw [if_neg c12] at H
      exact absurd H (by simp)
    ·rw [if_neg c11] at H
     exact absurd H (by simp)
   ·rw [if_neg c10] at H
    have c10b0 := decide_eq_false c10
    clear c10
    have H' := am_ H
    clear H
    go_wp2
    go_loopg [6] k1 (fun kq v6 w' => ∃ (x5_2 : List Int) (x6_2 : List Int), Aside0 (impl_stepsFrom.l1 kq l0 x5_2 x6_2 = some r) ∧ Aside0 (kq ≤ k1) ∧ Aside0 (Kd.R (Kd.int .i64) 3 w' w.heap.size (fun k_ => some k_ ≠ (v6 : Value).ownBlock) v718 x5_2) ∧ Aside0 (Kd.Q (Kd.int .i64) 3 w' w.heap.size (fun k_ => some k_ ≠ (v718 : Value).ownBlock) v6 x6_2) ∧ Aside0 (Below w.heap.size w w'))
    case atStart => exact ⟨(x5_1), (t720), H', ⟨Nat.le_refl _⟩, ⟨Sh.rl HO_5.out⟩, ⟨by (with_reducible repeat (first | apply Kd.Q_alloc | apply Kd.Q_drewN | apply Kd.Q_drew)); exact HO_6.out⟩, ⟨Sh.bw⟩⟩
    case round =>
     clear H'
     try clear hx1
     try clear hx7
     try clear hx15
     try clear hf15
     try clear hx15_0
     try clear hx723_0
     obtain ⟨x5_2, x6_2, HA, HK2, HO_5, HO_6, HB⟩ := hrel
     cases gk with
     | zero => exact absurd HA.out (by simp [impl_stepsFrom.l1])
     | succ k2 =>
      have H := HA.out
      clear HA
      simp only [impl_stepsFrom.l1] at H
      by_cases c18 : (x6_2.length : Int) > 0
      ·rw [if_pos c18] at H
       have c18b0 : decide (0 < (x6_2.length : Int)) = true := decide_eq_true c18
       have c18b1 : decide (0 < x6_2.length) = true := decide_eq_true (by omega)
       clear c18
       by_cases c19 : 0 < (x6_2.length : Int)
       ·rw [if_pos c19] at H
        have c19b0 := decide_eq_true c19
        have c19b1 : decide (0 < x6_2.length) = true := decide_eq_true (by omega)
        clear c19
        by_cases c20 : 0 ≤ (rd x6_2 0)
        ·rw [if_pos c20] at H
         have c20b0 := decide_eq_true c20
         clear c20
         by_cases c21 : (rd x6_2 0) < (l0.length : Int)
         ·rw [if_pos c21] at H
          have c21b0 := decide_eq_true c21
          clear c21
          have H' := am_ H
          clear H
          obtain ⟨Ao22, co22, eo22, _⟩ := Kd.Q_slice HO_6.out
          subst eo22
          have p725 : 0 ≤ (0 : Int) := (by omega)
          have q725 : 0 < (x6_2.length : Int) := Sh.od
          obtain ⟨ad725, e725, hx725_0⟩ := Kd.at_int (Kd.Q_reads' HO_6.out).2.2 0 p725 q725
          cases e725
          have qi725 : (0 < x6_2.length) = True := eq_true (by omega)
          (try rw [show ((0 : Int)).toNat = 0 from rfl] at hx725_0)
          (try rw [Addr.add_zero'] at hx725_0)
          replace p725 := eq_true p725
          replace q725 := eq_true q725
          have p726 : 0 ≤ ((rd x6_2 0) : Int) := Sh.od
          have q726 : (rd x6_2 0) < (l0.length : Int) := Sh.od
          obtain ⟨ad726, A726_0, c726_0, e726, hx726_0, hl726_0, hi726_0⟩ := at_L12 HR0.out (rd x6_2 0) p726 q726
          cases e726
          try replace hx726_0 := Sh.cw hx726_0
          have HR726_0 := am_ hi726_0
          have HC726_0 := am_ hl726_0
          clear hi726_0 hl726_0
          replace p726 := eq_true p726
          replace q726 := eq_true q726
          go_wp2
          go_loopg [6, 39] k2 (fun kq v6 v39 w' => ∃ (x5_3 : List Int) (x6_3 : List Int) (x39_3 : Int), v39 = .int .i64 x39_3 ∧ Aside0 (impl_stepsFrom.l2 kq l0 x5_3 x6_3 (rd_L12 l0 (rd x6_2 0)) ((rd_L12 l0 (rd x6_2 0)).length : Int) x39_3 = some r) ∧ Aside0 (kq ≤ k2) ∧ Aside0 (Kd.R (Kd.int .i64) 3 w' w.heap.size (fun k_ => some k_ ≠ (v6 : Value).ownBlock) v718 x5_3) ∧ Aside0 (Kd.Q (Kd.int .i64) 3 w' w.heap.size (fun k_ => some k_ ≠ (v718 : Value).ownBlock) v6 x6_3) ∧ Aside0 (Below w.heap.size w w'))
          case atStart => exact ⟨(x5_2), (x6_2), (0), (Sh.es), H', ⟨Nat.le_refl _⟩, ⟨Sh.rl HO_5.out⟩, ⟨by (with_reducible repeat (first | apply Kd.Q_alloc | apply Kd.Q_drewN | apply Kd.Q_drew)); exact HO_6.out⟩, ⟨Sh.bw⟩⟩
          case round =>
           clear H'
           try clear hx1
           try clear hx7
           try clear qi7
           try clear hx15
           try clear hf15
           try clear hx15_0
           try clear hx723_0
           try clear hx725_0
           try clear hx726_0
           obtain ⟨x5_3, x6_3, x39_3, rfl, HA, HK3, HO_5, HO_6, HB⟩ := hrel
           cases gk with
           | zero => exact absurd HA.out (by simp [impl_stepsFrom.l2])
           | succ k3 =>
            have H := HA.out
            clear HA
            simp only [impl_stepsFrom.l2] at H
            by_cases c23 : x39_3 < ((rd_L12 l0 (rd x6_2 0)).length : Int)
            ·rw [if_pos c23] at H
             have c23b0 := decide_eq_true c23
             clear c23
             by_cases c24 : 0 ≤ x39_3
             ·rw [if_pos c24] at H
              have c24b0 := decide_eq_true c24
              clear c24
              by_cases c25 : x39_3 < ((rd_L12 l0 (rd x6_2 0)).length : Int)
              ·rw [if_pos c25] at H
               have c25b0 := decide_eq_true c25
               clear c25
               by_cases c26 : 0 ≤ (rd (rd_L12 l0 (rd x6_2 0)) x39_3)
               ·rw [if_pos c26] at H
                have c26b0 := decide_eq_true c26
                clear c26
                by_cases c27 : (rd (rd_L12 l0 (rd x6_2 0)) x39_3) < (x5_3.length : Int)
                ·rw [if_pos c27] at H
                 have c27b0 := decide_eq_true c27
                 clear c27
                 by_cases c28 : (rd x5_3 (rd (rd_L12 l0 (rd x6_2 0)) x39_3)) < 0
                 ·rw [if_pos c28] at H
                  have c28b0 := decide_eq_true c28
                  clear c28
                  by_cases c29 : 0 < (x6_3.length : Int)
                  ·rw [if_pos c29] at H
                   have c29b0 := decide_eq_true c29
                   have c29b1 : decide (0 < x6_3.length) = true := decide_eq_true (by omega)
                   clear c29
                   by_cases c30 : 0 ≤ (rd x6_3 0)
                   ·rw [if_pos c30] at H
                    have c30b0 := decide_eq_true c30
                    clear c30
                    by_cases c31 : (rd x6_3 0) < (x5_3.length : Int)
                    ·rw [if_pos c31] at H
                     have c31b0 := decide_eq_true c31
                     clear c31
                     obtain ⟨y731, hy731⟩ : ∃ y_ : List Int, y_ = (x5_3.set ((rd (rd_L12 l0 (rd x6_2 0)) x39_3) : Int).toNat (wrap64 ((rd x5_3 (rd x6_3 0)) + 1))) := ⟨_, rfl⟩
                     replace H : (if x6_3.length < 17592186044416 then (impl_stepsFrom.l2 k3 l0 y731 (x6_3 ++ [rd (rd_L12 l0 (rd x6_2 0)) x39_3]) (rd_L12 l0 (rd x6_2 0)) ((rd_L12 l0 (rd x6_2 0)).length : Int) (wrap64 (x39_3 + 1))) else (none)) = some r := by first | (rw [hy731]; with_reducible exact H) | (have H2_ := (Option.bind_some _ _).symm.trans H; rw [hy731]; with_reducible exact H2_) | (have H2_ := (Option.bind_some _ _).symm.trans H; with_reducible exact H2_) | with_reducible exact H | (rw [hy731]; exact H) | exact H
                     have Ny731 := am_ hy731
                     clear hy731
                     by_cases c33 : x6_3.length < 17592186044416
                     ·rw [if_pos c33] at H
                      have LMc33 := am_ c33
                      clear c33
                      obtain ⟨y732, hy732⟩ : ∃ y_ : List Int, y_ = (x6_3 ++ [rd (rd_L12 l0 (rd x6_2 0)) x39_3]) := ⟨_, rfl⟩
                      replace H : (impl_stepsFrom.l2 k3 l0 y731 y732 (rd_L12 l0 (rd x6_2 0)) ((rd_L12 l0 (rd x6_2 0)).length : Int) (wrap64 (x39_3 + 1))) = some r := by first | (rw [hy732]; with_reducible exact H) | (have H2_ := (Option.bind_some _ _).symm.trans H; rw [hy732]; with_reducible exact H2_) | (have H2_ := (Option.bind_some _ _).symm.trans H; with_reducible exact H2_) | with_reducible exact H | (rw [hy732]; exact H) | exact H
                      have Ny732 := am_ hy732
                      clear hy732
                      have H' := am_ H
                      clear H
                      have p727 : 0 ≤ (x39_3 : Int) := Sh.od
                      have q727 : x39_3 < ((rd_L12 l0 (rd x6_2 0)).length : Int) := Sh.od
                      obtain ⟨ad727, e727, hx727_0⟩ := Kd.at_int HR726_0.out x39_3 p727 q727
                      cases e727
                      try replace hx727_0 := Sh.cw hx727_0
                      replace p727 := eq_true p727
                      replace q727 := eq_true q727
                      obtain ⟨Ao34, co34, eo34⟩ := Kd.R_slice HO_5.out
                      subst eo34
                      have p728 : 0 ≤ ((rd (rd_L12 l0 (rd x6_2 0)) x39_3) : Int) := Sh.od
                      have q728 : (rd (rd_L12 l0 (rd x6_2 0)) x39_3) < (x5_3.length : Int) := Sh.od
                      obtain ⟨ad728, e728, hx728_0⟩ := Kd.at_int (Kd.R_reads' HO_5.out).2.2 (rd (rd_L12 l0 (rd x6_2 0)) x39_3) p728 q728
                      cases e728
                      replace p728 := eq_true p728
                      replace q728 := eq_true q728
                      obtain ⟨Ao35, co35, eo35, _⟩ := Kd.Q_slice HO_6.out
                      subst eo35
                      have p729 : 0 ≤ (0 : Int) := (by omega)
                      have q729 : 0 < (x6_3.length : Int) := Sh.od
                      obtain ⟨ad729, e729, hx729_0⟩ := Kd.at_int (Kd.Q_reads' HO_6.out).2.2 0 p729 q729
                      cases e729
                      have qi729 : (0 < x6_3.length) = True := eq_true (by omega)
                      (try rw [show ((0 : Int)).toNat = 0 from rfl] at hx729_0)
                      (try rw [Addr.add_zero'] at hx729_0)
                      replace p729 := eq_true p729
                      replace q729 := eq_true q729
                      have p730 : 0 ≤ ((rd x6_3 0) : Int) := Sh.od
                      have q730 : (rd x6_3 0) < (x5_3.length : Int) := Sh.od
                      obtain ⟨ad730, e730, hx730_0⟩ := Kd.at_int (Kd.R_reads' HO_5.out).2.2 (rd x6_3 0) p730 q730
                      obtain rfl : ad728 = ad730 := (by injection e730)
                      replace p730 := eq_true p730
                      replace q730 := eq_true q730
                      have p32 : 0 ≤ ((rd (rd_L12 l0 (rd x6_2 0)) x39_3) : Int) := Sh.od
                      have q32 : ((rd (rd_L12 l0 (rd x6_2 0)) x39_3) : Int) < ((x5_3.length : Int) : Int) := Sh.od
                      obtain ⟨go32, co32, eo32, gb32, gl32, cl32, HG32⟩ := Kd.R_form HO_5.out (by omega)
                      (first | cases eo32 | (injection eo32 with ea_ en_ ec_; (first | subst ea_ | (injection ea_ with ea_; subst ea_)); subst ec_; clear en_))
                      have GB32 := am_ gb32
                      have GG32 := am_ HG32
                      clear gb32 gl32 HG32
                      (first | simp only [add_plain] at hx728_0 | skip)
                      (first | simp only [add_plain] at hx730_0 | skip)
                      obtain ⟨hx32_0, hf32_0⟩ := Kd.R_celln 0 HO_5.out ((rd (rd_L12 l0 (rd x6_2 0)) x39_3) : Int) p32 q32
                      replace p32 := eq_true p32
                      replace q32 := eq_true q32
                      have HP36 := Kd.R_putg HO_5.out ((rd (rd_L12 l0 (rd x6_2 0)) x39_3) : Int) (wrap64 ((rd x5_3 (rd x6_3 0)) + 1))
                      go_wp2_with (first | ((with_reducible refine gate_store (t := 3) (p := 57) rfl ?_); refine store_event (t := 3) (p := 57) (v := ?vo_w37) (w1 := (wr.setCell ⟨go32, ((rd (rd_L12 l0 (rd x6_2 0)) x39_3) : Int).toNat, none⟩ (.int .i64 (wrap64 ((rd x5_3 (rd x6_3 0)) + 1))))) ?hg ?ho ?hn ?hr ?_; (case ho => rfl); (case hg => rfl); (case hn => rfl); (case hr => first | (go_simp; done) | (go_simp; rfl)); intro w37 hw; have hg : wr.grownBy w37 (some go32) := (by rw [hw]; exact HP36.2); have hp_ : Kd.R (Kd.int .i64) 3 w37 w.heap.size (fun k_ => some k_ ≠ (.slice (some ad729) x6_3.length co35 : Value).ownBlock) (.slice (some ⟨go32, 0, none⟩) x5_3.length co34) y731 := (by rw [hw, Ny731.out]; exact HP36.1); clear HP36; replace HO_5 := am_ hp_; replace HO_6 := am_ (Kd.Q_after (v := (.slice (some ⟨go32, 0, none⟩) x5_3.length co34)) (v1 := (.slice (some ⟨go32, 0, none⟩) x5_3.length co34)) (ok := (fun _ => True)) (by (with_reducible repeat (first | apply Kd.Q_alloc | apply Kd.Q_drewN | apply Kd.Q_drew)); exact Kd.Q_mono HO_6.out (fun _ hk => ⟨trivial, hk⟩)) hg (.inl rfl)); replace HB := am_ ((by rw [hw]; exact below_set (HB.out) GB32.out : Below w.heap.size w w37)); clear hg hw hp_) | ((with_reducible refine gate_builtin (b := .append) (xs := #[.tmp 58, .tmp 60]) rfl ?_); at_builtin; refine Kd.Q_append (Kd.int .i64) (w0 := w) w.heap.size rfl (.tmp 58) (.tmp 60) 27 3 (.int .i64 0) 8 rfl Tryz.underlying27 info3 rfl (by decide) (by omega) (.slice (some ad729) x6_3.length co35) x6_3 (rd (rd_L12 l0 (rd x6_2 0)) x39_3) [.int .i64 (rd (rd_L12 l0 (rd x6_2 0)) x39_3)] (fun k_ => some k_ ≠ (.slice (some ⟨go32, 0, none⟩) x5_3.length co34 : Value).ownBlock) (fun _ => False) rfl rfl ?aP (fun _ hk => hk.elim) ?aF ?aO ?aB ?aS ?aL ?_; (case aP => exact rfl); (case aB => exact Sh.bw); (case aF => exact (fun k_ hk => Kd.fresh' (Kd.R_lt (Sh.rl HO_5.out)) k_ hk)); (case aO => exact (by (with_reducible repeat (first | apply Kd.Q_alloc | apply Kd.Q_drewN | apply Kd.Q_drew)); exact Kd.Q_mono HO_6.out (fun _ hk => hk.2))); (case aS => exact (below_size Sh.bw)); (case aL => have := LMc33.out; omega); intro v733 w38 ho hb hg hat; rw [← Ny732.out] at ho; have n0_ := am_ (Kd.R_after (ok := (fun _ => True)) (Sh.rl (Kd.R_mono HO_5.out (fun _ hk => ⟨trivial, hk⟩))) hg hat); have n1_ := am_ hb; have n2_ := am_ ho; clear HO_5; clear HB; clear HO_6; have HO_5 := n0_; have HB := n1_; have HO734 := n2_; clear n0_ n1_ n2_; clear ho hb hg hat))
                      go_roundg k3
                      case measure => have := HK1.out; have := HK2.out; have := HK3.out; omega
                      case rel => exact ⟨(y731), (y732), (wrap64 (x39_3 + 1)), (Sh.es), H', ⟨by have := HK1.out; have := HK2.out; have := HK3.out; omega⟩, ⟨Sh.rl (Kd.R_mono HO_5.out (fun _ hk => hk.2))⟩, ⟨by (with_reducible repeat (first | apply Kd.Q_alloc | apply Kd.Q_drewN | apply Kd.Q_drew)); exact HO734.out⟩, ⟨Sh.bw⟩⟩
                     ·rw [if_neg c33] at H
                      exact absurd H (by simp)
                    ·rw [if_neg c31] at H
                     exact absurd H (by simp)
                   ·rw [if_neg c30] at H
                    exact absurd H (by simp)
                  ·rw [if_neg c29] at H
                   exact absurd H (by simp)
                 ·rw [if_neg c28] at H
                  have c28b0 := decide_eq_false c28
                  clear c28
                  have H' := am_ H
                  clear H
                  have p727 : 0 ≤ (x39_3 : Int) := Sh.od
                  have q727 : x39_3 < ((rd_L12 l0 (rd x6_2 0)).length : Int) := Sh.od
                  obtain ⟨ad727, e727, hx727_0⟩ := Kd.at_int HR726_0.out x39_3 p727 q727
                  cases e727
                  try replace hx727_0 := Sh.cw hx727_0
                  replace p727 := eq_true p727
                  replace q727 := eq_true q727
                  obtain ⟨Ao39, co39, eo39⟩ := Kd.R_slice HO_5.out
                  subst eo39
                  have p728 : 0 ≤ ((rd (rd_L12 l0 (rd x6_2 0)) x39_3) : Int) := Sh.od
                  have q728 : (rd (rd_L12 l0 (rd x6_2 0)) x39_3) < (x5_3.length : Int) := Sh.od
                  obtain ⟨ad728, e728, hx728_0⟩ := Kd.at_int (Kd.R_reads' HO_5.out).2.2 (rd (rd_L12 l0 (rd x6_2 0)) x39_3) p728 q728
                  cases e728
                  replace p728 := eq_true p728
                  replace q728 := eq_true q728
                  go_wp2
                  go_roundg k3
                  case measure => have := HK1.out; have := HK2.out; have := HK3.out; omega
                  case rel => exact ⟨(x5_3), (x6_3), (wrap64 (x39_3 + 1)), (Sh.es), H', ⟨by have := HK1.out; have := HK2.out; have := HK3.out; omega⟩, ⟨Sh.rl HO_5.out⟩, ⟨by (with_reducible repeat (first | apply Kd.Q_alloc | apply Kd.Q_drewN | apply Kd.Q_drew)); exact HO_6.out⟩, ⟨Sh.bw⟩⟩
                ·rw [if_neg c27] at H
                 exact absurd H (by simp)
               ·rw [if_neg c26] at H
                exact absurd H (by simp)
              ·rw [if_neg c25] at H
               exact absurd H (by simp)
             ·rw [if_neg c24] at H
              exact absurd H (by simp)
            ·rw [if_neg c23] at H
             have c23b0 := decide_eq_false c23
             clear c23
             by_cases c40 : 1 ≤ (x6_3.length : Int)
             ·rw [if_pos c40] at H
              have c40b0 := eq_true c40
              have c40b1 := decide_eq_true c40
              clear c40
              obtain ⟨y735, hy735⟩ : ∃ y_ : List Int, y_ = (x6_3.drop (1 : Int).toNat) := ⟨_, rfl⟩
              replace H : (impl_stepsFrom.l1 k3 l0 x5_3 y735) = some r := by first | (rw [hy735]; with_reducible exact H) | (have H2_ := (Option.bind_some _ _).symm.trans H; rw [hy735]; with_reducible exact H2_) | (have H2_ := (Option.bind_some _ _).symm.trans H; with_reducible exact H2_) | with_reducible exact H | (rw [hy735]; exact H) | exact H
              have Ny735 := am_ hy735
              clear hy735
              have H' := am_ H
              clear H
              obtain ⟨Ao41, co41, eo41, _⟩ := Kd.Q_slice HO_6.out
              subst eo41
              have q42 : (1 : Int) ≤ ((x6_3.length : Int) : Int) := Sh.od
              obtain ⟨i042, hi042, _, hsz42, _⟩ := info_parts info3
              have hcut42 := cut_from (P := Tryz.prog) 27 3 .i64 Tryz.underlying27 hi042 1 hsz42 Ao41 x6_3.length co41 1 (by omega) q42
              have hr42 := Kd.Q_drop (k := (1 : Int).toNat) HO_6.out (by omega)
              obtain ⟨A42, hA42⟩ : ∃ A1, A1 = (if co41 = (1 : Int).toNat then Ao41 else (Ao41 : Option Addr).map (·.add ((1 : Int).toNat * 1))) := ⟨_, rfl⟩
              obtain ⟨c42, hc42⟩ : ∃ c1, c1 = co41 - (1 : Int).toNat := ⟨_, rfl⟩
              have hy42 : y735.length = x6_3.length - (1 : Int).toNat := (by rw [Ny735.out, List.length_drop])
              rw [← Ny735.out] at hr42
              rw [← hy42, ← hA42, ← hc42] at hcut42
              replace hr42 : Kd.Q (Kd.int .i64) 3 wr w.heap.size (fun k_ => some k_ ≠ (v718 : Value).ownBlock) (.slice A42 y735.length c42) y735 := (by rw [hA42, hc42, hy42]; exact hr42)
              have HE42 : Aside0 ((Value.slice A42 y735.length c42).ownBlock = (.slice Ao41 x6_3.length co41 : Value).ownBlock) := ⟨by rw [hA42]; split <;> (cases (Ao41 : Option Addr) <;> rfl)⟩
              clear hy42 hi042 hsz42 HO_6 hA42 hc42
              have HO737 := am_ hr42
              clear hr42
              replace q42 := eq_true q42
              have n_ := am_ (Kd.R_mono (ok' := fun k_ => some k_ ≠ (.slice A42 y735.length c42 : Value).ownBlock) HO_5.out (fun k_ hk => (by rw [HE42.out]; exact hk)))
              clear HO_5
              have HO_5 := n_
              clear n_
              go_wp2
              go_roundg k3
              case measure => have := HK1.out; have := HK2.out; have := HK3.out; omega
              case rel => exact ⟨(x5_3), (y735), H', ⟨by have := HK1.out; have := HK2.out; have := HK3.out; omega⟩, ⟨Sh.rl HO_5.out⟩, ⟨by (with_reducible repeat (first | apply Kd.Q_alloc | apply Kd.Q_drewN | apply Kd.Q_drew)); exact HO737.out⟩, ⟨Sh.bw⟩⟩
             ·rw [if_neg c40] at H
              exact absurd H (by simp)
         ·rw [if_neg c21] at H
          exact absurd H (by simp)
        ·rw [if_neg c20] at H
         exact absurd H (by simp)
       ·rw [if_neg c19] at H
        exact absurd H (by simp)
      ·rw [if_neg c18] at H
       have c18b0 : decide (0 < (x6_2.length : Int)) = false := decide_eq_false c18
       have c18b1 : decide (0 < x6_2.length) = false := decide_eq_false (by omega)
       clear c18
       obtain rfl := Option.some.inj H
       obtain ⟨Ao43, co43, eo43, _⟩ := Kd.Q_slice HO_6.out
       subst eo43
       go_wp2
       go_ret
       exact ⟨_, Sh.eR, Sh.rl (Kd.R_mono HO_5.out (fun _ hk => trivial)), Sh.bw⟩
def impl_reachedFrom.l0 : Nat → List Int → List Int → Int → Int → Option (List Int)
 | 0, _, _, _, _ => none
 | k + 1, x5, x11, x12, x13 => if x13 < x12 then (if 0 ≤ x13 then (if x13 < (x11.length : Int) then (if (rd x11 x13) ≥ 0 then (if x5.length < 17592186044416 then (impl_reachedFrom.l0 k (x5 ++ [x13]) x11 x12 (wrap64 (x13 + 1))) else (none)) else (impl_reachedFrom.l0 k x5 x11 x12 (wrap64 (x13 + 1)))) else (none)) else (none)) else (some x5)
def impl_reachedFrom.f (k : Nat) (l0 : List (List Int)) (l1 : List Int) : Option (List Int) := (impl_stepsFrom.f k l0 l1).bind fun t741 => (impl_reachedFrom.l0 k (([] : List Int)) t741 (t741.length : Int) 0)
theorem impl_reachedFrom.mono_l : ∀ k, (∀ y0 y1 y2 y3, LeO (impl_reachedFrom.l0 k y0 y1 y2 y3) (impl_reachedFrom.l0 (k + 1) y0 y1 y2 y3))
 | 0 => fun _ _ _ _ r h => by simp [impl_reachedFrom.l0] at h
 | k + 1 => by
  have ih0 := impl_reachedFrom.mono_l k
  ·intro y0 y1 y2 y3
   unfold impl_reachedFrom.l0
   repeat' with_reducible first | apply ih0 | apply impl_stepsFrom.mono | exact LeO.refl _ | exact LeO.none _ | apply LeO.ite | refine LeO.bind ?_ fun _ => ?_
theorem impl_reachedFrom.mono : ∀ a0 a1 k, LeO (impl_reachedFrom.f k a0 a1) (impl_reachedFrom.f (k + 1) a0 a1) := by
 intro a0 a1 k
 have ih0 := impl_reachedFrom.mono_l k
 unfold impl_reachedFrom.f
 repeat' with_reducible first | apply ih0 | apply impl_stepsFrom.mono | exact LeO.refl _ | exact LeO.none _ | apply LeO.ite | refine LeO.bind ?_ fun _ => ?_
theorem impl_reachedFrom.calls (k : Nat) (A0 : Option Addr) (c0 : Nat) (l0 : List (List Int)) (A1 : Option Addr) (c1 : Nat) (l1 : List Int) (r : List Int) (w : World) (hr0 : Kd.C (Kd.slice 3 (Kd.int .i64)) w A0 l0.length l0) (hc0 : l0.length ≤ c0) (hr1 : Kd.C (Kd.int .i64) w A1 l1.length l1) (hc1 : l1.length ≤ c1) (h : impl_reachedFrom.f k l0 l1 = some r) :
  Calls Tryz.prog 80 #[.slice A0 l0.length c0, .slice A1 l1.length c1] w fun e w' => ∃ v0_ : Value, e = .returned (v0_) ∧ Kd.R (Kd.int .i64) 3 w' w.heap.size (fun _ => True) v0_ r ∧ Below w.heap.size w w' := by
 have HR0 := am_ hr0
 have HC0 := am_ hc0
 clear hr0 hc0
 have HR1 := am_ hr1
 have HC1 := am_ hc1
 clear hr1 hc1
 have HB := am_ (Below.refl w.heap.size w)
 have H := h
 clear h
 unfold impl_reachedFrom.f at H
 obtain ⟨y738, hy738⟩ : ∃ y_ : List Int, y_ = (([] : List Int)) := ⟨_, rfl⟩
 replace H : ((impl_stepsFrom.f k l0 l1).bind fun t741 => (impl_reachedFrom.l0 k y738 t741 (t741.length : Int) 0)) = some r := by first | (rw [hy738]; with_reducible exact H) | (have H2_ := (Option.bind_some _ _).symm.trans H; rw [hy738]; with_reducible exact H2_) | (have H2_ := (Option.bind_some _ _).symm.trans H; with_reducible exact H2_) | with_reducible exact H | (rw [hy738]; exact H) | exact H
 have Ny738 := am_ hy738
 clear hy738
 obtain ⟨t741, A3, H⟩ := Sh.ba H
 have H' := am_ H
 clear H
 go_enter Tryz.func80, Tryz.ntmps80
 go_wp2_with (first | ((with_reducible refine Sh.d 8 ?_); refine Kd.R_lit (Kd.int .i64) _ 3 ?hg (N := 8) ?hd (xs := ([] : List Int)) (inner := []) (ok := fun _ => True) (okp := fun _ => True) ?hr ?hp (fun _ hk => hk) trivial (Below.refl _ _) (Nat.le_refl _) (by simp) ?_; (case hd => rfl); (case hg => rfl); (case hr => first | (go_simp; done) | (go_simp; rfl)); (case hp => exact (Reps.none _ _)); intro v739 w4 ho5 hb hg_ hnew_; clear hg_ hnew_; (first | rw [← Ny738.out] at ho5 | (simp only [Int.reduceToNat] at ho5; rw [← Ny738.out] at ho5)); have HO740 := am_ (Kd.R_lower ho5 (below_size Sh.bw)); replace HB := Sh.hb hb; clear hb ho5) | ((with_reducible refine Sh.k 70 ?_); refine Sh.gL (some 11) Tryz.func70 #[.slice A0 l0.length c0, .slice A1 l1.length c1] (h := ?_); (with_reducible refine (impl_stepsFrom.calls k _ _ l0 _ _ l1 t741 _ (Sh.cB HR0.out) HC0.out (Sh.cB HR1.out) HC1.out A3.out).mono ?_); rintro e w6 ⟨v742, rfl, ho0, hb⟩; refine ⟨_, rfl, ?_⟩; have HO743 := am_ (Kd.R_lower (Kd.R_new' ho0 (Kd.R_lt (Sh.rl HO740.out))) (below_size Sh.bw)); replace HO740 := am_ (Kd.R_elder' (Sh.rl HO740.out) (Kd.R_base ho0) hb); replace HB := Sh.hb hb; (try clear hb); (try clear hb2); (try clear hk); (try clear hi); (try clear ho0); obtain ⟨Ao7, co7, eo7⟩ := Kd.R_slice HO743.out; subst eo7))
 go_loopg [5, 13] k (fun kq v5 v13 w' => ∃ (x5_1 : List Int) (x13_1 : Int), v13 = .int .i64 x13_1 ∧ Aside0 (impl_reachedFrom.l0 kq x5_1 t741 (t741.length : Int) x13_1 = some r) ∧ Aside0 (kq ≤ k) ∧ Aside0 (Kd.R (Kd.int .i64) 3 w' w.heap.size (fun k_ => some k_ ≠ ((.slice Ao7 t741.length co7) : Value).ownBlock) v5 x5_1) ∧ Aside0 (Kd.R (Kd.int .i64) 3 w' w.heap.size (fun k_ => some k_ ≠ (v5 : Value).ownBlock) (.slice Ao7 t741.length co7) t741) ∧ Aside0 (Below w.heap.size w w'))
 case atStart => exact ⟨(y738), (0), (Sh.es), H', ⟨Nat.le_refl _⟩, ⟨Sh.rl (Kd.R_mono HO740.out (fun _ hk => hk.2))⟩, ⟨Sh.rl (Kd.R_mono HO743.out (fun _ hk => hk.2))⟩, ⟨Sh.bw⟩⟩
 case round =>
  clear H'
  obtain ⟨x5_1, x13_1, rfl, HA, HK1, HO_5, HO_11, HB⟩ := hrel
  cases gk with
  | zero => exact absurd HA.out (by simp [impl_reachedFrom.l0])
  | succ k1 =>
   have H := HA.out
   clear HA
   simp only [impl_reachedFrom.l0] at H
   by_cases c8 : x13_1 < (t741.length : Int)
   ·rw [if_pos c8] at H
    have c8b0 := decide_eq_true c8
    clear c8
    by_cases c9 : 0 ≤ x13_1
    ·rw [if_pos c9] at H
     have c9b0 := decide_eq_true c9
     clear c9
     by_cases c10 : x13_1 < (t741.length : Int)
     ·rw [if_pos c10] at H
      have c10b0 := decide_eq_true c10
      clear c10
      by_cases c11 : (rd t741 x13_1) ≥ 0
      ·rw [if_pos c11] at H
       have c11b0 : decide (0 ≤ (rd t741 x13_1)) = true := decide_eq_true c11
       clear c11
       by_cases c12 : x5_1.length < 17592186044416
       ·rw [if_pos c12] at H
        have LMc12 := am_ c12
        clear c12
        obtain ⟨y745, hy745⟩ : ∃ y_ : List Int, y_ = (x5_1 ++ [x13_1]) := ⟨_, rfl⟩
        replace H : (impl_reachedFrom.l0 k1 y745 t741 (t741.length : Int) (wrap64 (x13_1 + 1))) = some r := by first | (rw [hy745]; with_reducible exact H) | (have H2_ := (Option.bind_some _ _).symm.trans H; rw [hy745]; with_reducible exact H2_) | (have H2_ := (Option.bind_some _ _).symm.trans H; with_reducible exact H2_) | with_reducible exact H | (rw [hy745]; exact H) | exact H
        have Ny745 := am_ hy745
        clear hy745
        have H' := am_ H
        clear H
        have p744 : 0 ≤ (x13_1 : Int) := Sh.od
        have q744 : x13_1 < (t741.length : Int) := Sh.od
        obtain ⟨ad744, e744, hx744_0⟩ := Kd.at_int (Kd.R_reads' HO_11.out).2.2 x13_1 p744 q744
        cases e744
        replace p744 := eq_true p744
        replace q744 := eq_true q744
        go_wp2_with (first | ((with_reducible refine gate_builtin (b := .append) (xs := #[.tmp 20, .tmp 22]) rfl ?_); at_builtin; refine Kd.R_append (Kd.int .i64) (w0 := w) w.heap.size rfl (.tmp 20) (.tmp 22) 27 3 (.int .i64 0) 8 rfl Tryz.underlying27 info3 rfl (by decide) (by omega) u5 x5_1 x13_1 [.int .i64 x13_1] (fun k_ => some k_ ≠ (.slice (some ad744) t741.length co7 : Value).ownBlock) (fun _ => False) rfl rfl ?aP (fun _ hk => hk.elim) ?aF ?aO ?aB ?aS ?aL ?_; (case aP => exact rfl); (case aB => exact Sh.bw); (case aF => exact (fun k_ hk => Kd.fresh' (Kd.R_lt (Sh.rl HO_11.out)) k_ hk)); (case aO => exact (Sh.rl HO_5.out)); (case aS => exact (below_size Sh.bw)); (case aL => have := LMc12.out; omega); intro v746 w13 ho hb hg hat; rw [← Ny745.out] at ho; have n0_ := am_ (Kd.R_after (ok := (fun _ => True)) (Sh.rl (Kd.R_mono HO_11.out (fun _ hk => ⟨trivial, hk⟩))) hg hat); have n1_ := am_ hb; have n2_ := am_ ho; clear HO_11; clear HB; clear HO_5; have HO_11 := n0_; have HB := n1_; have HO747 := n2_; clear n0_ n1_ n2_; clear ho hb hg hat))
        go_roundg k1
        case measure => have := HK1.out; omega
        case rel => exact ⟨(y745), (wrap64 (x13_1 + 1)), (Sh.es), H', ⟨by have := HK1.out; omega⟩, ⟨Sh.rl HO747.out⟩, ⟨Sh.rl (Kd.R_mono HO_11.out (fun _ hk => hk.2))⟩, ⟨Sh.bw⟩⟩
       ·rw [if_neg c12] at H
        exact absurd H (by simp)
      ·rw [if_neg c11] at H
       have c11b0 : decide (0 ≤ (rd t741 x13_1)) = false := decide_eq_false c11
       clear c11
       have H' := am_ H
       clear H
       have p744 : 0 ≤ (x13_1 : Int) := Sh.od
       have q744 : x13_1 < (t741.length : Int) := Sh.od
       obtain ⟨ad744, e744, hx744_0⟩ := Kd.at_int (Kd.R_reads' HO_11.out).2.2 x13_1 p744 q744
       cases e744
       replace p744 := eq_true p744
       replace q744 := eq_true q744
       go_wp2
       go_roundg k1
       case measure => have := HK1.out; omega
       case rel => exact ⟨(x5_1), (wrap64 (x13_1 + 1)), (Sh.es), H', ⟨by have := HK1.out; omega⟩, ⟨Sh.rl HO_5.out⟩, ⟨Sh.rl HO_11.out⟩, ⟨Sh.bw⟩⟩
     ·rw [if_neg c10] at H
      exact absurd H (by simp)
    ·rw [if_neg c9] at H
     exact absurd H (by simp)
   ·rw [if_neg c8] at H
    have c8b0 := decide_eq_false c8
    clear c8
    obtain rfl := Option.some.inj H
    go_wp2
    go_ret
    exact ⟨_, Sh.eR, Sh.rl (Kd.R_mono HO_5.out (fun _ hk => trivial)), Sh.bw⟩
def impl_Program_reach.f (k : Nat) (a0_0 : Int) (a0_1 : Int) (l0_2 : List (S79)) (l0_3 : List (S95)) : Option (List Int) := (impl_Program_graph.f k a0_0 a0_1 l0_2 l0_3).bind fun t749 => ((impl_Program_where.f k a0_0 a0_1 l0_2 l0_3 l0_2).bind fun t752 => ((impl_reachedFrom.f k t749 t752).bind fun t755 => (some t755)))
theorem impl_Program_reach.mono : ∀ a0 a1 a2 a3 k, LeO (impl_Program_reach.f k a0 a1 a2 a3) (impl_Program_reach.f (k + 1) a0 a1 a2 a3) := by
 intro a0 a1 a2 a3 k
 unfold impl_Program_reach.f
 repeat' with_reducible first | apply impl_Program_graph.mono | apply impl_Program_where.mono | apply impl_reachedFrom.mono | exact LeO.refl _ | exact LeO.none _ | apply LeO.ite | refine LeO.bind ?_ fun _ => ?_
def impl_Program_reach.T1 : Bool × List (List Nat × List Nat) := (true, [([], []), ([0], [0]), ([], []), ([], []), ([3], [3]), ([2, 4, 1], [2, 4]), ([1, 5, 5], [1, 5]), ([6, 6, 0, 1, 2, 3, 4, 5, 6], [6])])
def impl_Program_reach.B1 : List Nat := [0, 1, 0, 0, 8, 31, 63, 127]
theorem impl_Program_reach.tab1 : rtab .any (opsOf Tryz.f65 1) = impl_Program_reach.T1 := by kernel_rfl
theorem impl_Program_reach.bits1 : waitsOk impl_Program_reach.T1.2 impl_Program_reach.B1 = true := by kernel_rfl
theorem impl_Program_reach.calls (k : Nat) (a0_0 : Int) (a0_1 : Int) (A0_2 : Option Addr) (c0_2 : Nat) (l0_2 : List (S79)) (A0_3 : Option Addr) (c0_3 : Nat) (l0_3 : List (S95)) (r : List Int) (w : World) (hr0_2 : Kd.C k79 w A0_2 l0_2.length l0_2) (hc0_2 : l0_2.length ≤ c0_2) (hr0_3 : Kd.C k95 w A0_3 l0_3.length l0_3) (hc0_3 : l0_3.length ≤ c0_3) (h : impl_Program_reach.f k a0_0 a0_1 l0_2 l0_3 = some r) :
  Calls Tryz.prog 65 #[.agg #[.int .i64 a0_0, .int .i64 a0_1, .slice A0_2 l0_2.length c0_2, .slice A0_3 l0_3.length c0_3]] w fun e w' => ∃ v0_ : Value, e = .returned (v0_) ∧ Kd.R (Kd.int .i64) 3 w' w.heap.size (fun _ => True) v0_ r ∧ Below w.heap.size w w' := by
 have hu33 := Tryz.underlying33
 have HR0_2 := am_ hr0_2
 have HC0_2 := am_ hc0_2
 clear hr0_2 hc0_2
 have HR0_3 := am_ hr0_3
 have HC0_3 := am_ hc0_3
 clear hr0_3 hc0_3
 have HB := am_ (Below.refl w.heap.size w)
 have H := h
 clear h
 unfold impl_Program_reach.f at H
 obtain ⟨t749, A2, H⟩ := Sh.ba H
 obtain ⟨t752, A3, H⟩ := Sh.ba H
 obtain ⟨t755, A4, H⟩ := Sh.ba H
 obtain rfl := Option.some.inj H
 go_enter Tryz.func65, Tryz.ntmps65
 try go_wp2_with (first | ((with_reducible refine Sh.d 1 ?_); refine Sh.bz w (N := 1) (cs := #[.int .i64 a0_0, .int .i64 a0_1, .slice A0_2 l0_2.length c0_2, .slice A0_3 l0_3.length c0_3]) (t := 33) (h := ?_); clear HB; intro gb748 w5 BK748 GE748 HB))
 replace BK748 := am_ (blk_drew BK748.out)
 replace HB := am_ (below_drew1 HB.out)
 refine start_ (n := 8) (S := fun w' => w'.cell? ⟨gb748, 0, none⟩ = some (.int .i64 a0_0) ∧ w'.cell? ⟨gb748, 1, none⟩ = some (.int .i64 a0_1) ∧ w'.cell? ⟨gb748, 2, none⟩ = some (.slice A0_2 l0_2.length c0_2) ∧ w'.cell? ⟨gb748, 3, none⟩ = some (.slice A0_3 l0_3.length c0_3)) (ds := []) (Sh.nm 8 0) (by kernel_rfl) rfl rfl Sh.cs (fun hHeld => ?_); refine with_tabW impl_Program_reach.tab1 impl_Program_reach.bits1 (fun HT_ HW_ => ?_)
 generalize w5.drew = w6 at BK748 HB hHeld ⊢
 refine Sh.qA 3 ?_; refine Sh.qT 0 hHeld ?_; refine Sh.qT 2 hHeld ?_; refine Sh.qT 4 hHeld ?_
 refine Sh.oC 1 Tryz.func71 #[.agg #[.int .i64 a0_0, .int .i64 a0_1, .slice A0_2 l0_2.length c0_2, .slice A0_3 l0_3.length c0_3]] fun K hK => ?_
 with_reducible refine (impl_Program_graph.calls k a0_0 a0_1 _ _ l0_2 _ _ l0_3 t749 _ (Sh.cB HR0_2.out) HC0_2.out (Sh.cB HR0_3.out) HC0_3.out A2.out).mono ?_
 rintro e w7 ⟨v750, rfl, ho0, hb⟩
 refine ⟨_, rfl, ?_⟩
 have HO751 := am_ (Kd.S_lower ho0 (below_size Sh.bw))
 replace BK748 := Sh.ab BK748 hb
 replace HB := Sh.hb hb
 (try clear hb)
 (try clear hb2)
 (try clear hk)
 (try clear hi)
 (try clear ho0)
 refine Sh.kN hK Sh.cs fun hHeld => ?_
 clear hK K
 refine Sh.oC 5 Tryz.func72 #[.agg #[.int .i64 a0_0, .int .i64 a0_1, .slice A0_2 l0_2.length c0_2, .slice A0_3 l0_3.length c0_3], .slice A0_2 l0_2.length c0_2] fun K hK => ?_
 with_reducible refine (impl_Program_where.calls k a0_0 a0_1 _ _ l0_2 _ _ l0_3 _ _ l0_2 t752 _ (Sh.cB HR0_2.out) HC0_2.out (Sh.cB HR0_3.out) HC0_3.out (Sh.cB HR0_2.out) HC0_2.out A3.out).mono ?_
 rintro e w8 ⟨v753, rfl, ho0, hb⟩
 refine ⟨_, rfl, ?_⟩
 replace HO751 := am_ (Kd.S_elder' (by (with_reducible repeat (first | apply Kd.S_alloc | apply Kd.S_drewN | apply Kd.S_drew)); exact HO751.out) (Kd.R_base ho0) hb)
 have HO754 := am_ (Kd.R_lower ho0 (below_size Sh.bw))
 replace BK748 := Sh.ab BK748 hb
 replace HB := Sh.hb hb
 (try clear hb)
 (try clear hb2)
 (try clear hk)
 (try clear hi)
 (try clear ho0)
 obtain ⟨Ao9, co9, eo9⟩ := Kd.S_slice HO751.out
 (first | subst eo9 | (injection eo9 with f1_ f2_ f3_; have f4_ := f1_.symm; have f5_ := f3_.symm; clear f1_ f2_ f3_; subst f4_; subst f5_))
 obtain ⟨Ao10, co10, eo10⟩ := Kd.R_slice HO754.out
 (first | subst eo10 | (injection eo10 with f1_ f2_ f3_; have f4_ := f1_.symm; have f5_ := f3_.symm; clear f1_ f2_ f3_; subst f4_; subst f5_))
 refine Sh.kN hK Sh.cs fun hHeld => ?_
 clear hK K
 refine Sh.oC 6 Tryz.func80 #[.slice Ao9 t749.length co9, .slice Ao10 t752.length co10] fun K hK => ?_
 with_reducible refine (impl_reachedFrom.calls k _ _ t749 _ _ t752 t755 _ (Sh.cR (Kd.S_reads' HO751.out).2.2) (Kd.S_reads' HO751.out).2.1 (Sh.cR (Kd.R_reads' HO754.out).2.2) (Kd.R_reads' HO754.out).2.1 A4.out).mono ?_
 rintro e w11 ⟨v756, rfl, ho0, hb⟩
 refine ⟨_, rfl, ?_⟩
 replace HO751 := am_ (Kd.S_elder' (by (with_reducible repeat (first | apply Kd.S_alloc | apply Kd.S_drewN | apply Kd.S_drew)); exact HO751.out) (Kd.R_base ho0) hb)
 have HO757 := am_ (Kd.R_lower (Kd.R_new' ho0 (Kd.R_lt (Sh.rl HO754.out))) (below_size Sh.bw))
 replace HO754 := am_ (Kd.R_elder' (Sh.rl HO754.out) (Kd.R_base ho0) hb)
 replace BK748 := Sh.ab BK748 hb
 replace HB := Sh.hb hb
 (try clear hb)
 (try clear hb2)
 (try clear hk)
 (try clear hi)
 (try clear ho0)
 refine Sh.kN hK Sh.cs fun hHeld => ?_
 clear hK K
 refine Sh.qA 7 ?_
 refine done_ (done_of HT_.out (by kernel_rfl)) ?_
 try go_wp2
 go_ret
 exact ⟨_, Sh.eR, Sh.rl (Kd.R_mono HO757.out (fun _ hk => trivial)), Sh.bw⟩
def impl_AlwaysIn_1.f (k : Nat) (a0 : Int) (a1_0 : Int) (a1_1 : Int) (l1_2 : List (S79)) (l1_3 : List (S95)) (l2_0 : List (S79)) : Option (Bool) := (impl_Program_stateOf.f k a1_0 a1_1 l1_2 l1_3 a0).bind fun t758 => ((impl_Program_holds.f k a1_0 a1_1 l1_2 l1_3 l2_0 t758).bind fun t761 => (some (!t761)))
theorem impl_AlwaysIn_1.mono : ∀ a0 a1 a2 a3 a4 a5 k, LeO (impl_AlwaysIn_1.f k a0 a1 a2 a3 a4 a5) (impl_AlwaysIn_1.f (k + 1) a0 a1 a2 a3 a4 a5) := by
 intro a0 a1 a2 a3 a4 a5 k
 unfold impl_AlwaysIn_1.f
 repeat' with_reducible first | apply impl_Program_holds.mono | apply impl_Program_stateOf.mono | exact LeO.refl _ | exact LeO.none _ | apply LeO.ite | refine LeO.bind ?_ fun _ => ?_
def impl_AlwaysIn_1.T1 : Bool × List (List Nat × List Nat) := (true, [([], []), ([], []), ([], []), ([], []), ([2, 3], [2, 3]), ([0, 1, 4, 4], [0, 1, 4]), ([5], [5]), ([6, 5, 0, 1, 2, 3, 4, 5, 6], [6])])
def impl_AlwaysIn_1.B1 : List Nat := [0, 0, 0, 0, 12, 31, 63, 127]
theorem impl_AlwaysIn_1.tab1 : rtab .any (opsOf Tryz.f66 1) = impl_AlwaysIn_1.T1 := by kernel_rfl
theorem impl_AlwaysIn_1.bits1 : waitsOk impl_AlwaysIn_1.T1.2 impl_AlwaysIn_1.B1 = true := by kernel_rfl
theorem impl_AlwaysIn_1.calls (k : Nat) (a0 : Int) (bp1 : Nat) (a1_0 : Int) (a1_1 : Int) (A1_2 : Option Addr) (c1_2 : Nat) (l1_2 : List (S79)) (A1_3 : Option Addr) (c1_3 : Nat) (l1_3 : List (S95)) (bp2 : Nat) (A2_0 : Option Addr) (c2_0 : Nat) (l2_0 : List (S79)) (r : Bool) (w : World) (hr1_2 : Kd.C k79 w A1_2 l1_2.length l1_2) (hc1_2 : l1_2.length ≤ c1_2) (hr1_3 : Kd.C k95 w A1_3 l1_3.length l1_3) (hc1_3 : l1_3.length ≤ c1_3) (hr2_0 : Kd.C k79 w A2_0 l2_0.length l2_0) (hc2_0 : l2_0.length ≤ c2_0) (hb1 : w.heap[bp1]? = some (.cells #[.int .i64 a1_0, .int .i64 a1_1, .slice A1_2 l1_2.length c1_2, .slice A1_3 l1_3.length c1_3] 33 (0, 0))) (hb2 : w.heap[bp2]? = some (.cells #[.slice A2_0 l2_0.length c2_0] 30 (0, 0))) (hd1_2 : bp1 ≠ bp2) (h : impl_AlwaysIn_1.f k a0 a1_0 a1_1 l1_2 l1_3 l2_0 = some r) :
  Calls Tryz.prog 66 #[.int .i64 a0, .pointer (some ⟨bp1, 0, none⟩), .pointer (some ⟨bp2, 0, none⟩)] w fun e w' => e = .returned (.bool r) ∧ Below w.heap.size w w' := by
 have hu33 := Tryz.underlying33
 have HR1_2 := am_ hr1_2
 have HC1_2 := am_ hc1_2
 clear hr1_2 hc1_2
 have HR1_3 := am_ hr1_3
 have HC1_3 := am_ hc1_3
 clear hr1_3 hc1_3
 have HR2_0 := am_ hr2_0
 have HC2_0 := am_ hc2_0
 clear hr2_0 hc2_0
 have HX1 := am_ hb1
 clear hb1
 have HX2 := am_ hb2
 clear hb2
 have NB1_2 := am_ hd1_2
 have NB2_1 := am_ hd1_2.symm
 clear hd1_2
 have HB := am_ (Below.refl w.heap.size w)
 have H := h
 clear h
 unfold impl_AlwaysIn_1.f at H
 obtain ⟨t758, A4, H⟩ := Sh.ba H
 obtain ⟨t761, A5, H⟩ := Sh.ba H
 obtain rfl := Option.some.inj H
 go_enter Tryz.func66, Tryz.ntmps66
 try go_wp2
 replace HX1 := am_ (blk_drew HX1.out)
 replace HX2 := am_ (blk_drew HX2.out)
 replace HB := am_ (below_drew1 HB.out)
 refine start_ (n := 8) (S := fun w' => w'.cell? ⟨bp1, 0, none⟩ = some (.int .i64 a1_0) ∧ w'.cell? ⟨bp1, 1, none⟩ = some (.int .i64 a1_1) ∧ w'.cell? ⟨bp1, 2, none⟩ = some (.slice A1_2 l1_2.length c1_2) ∧ w'.cell? ⟨bp1, 3, none⟩ = some (.slice A1_3 l1_3.length c1_3) ∧ w'.cell? ⟨bp2, 0, none⟩ = some (.slice A2_0 l2_0.length c2_0)) (ds := []) (Sh.nm 8 0) (by kernel_rfl) rfl rfl ⟨(blk_cell HX1.out 0).trans rfl, (blk_cell HX1.out 1).trans rfl, (blk_cell HX1.out 2).trans rfl, (blk_cell HX1.out 3).trans rfl, (blk_cell HX2.out 0).trans rfl⟩ (fun hHeld => ?_); refine with_tabW impl_AlwaysIn_1.tab1 impl_AlwaysIn_1.bits1 (fun HT_ HW_ => ?_)
 generalize w.drew = w6 at HX1 HX2 HB hHeld ⊢
 refine Sh.qA 3 ?_; refine Sh.qT 0 hHeld ?_; refine Sh.qT 1 hHeld ?_; refine Sh.qT 2 hHeld ?_
 refine Sh.oC 4 Tryz.func57 #[.agg #[.int .i64 a1_0, .int .i64 a1_1, .slice A1_2 l1_2.length c1_2, .slice A1_3 l1_3.length c1_3], .int .i64 a0] fun K hK => ?_
 with_reducible refine (impl_Program_stateOf.calls k a1_0 a1_1 _ _ l1_2 _ _ l1_3 a0 t758 _ (Sh.cB HR1_2.out) HC1_2.out (Sh.cB HR1_3.out) HC1_3.out A4.out).mono ?_
 rintro e w7 ⟨v759, rfl, ho0, hb⟩
 refine ⟨_, rfl, ?_⟩
 have HO760 := am_ (Kd.R_lower ho0 (below_size Sh.bw))
 replace HX1 := am_ (blk_below (g := bp1) (o := .cells #[.int .i64 a1_0, .int .i64 a1_1, .slice A1_2 l1_2.length c1_2, .slice A1_3 l1_3.length c1_3] 33 (0, 0)) (Sh.pl HX1.out) hb)
 replace HX2 := am_ (blk_below (g := bp2) (o := .cells #[.slice A2_0 l2_0.length c2_0] 30 (0, 0)) (Sh.pl HX2.out) hb)
 replace HB := Sh.hb hb
 (try clear hb)
 (try clear hb2)
 (try clear hk)
 (try clear hi)
 (try clear ho0)
 obtain ⟨Ao8, co8, eo8⟩ := Kd.R_slice HO760.out
 (first | subst eo8 | (injection eo8 with f1_ f2_ f3_; have f4_ := f1_.symm; have f5_ := f3_.symm; clear f1_ f2_ f3_; subst f4_; subst f5_))
 refine Sh.kN hK ⟨(blk_cell HX1.out 0).trans rfl, (blk_cell HX1.out 1).trans rfl, (blk_cell HX1.out 2).trans rfl, (blk_cell HX1.out 3).trans rfl, (blk_cell HX2.out 0).trans rfl⟩ fun hHeld => ?_
 clear hK K
 refine Sh.oC 5 Tryz.func56 #[.agg #[.int .i64 a1_0, .int .i64 a1_1, .slice A1_2 l1_2.length c1_2, .slice A1_3 l1_3.length c1_3], .slice A2_0 l2_0.length c2_0, .slice Ao8 t758.length co8] fun K hK => ?_
 with_reducible refine (impl_Program_holds.calls k a1_0 a1_1 _ _ l1_2 _ _ l1_3 _ _ l2_0 _ _ t758 t761 _ (Sh.cB HR1_2.out) HC1_2.out (Sh.cB HR1_3.out) HC1_3.out (Sh.cB HR2_0.out) HC2_0.out (Sh.cR (Kd.R_reads' HO760.out).2.2) (Kd.R_reads' HO760.out).2.1 A5.out).mono ?_
 rintro e w9 ⟨rfl, hb⟩
 refine ⟨_, rfl, ?_⟩
 replace HO760 := am_ (Kd.R_below (Sh.rl HO760.out) hb)
 replace HX1 := am_ (blk_below (g := bp1) (o := .cells #[.int .i64 a1_0, .int .i64 a1_1, .slice A1_2 l1_2.length c1_2, .slice A1_3 l1_3.length c1_3] 33 (0, 0)) (Sh.pl HX1.out) hb)
 replace HX2 := am_ (blk_below (g := bp2) (o := .cells #[.slice A2_0 l2_0.length c2_0] 30 (0, 0)) (Sh.pl HX2.out) hb)
 replace HB := Sh.hb hb
 (try clear hb)
 (try clear hb2)
 (try clear hk)
 (try clear hi)
 refine Sh.kN hK ⟨(blk_cell HX1.out 0).trans rfl, (blk_cell HX1.out 1).trans rfl, (blk_cell HX1.out 2).trans rfl, (blk_cell HX1.out 3).trans rfl, (blk_cell HX2.out 0).trans rfl⟩ fun hHeld => ?_
 clear hK K
 refine Sh.qA 6 ?_; refine Sh.qA 7 ?_
 refine done_ (done_of HT_.out (by kernel_rfl)) ?_
 try go_wp2
 go_ret
 exact ⟨Sh.eR, Sh.bw⟩
def slices_ContainsFunc_int_int_by_impl_AlwaysIn_1.f (k : Nat) (l0 : List Int) (a1_0 : Int) (a1_1 : Int) (l1_2 : List (S79)) (l1_3 : List (S95)) (l2_0 : List (S79)) : Option (Bool) := anyO (fun x_ => impl_AlwaysIn_1.f k x_ a1_0 a1_1 l1_2 l1_3 l2_0) l0
theorem slices_ContainsFunc_int_int_by_impl_AlwaysIn_1.mono : ∀ a0 a1 a2 a3 a4 a5 k, LeO (slices_ContainsFunc_int_int_by_impl_AlwaysIn_1.f k a0 a1 a2 a3 a4 a5) (slices_ContainsFunc_int_int_by_impl_AlwaysIn_1.f (k + 1) a0 a1 a2 a3 a4 a5) := by
 intro a0 a1 a2 a3 a4 a5 k
 unfold slices_ContainsFunc_int_int_by_impl_AlwaysIn_1.f
 with_reducible exact anyO_mono (fun x_ => impl_AlwaysIn_1.mono x_ a1 a2 a3 a4 a5 k) a0
theorem slices_ContainsFunc_int_int_by_impl_AlwaysIn_1.calls (k : Nat) (A0 : Option Addr) (c0 : Nat) (l0 : List Int) (bp1 : Nat) (a1_0 : Int) (a1_1 : Int) (A1_2 : Option Addr) (c1_2 : Nat) (l1_2 : List (S79)) (A1_3 : Option Addr) (c1_3 : Nat) (l1_3 : List (S95)) (bp2 : Nat) (A2_0 : Option Addr) (c2_0 : Nat) (l2_0 : List (S79)) (r : Bool) (w : World) (hr0 : Kd.C (Kd.int .i64) w A0 l0.length l0) (hc0 : l0.length ≤ c0) (hr1_2 : Kd.C k79 w A1_2 l1_2.length l1_2) (hc1_2 : l1_2.length ≤ c1_2) (hr1_3 : Kd.C k95 w A1_3 l1_3.length l1_3) (hc1_3 : l1_3.length ≤ c1_3) (hb1 : w.heap[bp1]? = some (.cells #[.int .i64 a1_0, .int .i64 a1_1, .slice A1_2 l1_2.length c1_2, .slice A1_3 l1_3.length c1_3] 33 (0, 0))) (hr2_0 : Kd.C k79 w A2_0 l2_0.length l2_0) (hc2_0 : l2_0.length ≤ c2_0) (hb2 : w.heap[bp2]? = some (.cells #[.slice A2_0 l2_0.length c2_0] 30 (0, 0))) (hd1_2 : bp1 ≠ bp2) (h : slices_ContainsFunc_int_int_by_impl_AlwaysIn_1.f k l0 a1_0 a1_1 l1_2 l1_3 l2_0 = some r) :
  Calls Tryz.prog 53 #[.slice A0 l0.length c0, .func (.func 66) #[] #[.pointer (some ⟨bp1, 0, none⟩), .pointer (some ⟨bp2, 0, none⟩)]] w fun e w' => e = .returned (.bool r) ∧ Below w.heap.size w w' := by
 refine slices_ContainsFunc_int_int.gen 66 #[.pointer (some ⟨bp1, 0, none⟩), .pointer (some ⟨bp2, 0, none⟩)] (enters_of Tryz.func66 (by kernel_rfl) rfl) _ A0 c0 l0 r w hr0 hc0 ?_ h
 intro W x b hB_ hin_ hq_
 refine (impl_AlwaysIn_1.calls k x bp1 a1_0 a1_1 _ _ l1_2 _ _ l1_3 bp2 _ _ l2_0 b W (Kd.C_below hr1_2 hB_) hc1_2 (Kd.C_below hr1_3 hB_) hc1_3 (Kd.C_below hr2_0 hB_) hc2_0 ((hB_.block _ (blk_lt hb1)).trans hb1) ((hB_.block _ (blk_lt hb2)).trans hb2) hd1_2 hq_).mono ?_
 rintro e w' ⟨rfl, hd_⟩
 exact ⟨rfl, hd_⟩
def impl_AlwaysIn.j0 : Nat → Bool → Int → Int → List (S79) → List (S95) → List (S79) → Option (Bool × Bool)
 | 0, _, _, _, _, _, _ => none
 | k + 1, x14, x763000, x763001, x763002, x763003, x764000 => if x14 = true then (some (false, false)) else ((impl_Program_reach.f k x763000 x763001 x763002 x763003).bind fun t766 => ((slices_ContainsFunc_int_int_by_impl_AlwaysIn_1.f k t766 x763000 x763001 x763002 x763003 x764000).bind fun t769 => (some (!t769, true))))
def impl_AlwaysIn.f (k : Nat) (a0_0 : Int) (a0_1 : Int) (l0_2 : List (S79)) (l0_3 : List (S95)) (l1 : List (S79)) : Option (Bool × Bool) := (impl_isSmall.f k a0_0 a0_1 l0_2 l0_3).bind fun t764 => (if t764 = true then ((impl_Program_isCondition.f k a0_0 a0_1 l0_2 l0_3 l1).bind fun t765 => (impl_AlwaysIn.j0 k (!t765) a0_0 a0_1 l0_2 l0_3 l1)) else (impl_AlwaysIn.j0 k true a0_0 a0_1 l0_2 l0_3 l1))
theorem impl_AlwaysIn.mono_l : ∀ k, (∀ y0 y1 y2 y3 y4 y5, LeO (impl_AlwaysIn.j0 k y0 y1 y2 y3 y4 y5) (impl_AlwaysIn.j0 (k + 1) y0 y1 y2 y3 y4 y5))
 | 0 => fun _ _ _ _ _ _ r h => by simp [impl_AlwaysIn.j0] at h
 | k + 1 => by
  have ih0 := impl_AlwaysIn.mono_l k
  ·intro y0 y1 y2 y3 y4 y5
   unfold impl_AlwaysIn.j0
   repeat' with_reducible first | apply ih0 | apply impl_Program_isCondition.mono | apply impl_Program_reach.mono | apply impl_isSmall.mono | apply slices_ContainsFunc_int_int_by_impl_AlwaysIn_1.mono | exact LeO.refl _ | exact LeO.none _ | apply LeO.ite | refine LeO.bind ?_ fun _ => ?_
theorem impl_AlwaysIn.mono : ∀ a0 a1 a2 a3 a4 k, LeO (impl_AlwaysIn.f k a0 a1 a2 a3 a4) (impl_AlwaysIn.f (k + 1) a0 a1 a2 a3 a4) := by
 intro a0 a1 a2 a3 a4 k
 have ih0 := impl_AlwaysIn.mono_l k
 unfold impl_AlwaysIn.f
 repeat' with_reducible first | apply ih0 | apply impl_Program_isCondition.mono | apply impl_Program_reach.mono | apply impl_isSmall.mono | apply slices_ContainsFunc_int_int_by_impl_AlwaysIn_1.mono | exact LeO.refl _ | exact LeO.none _ | apply LeO.ite | refine LeO.bind ?_ fun _ => ?_
theorem impl_AlwaysIn.calls (k : Nat) (a0_0 : Int) (a0_1 : Int) (A0_2 : Option Addr) (c0_2 : Nat) (l0_2 : List (S79)) (A0_3 : Option Addr) (c0_3 : Nat) (l0_3 : List (S95)) (A1 : Option Addr) (c1 : Nat) (l1 : List (S79)) (r1 : Bool) (r2 : Bool) (w : World) (hr0_2 : Kd.C k79 w A0_2 l0_2.length l0_2) (hc0_2 : l0_2.length ≤ c0_2) (hr0_3 : Kd.C k95 w A0_3 l0_3.length l0_3) (hc0_3 : l0_3.length ≤ c0_3) (hr1 : Kd.C k79 w A1 l1.length l1) (hc1 : l1.length ≤ c1) (h : impl_AlwaysIn.f k a0_0 a0_1 l0_2 l0_3 l1 = some (r1, r2)) :
  Calls Tryz.prog 26 #[.agg #[.int .i64 a0_0, .int .i64 a0_1, .slice A0_2 l0_2.length c0_2, .slice A0_3 l0_3.length c0_3], .slice A1 l1.length c1] w fun e w' => e = .returned (.tuple #[.bool r1, .bool r2]) ∧ Below w.heap.size w w' := by
 have hu33 := Tryz.underlying33
 have HR0_2 := am_ hr0_2
 have HC0_2 := am_ hc0_2
 clear hr0_2 hc0_2
 have HR0_3 := am_ hr0_3
 have HC0_3 := am_ hc0_3
 clear hr0_3 hc0_3
 have HR1 := am_ hr1
 have HC1 := am_ hc1
 clear hr1 hc1
 have HB := am_ (Below.refl w.heap.size w)
 have H := h
 clear h
 unfold impl_AlwaysIn.f at H
 have HC3 := am_ H
 clear H
 go_enter Tryz.func26, Tryz.ntmps26
 go_upto_region 1 with (first | ((with_reducible refine Sh.d 2 ?_); refine Sh.bz w (N := 2) (cs := #[.int .i64 a0_0, .int .i64 a0_1, .slice A0_2 l0_2.length c0_2, .slice A0_3 l0_3.length c0_3]) (t := 33) (h := ?_); clear HB; intro gb762 w4 BK762 GE762 HB) | ((with_reducible refine Sh.d 3 ?_); refine Sh.bx (N := 3) (cs := #[.slice A1 l1.length c1]) (t := 30) (h := ?_); intro gb763 hg w5 hbox hb; have BK763 := am_ hbox; have GE763 := Sh.ag w hg; replace HB := Sh.hb hb; have NB762_763 := am_ (Sh.nl hg BK762.out); have NB763_762 := am_ (Sh.ng hg BK762.out); replace BK762 := Sh.ab BK762 hb; clear hb hbox hg))
 (try simp only [Act.put, List.setIfInBounds_toArray, List.set_cons_zero, List.set_cons_succ])
 go_cut [14] (fun v14 wc => ∃ (kq : Nat) (x14_2 : Bool), v14 = .bool x14_2 ∧ Aside0 (impl_AlwaysIn.j0 kq x14_2 a0_0 a0_1 l0_2 l0_3 l1 = some (r1, r2)) ∧ Aside0 (kq ≤ k) ∧ Aside0 (wc.heap[gb762]? = some (.cells #[.int .i64 a0_0, .int .i64 a0_1, (.slice A0_2 l0_2.length c0_2), (.slice A0_3 l0_3.length c0_3)] 33 (0, 0))) ∧ Aside0 (wc.heap[gb763]? = some (.cells #[(.slice A1 l1.length c1)] 30 (0, 0))) ∧ Aside0 (Below w.heap.size w wc))
 case first =>
  have H := HC3.out
  clear HC3
  obtain ⟨t764, A6, H⟩ := Sh.ba H
  by_cases c7 : t764 = true
  ·subst c7
   rw [if_pos rfl] at H
   obtain ⟨t765, A8, H⟩ := Sh.ba H
   have H' := am_ H
   clear H
   have hnb9 := NB762_763.out
   have hnc9 := NB763_762.out
   have hcz10_0 := Sh.bc BK762.out 0
   have hcz10_1 := Sh.bc BK762.out 1
   have hcz10_2 := Sh.bc BK762.out 2
   have hcz10_3 := Sh.bc BK762.out 3
   have hfz10_0 := blk_frozen BK762.out 0
   have hfz10_1 := blk_frozen BK762.out 1
   have hfz10_2 := blk_frozen BK762.out 2
   have hfz10_3 := blk_frozen BK762.out 3
   go_wp2_with (first | ((with_reducible refine Sh.k 63 ?_); refine Sh.gB (some 7) Tryz.func63 #[.agg #[.int .i64 a0_0, .int .i64 a0_1, .slice A0_2 l0_2.length c0_2, .slice A0_3 l0_3.length c0_3]] (impl_isSmall.calls k a0_0 a0_1 _ _ l0_2 _ _ l0_3 true _ (Sh.cB HR0_2.out) HC0_2.out (Sh.cB HR0_3.out) HC0_3.out A6.out) fun w11 hb => ?_; replace BK762 := Sh.ab BK762 hb; replace BK763 := Sh.ab BK763 hb; replace HB := Sh.hb hb; (try clear hb); (try clear hb2); (try clear hk); (try clear hi); obtain ⟨hcz12_0, hcz12_1, hcz12_2, hcz12_3, hfz12_0, hfz12_1, hfz12_2, hfz12_3⟩ := Sh.b4 BK762.out; have hcz13_0 := Sh.bc BK763.out 0; have hfz13_0 := blk_frozen BK763.out 0) | (go_at_call 64; (with_reducible refine (impl_Program_isCondition.calls k a0_0 a0_1 _ _ l0_2 _ _ l0_3 _ _ l1 t765 _ (Sh.cB HR0_2.out) HC0_2.out (Sh.cB HR0_3.out) HC0_3.out (Sh.cB HR1.out) HC1.out A8.out).mono ?_); rintro e w14 ⟨rfl, hb⟩; replace BK762 := Sh.ab BK762 hb; replace BK763 := Sh.ab BK763 hb; replace HB := Sh.hb hb; (try clear hb); (try clear hb2); (try clear hk); (try clear hi)))
   go_meet
   case rel => exact ⟨_, (!t765), (Sh.es), H', ⟨Sh.om⟩, ⟨by refine Sh.pl ?_; exact BK762.out⟩, ⟨by refine Sh.pl ?_; exact BK763.out⟩, ⟨Sh.bw⟩⟩
  ·replace c7 := Bool.eq_false_iff.mpr c7
   subst c7
   rw [Sh.nf] at H
   have H' := am_ H
   clear H
   have hnb15 := NB762_763.out
   have hnc15 := NB763_762.out
   have hcz16_0 := Sh.bc BK762.out 0
   have hcz16_1 := Sh.bc BK762.out 1
   have hcz16_2 := Sh.bc BK762.out 2
   have hcz16_3 := Sh.bc BK762.out 3
   have hfz16_0 := blk_frozen BK762.out 0
   have hfz16_1 := blk_frozen BK762.out 1
   have hfz16_2 := blk_frozen BK762.out 2
   have hfz16_3 := blk_frozen BK762.out 3
   go_wp2_with (first | ((with_reducible refine Sh.k 63 ?_); refine Sh.gB (some 7) Tryz.func63 #[.agg #[.int .i64 a0_0, .int .i64 a0_1, .slice A0_2 l0_2.length c0_2, .slice A0_3 l0_3.length c0_3]] (impl_isSmall.calls k a0_0 a0_1 _ _ l0_2 _ _ l0_3 false _ (Sh.cB HR0_2.out) HC0_2.out (Sh.cB HR0_3.out) HC0_3.out A6.out) fun w17 hb => ?_; replace BK762 := Sh.ab BK762 hb; replace BK763 := Sh.ab BK763 hb; replace HB := Sh.hb hb; (try clear hb); (try clear hb2); (try clear hk); (try clear hi)))
   go_meet
   case rel => exact ⟨_, (true), (Sh.es), H', ⟨Sh.om⟩, ⟨by refine Sh.pl ?_; exact BK762.out⟩, ⟨by refine Sh.pl ?_; exact BK763.out⟩, ⟨Sh.bw⟩⟩
 case rest =>
  clear HC3
  try clear hcz10_0
  try clear hcz10_1
  try clear hcz10_2
  try clear hcz10_3
  try clear hcz12_0
  try clear hcz12_1
  try clear hcz12_2
  try clear hcz12_3
  try clear hcz13_0
  try clear hcz16_0
  try clear hcz16_1
  try clear hcz16_2
  try clear hcz16_3
  try clear hfz10_0
  try clear hfz10_1
  try clear hfz10_2
  try clear hfz10_3
  try clear hfz12_0
  try clear hfz12_1
  try clear hfz12_2
  try clear hfz12_3
  try clear hfz13_0
  try clear hfz16_0
  try clear hfz16_1
  try clear hfz16_2
  try clear hfz16_3
  obtain ⟨kq, x14_2, rfl, HA, HJ2, BK762, BK763, HB⟩ := hcut
  cases kq with
  | zero => exact absurd HA.out (by simp [impl_AlwaysIn.j0])
  | succ kj2 =>
   have H := HA.out
   clear HA
   simp only [impl_AlwaysIn.j0] at H
   by_cases c18 : x14_2 = true
   ·subst c18
    rw [if_pos rfl] at H
    simp only [Option.some.injEq, Prod.mk.injEq] at H
    obtain ⟨rfl, rfl⟩ := H
    go_wp2
    go_ret2
    exact ⟨Sh.eR, Sh.bw⟩
   ·replace c18 := Bool.eq_false_iff.mpr c18
    subst c18
    rw [Sh.nf] at H
    obtain ⟨t766, A19, H⟩ := Sh.ba H
    obtain ⟨t769, A20, H⟩ := Sh.ba H
    simp only [Option.some.injEq, Prod.mk.injEq] at H
    obtain ⟨rfl, rfl⟩ := H
    have hnb21 := NB762_763.out
    have hnc21 := NB763_762.out
    have hcz22_0 := Sh.bc BK762.out 0
    have hcz22_1 := Sh.bc BK762.out 1
    have hcz22_2 := Sh.bc BK762.out 2
    have hcz22_3 := Sh.bc BK762.out 3
    have hfz22_0 := blk_frozen BK762.out 0
    have hfz22_1 := blk_frozen BK762.out 1
    have hfz22_2 := blk_frozen BK762.out 2
    have hfz22_3 := blk_frozen BK762.out 3
    go_wp2_with (first | ((with_reducible refine Sh.k 65 ?_); refine Sh.gL (some 16) Tryz.func65 #[.agg #[.int .i64 a0_0, .int .i64 a0_1, .slice A0_2 l0_2.length c0_2, .slice A0_3 l0_3.length c0_3]] (h := ?_); (with_reducible refine (impl_Program_reach.calls kj2 a0_0 a0_1 _ _ l0_2 _ _ l0_3 t766 _ (Sh.cB HR0_2.out) HC0_2.out (Sh.cB HR0_3.out) HC0_3.out A19.out).mono ?_); rintro e w23 ⟨v767, rfl, ho0, hb⟩; refine ⟨_, rfl, ?_⟩; have HO768 := am_ (Kd.R_lower ho0 (below_size Sh.bw)); replace BK762 := Sh.ab BK762 hb; replace BK763 := Sh.ab BK763 hb; replace HB := Sh.hb hb; (try clear hb); (try clear hb2); (try clear hk); (try clear hi); (try clear ho0); obtain ⟨Ao24, co24, eo24⟩ := Kd.R_slice HO768.out; subst eo24) | ((with_reducible refine Sh.k 53 ?_); refine Sh.gL (some 18) Tryz.func53 #[.slice Ao24 t766.length co24, .func (.func 66) #[] #[.pointer (some ⟨gb762, 0, none⟩), .pointer (some ⟨gb763, 0, none⟩)]] (h := ?_); (with_reducible refine (slices_ContainsFunc_int_int_by_impl_AlwaysIn_1.calls kj2 _ _ t766 gb762 a0_0 a0_1 A0_2 c0_2 l0_2 A0_3 c0_3 l0_3 gb763 A1 c1 l1 t769 _ (Sh.cR (Kd.R_reads' HO768.out).2.2) (Kd.R_reads' HO768.out).2.1 (Sh.cB HR0_2.out) HC0_2.out (Sh.cB HR0_3.out) HC0_3.out ?side7 ?side8 ?side9 ?side10 ?side11 A20.out).mono ?_); (case side7 => refine Sh.pl ?_; exact BK762.out); (case side8 => repeat (first | exact (Kd.C_below HR1.out HB.out) | (with_reducible first | refine Kd.C_alloc ?_ _ | refine Kd.C_drewN ?_ _ | refine Kd.C_drew ?_))); (case side9 => exact HC1.out); (case side10 => refine Sh.pl ?_; exact BK763.out); (case side11 => exact NB762_763.out); rintro e w25 ⟨rfl, hb⟩; refine ⟨_, rfl, ?_⟩; replace HO768 := am_ (Kd.R_below (Sh.rl HO768.out) hb); replace BK762 := Sh.ab BK762 hb; replace BK763 := Sh.ab BK763 hb; replace HB := Sh.hb hb; (try clear hb); (try clear hb2); (try clear hk); (try clear hi)))
    go_ret2
    exact ⟨Sh.eR, Sh.bw⟩
open Go.Proofs.YtngefmofelengaaGreat.Lw
def laws_FnExactAlwaysIn.Holds (k : Nat) (a0_0 : Int) (a0_1 : Int) (l0_2 : List (S81)) (l0_3 : List (S104)) (l1 : List (S81)) : Prop :=
 ∃ s6 : Int, laws_szProgram.f k a0_0 a0_1 l0_2 l0_3 1048576 = some s6 ∧ ((s6 < 0) ∨ (¬ (s6 < 0)) ∧ (∃ s8 : Int, laws_szNodeS.f l1 s6 = some s8 ∧ ((s8 < 0) ∨ (¬ (s8 < 0)) ∧ (∃ (y11 : List (S79)) (y12 : List (S95)) (y26 : List (S79)) (y36 : Bool) (y37 : Bool), laws_toProgram.f k a0_0 a0_1 l0_2 l0_3 = some (a0_0, a0_1, y11, y12) ∧ laws_toNodeS.f k l1 = some y26 ∧ spec_AlwaysIn.f k a0_0 a0_1 y11 y12 y26 = some (y36, y37) ∧ impl_AlwaysIn.f k a0_0 a0_1 y11 y12 y26 = some (y36, y37) ∧ laws_eqProgram.f k a0_0 a0_1 y11 y12 a0_0 a0_1 y11 y12 = some true ∧ laws_eqNodeS.f k y26 y26 = some true))))
theorem laws_FnExactAlwaysIn.calls (k : Nat) (a0_0 : Int) (a0_1 : Int) (A0_2 : Option Addr) (c0_2 : Nat) (l0_2 : List (S81)) (A0_3 : Option Addr) (c0_3 : Nat) (l0_3 : List (S104)) (A1 : Option Addr) (c1 : Nat) (l1 : List (S81)) (w : World) (hr0_2 : Kd.C k81 w A0_2 l0_2.length l0_2) (hc0_2 : l0_2.length ≤ c0_2) (hr0_3 : Kd.C k104 w A0_3 l0_3.length l0_3) (hc0_3 : l0_3.length ≤ c0_3) (hr1 : Kd.C k81 w A1 l1.length l1) (hc1 : l1.length ≤ c1) (h : laws_FnExactAlwaysIn.Holds k a0_0 a0_1 l0_2 l0_3 l1) :
  Calls Tryz.prog 5 #[.agg #[.int .i64 a0_0, .int .i64 a0_1, .slice A0_2 l0_2.length c0_2, .slice A0_3 l0_3.length c0_3], .slice A1 l1.length c1] w fun e w' => e = .returned (.bool true) ∧ Below w.heap.size w w' := by
 have hu25 := Tryz.underlying25
 have hu33 := Tryz.underlying33
 have HR0_2 := am_ hr0_2
 have HC0_2 := am_ hc0_2
 clear hr0_2 hc0_2
 have HR0_3 := am_ hr0_3
 have HC0_3 := am_ hc0_3
 clear hr0_3 hc0_3
 have HR1 := am_ hr1
 have HC1 := am_ hc1
 clear hr1 hc1
 have HB := am_ (Below.refl w.heap.size w)
 have NW : 0 ≤ w.heap.size := Nat.zero_le _
 obtain ⟨s6, ESs6, h⟩ := h
 replace ESs6 := am_ ESs6
 rcases h with c | ⟨c, h⟩
 ·have cb : decide (s6 < 0) = true := decide_eq_true c
  clear c
  go_enter Tryz.func5, Tryz.ntmps5
  go_wp2_with (first | ((with_reducible refine Sh.d 2 ?_); refine Sh.bx (N := 2) (cs := #[.int .i64 a0_0, .int .i64 a0_1, .slice A0_2 l0_2.length c0_2, .slice A0_3 l0_3.length c0_3]) (t := 25) (h := ?_); intro g1 hg w3 hbox hb; have BK2 := box_new (w := w) (W := w) HB.out hg hbox; have oa4 := new_g (W := w) hg NW; replace HB := am_ (below_step HB.out hb); replace NW := Nat.le_trans NW hb.size; replace NW := BK2.lt; clear hb hbox hg; have hczq5_0 : w3.cell? ⟨g1, 0, none⟩ = some (.int .i64 a0_0) := (blk_cell BK2.b 0).trans rfl; have hfzq5_0 := blk_frozen BK2.b 0; have hczq5_1 : w3.cell? ⟨g1, 1, none⟩ = some (.int .i64 a0_1) := (blk_cell BK2.b 1).trans rfl; have hfzq5_1 := blk_frozen BK2.b 1; have hczq5_2 : w3.cell? ⟨g1, 2, none⟩ = some (.slice A0_2 l0_2.length c0_2) := (blk_cell BK2.b 2).trans rfl; have hfzq5_2 := blk_frozen BK2.b 2; have hczq5_3 : w3.cell? ⟨g1, 3, none⟩ = some (.slice A0_3 l0_3.length c0_3) := (blk_cell BK2.b 3).trans rfl; have hfzq5_3 := blk_frozen BK2.b 3) | ((with_reducible refine Sh.k 11 ?_); refine Sh.gL (some 14) Tryz.func11 #[.agg #[.int .i64 a0_0, .int .i64 a0_1, .slice A0_2 l0_2.length c0_2, .slice A0_3 l0_3.length c0_3], .int .i64 1048576] (h := ?_); (with_reducible refine (laws_szProgram.calls k a0_0 a0_1 _ _ l0_2 _ _ l0_3 1048576 s6 _ (Kd.C_below HR0_2.out HB.out) HC0_2.out (Kd.C_below HR0_3.out HB.out) HC0_3.out ESs6.out).mono ?_); rintro e w7 ⟨rfl, hb⟩; refine ⟨_, rfl, ?_⟩; replace BK2 := BK2.same hb; replace HB := am_ (below_step HB.out hb); replace NW := Nat.le_trans NW hb.size; clear hb))
  go_ret
  exact ⟨rfl, HB.out⟩
 have cb0 : decide (s6 < 0) = false := decide_eq_false c
 clear c
 obtain ⟨s8, ESs8, h⟩ := h
 replace ESs8 := am_ ESs8
 rcases h with c | ⟨c, h⟩
 ·have cb : decide (s8 < 0) = true := decide_eq_true c
  clear c
  go_enter Tryz.func5, Tryz.ntmps5
  go_wp2_with (first | ((with_reducible refine Sh.d 2 ?_); refine Sh.bx (N := 2) (cs := #[.int .i64 a0_0, .int .i64 a0_1, .slice A0_2 l0_2.length c0_2, .slice A0_3 l0_3.length c0_3]) (t := 25) (h := ?_); intro g1 hg w3 hbox hb; have BK2 := box_new (w := w) (W := w) HB.out hg hbox; have oa4 := new_g (W := w) hg NW; replace HB := am_ (below_step HB.out hb); replace NW := Nat.le_trans NW hb.size; replace NW := BK2.lt; clear hb hbox hg; have hczq5_0 : w3.cell? ⟨g1, 0, none⟩ = some (.int .i64 a0_0) := (blk_cell BK2.b 0).trans rfl; have hfzq5_0 := blk_frozen BK2.b 0; have hczq5_1 : w3.cell? ⟨g1, 1, none⟩ = some (.int .i64 a0_1) := (blk_cell BK2.b 1).trans rfl; have hfzq5_1 := blk_frozen BK2.b 1; have hczq5_2 : w3.cell? ⟨g1, 2, none⟩ = some (.slice A0_2 l0_2.length c0_2) := (blk_cell BK2.b 2).trans rfl; have hfzq5_2 := blk_frozen BK2.b 2; have hczq5_3 : w3.cell? ⟨g1, 3, none⟩ = some (.slice A0_3 l0_3.length c0_3) := (blk_cell BK2.b 3).trans rfl; have hfzq5_3 := blk_frozen BK2.b 3) | ((with_reducible refine Sh.k 11 ?_); refine Sh.gL (some 14) Tryz.func11 #[.agg #[.int .i64 a0_0, .int .i64 a0_1, .slice A0_2 l0_2.length c0_2, .slice A0_3 l0_3.length c0_3], .int .i64 1048576] (h := ?_); (with_reducible refine (laws_szProgram.calls k a0_0 a0_1 _ _ l0_2 _ _ l0_3 1048576 s6 _ (Kd.C_below HR0_2.out HB.out) HC0_2.out (Kd.C_below HR0_3.out HB.out) HC0_3.out ESs6.out).mono ?_); rintro e w7 ⟨rfl, hb⟩; refine ⟨_, rfl, ?_⟩; replace BK2 := BK2.same hb; replace HB := am_ (below_step HB.out hb); replace NW := Nat.le_trans NW hb.size; clear hb) | ((with_reducible refine Sh.k 23 ?_); refine Sh.gL (some 19) Tryz.func23 #[.slice A1 l1.length c1, .int .i64 s6] (h := ?_); (with_reducible refine (laws_szNodeS.calls _ _ l1 s6 s8 _ (Kd.C_below HR1.out HB.out) HC1.out ESs8.out).mono ?_); rintro e w9 ⟨rfl, hb⟩; refine ⟨_, rfl, ?_⟩; replace hb := hb.below; replace BK2 := BK2.same hb; replace HB := am_ (below_step HB.out hb); replace NW := Nat.le_trans NW hb.size; clear hb; have hczq10_0 : w9.cell? ⟨g1, 0, none⟩ = some (.int .i64 a0_0) := (blk_cell BK2.b 0).trans rfl; have hfzq10_0 := blk_frozen BK2.b 0; have hczq10_1 : w9.cell? ⟨g1, 1, none⟩ = some (.int .i64 a0_1) := (blk_cell BK2.b 1).trans rfl; have hfzq10_1 := blk_frozen BK2.b 1; have hczq10_2 : w9.cell? ⟨g1, 2, none⟩ = some (.slice A0_2 l0_2.length c0_2) := (blk_cell BK2.b 2).trans rfl; have hfzq10_2 := blk_frozen BK2.b 2; have hczq10_3 : w9.cell? ⟨g1, 3, none⟩ = some (.slice A0_3 l0_3.length c0_3) := (blk_cell BK2.b 3).trans rfl; have hfzq10_3 := blk_frozen BK2.b 3))
  go_ret
  exact ⟨rfl, HB.out⟩
 have cb1 : decide (s8 < 0) = false := decide_eq_false c
 clear c
 obtain ⟨y11, y12, y26, y36, y37, E1, E2, E3, E4, E5, E6⟩ := h
 replace E1 := am_ E1
 replace E2 := am_ E2
 replace E3 := am_ E3
 replace E4 := am_ E4
 replace E5 := am_ E5
 replace E6 := am_ E6
 have cr0 : (y36 != y36) = false := bne_self_eq_false _
 have cr1 : (y37 != y37) = false := bne_self_eq_false _
 go_enter Tryz.func5, Tryz.ntmps5
 go_upto_region 14 with (first | ((with_reducible refine Sh.d 2 ?_); refine Sh.bx (N := 2) (cs := #[.int .i64 a0_0, .int .i64 a0_1, .slice A0_2 l0_2.length c0_2, .slice A0_3 l0_3.length c0_3]) (t := 25) (h := ?_); intro g1 hg w3 hbox hb; have BK2 := box_new (w := w) (W := w) HB.out hg hbox; have oa4 := new_g (W := w) hg NW; replace HB := am_ (below_step HB.out hb); replace NW := Nat.le_trans NW hb.size; replace NW := BK2.lt; clear hb hbox hg; have hczq5_0 : w3.cell? ⟨g1, 0, none⟩ = some (.int .i64 a0_0) := (blk_cell BK2.b 0).trans rfl; have hfzq5_0 := blk_frozen BK2.b 0; have hczq5_1 : w3.cell? ⟨g1, 1, none⟩ = some (.int .i64 a0_1) := (blk_cell BK2.b 1).trans rfl; have hfzq5_1 := blk_frozen BK2.b 1; have hczq5_2 : w3.cell? ⟨g1, 2, none⟩ = some (.slice A0_2 l0_2.length c0_2) := (blk_cell BK2.b 2).trans rfl; have hfzq5_2 := blk_frozen BK2.b 2; have hczq5_3 : w3.cell? ⟨g1, 3, none⟩ = some (.slice A0_3 l0_3.length c0_3) := (blk_cell BK2.b 3).trans rfl; have hfzq5_3 := blk_frozen BK2.b 3) | ((with_reducible refine Sh.k 11 ?_); refine Sh.gL (some 14) Tryz.func11 #[.agg #[.int .i64 a0_0, .int .i64 a0_1, .slice A0_2 l0_2.length c0_2, .slice A0_3 l0_3.length c0_3], .int .i64 1048576] (h := ?_); (with_reducible refine (laws_szProgram.calls k a0_0 a0_1 _ _ l0_2 _ _ l0_3 1048576 s6 _ (Kd.C_below HR0_2.out HB.out) HC0_2.out (Kd.C_below HR0_3.out HB.out) HC0_3.out ESs6.out).mono ?_); rintro e w7 ⟨rfl, hb⟩; refine ⟨_, rfl, ?_⟩; replace BK2 := BK2.same hb; replace HB := am_ (below_step HB.out hb); replace NW := Nat.le_trans NW hb.size; clear hb) | ((with_reducible refine Sh.k 23 ?_); refine Sh.gL (some 19) Tryz.func23 #[.slice A1 l1.length c1, .int .i64 s6] (h := ?_); (with_reducible refine (laws_szNodeS.calls _ _ l1 s6 s8 _ (Kd.C_below HR1.out HB.out) HC1.out ESs8.out).mono ?_); rintro e w9 ⟨rfl, hb⟩; refine ⟨_, rfl, ?_⟩; replace hb := hb.below; replace BK2 := BK2.same hb; replace HB := am_ (below_step HB.out hb); replace NW := Nat.le_trans NW hb.size; clear hb; have hczq10_0 : w9.cell? ⟨g1, 0, none⟩ = some (.int .i64 a0_0) := (blk_cell BK2.b 0).trans rfl; have hfzq10_0 := blk_frozen BK2.b 0; have hczq10_1 : w9.cell? ⟨g1, 1, none⟩ = some (.int .i64 a0_1) := (blk_cell BK2.b 1).trans rfl; have hfzq10_1 := blk_frozen BK2.b 1; have hczq10_2 : w9.cell? ⟨g1, 2, none⟩ = some (.slice A0_2 l0_2.length c0_2) := (blk_cell BK2.b 2).trans rfl; have hfzq10_2 := blk_frozen BK2.b 2; have hczq10_3 : w9.cell? ⟨g1, 3, none⟩ = some (.slice A0_3 l0_3.length c0_3) := (blk_cell BK2.b 3).trans rfl; have hfzq10_3 := blk_frozen BK2.b 3) | ((with_reducible refine Sh.k 13 ?_); refine Sh.gL (some 24) Tryz.func13 #[.agg #[.int .i64 a0_0, .int .i64 a0_1, .slice A0_2 l0_2.length c0_2, .slice A0_3 l0_3.length c0_3]] (h := ?_); (with_reducible refine (laws_toProgram.calls k a0_0 a0_1 _ _ l0_2 _ _ l0_3 a0_0 a0_1 y11 y12 _ (Kd.C_below HR0_2.out HB.out) HC0_2.out (Kd.C_below HR0_3.out HB.out) HC0_3.out E1.out).mono ?_); rintro e w13 ⟨v2_, v3_, rfl, ho0, ho1, hb⟩; refine ⟨_, rfl, ?_⟩; obtain ⟨lo16, hi17, ⟨HO14, HO15⟩, oa18, ob19, NW2⟩ := new1 (F := fun lo_ hi_ => Held k79 79 w13 w.heap.size lo_ hi_ v2_ y11 ∧ Held k95 95 w13 w.heap.size lo_ hi_ v3_ y12) ⟨held_new ho0 hb HB.out, held_new ho1 hb HB.out⟩ hb NW; replace BK2 := BK2.same hb; replace HB := am_ (below_step HB.out hb); replace NW := Nat.le_trans NW hb.size; replace NW := NW2; skip; obtain ⟨A20, c21, e22⟩ := HO14.slice; subst e22; obtain ⟨A23, c24, e25⟩ := HO15.slice; subst e25; clear hb ho0 ho1) | ((with_reducible refine Sh.k 25 ?_); refine Sh.gL (some 26) Tryz.func25 #[.slice A1 l1.length c1] (h := ?_); (with_reducible refine (laws_toNodeS.calls k _ _ l1 y26 _ (Kd.C_below HR1.out HB.out) HC1.out E2.out).mono ?_); rintro e w27 ⟨v0_, rfl, ho0, hb⟩; refine ⟨_, rfl, ?_⟩; obtain ⟨lo29, hi30, HO28, oa31, ob32, NW2⟩ := new1 (F := fun lo_ hi_ => Held k79 79 w27 w.heap.size lo_ hi_ v0_ y26) (held_new ho0 hb HB.out) hb NW; replace BK2 := BK2.same hb; replace HO14 := HO14.same hb; replace HO15 := HO15.same hb; replace HB := am_ (below_step HB.out hb); replace NW := Nat.le_trans NW hb.size; replace NW := NW2; skip; obtain ⟨A33, c34, e35⟩ := HO28.slice; subst e35; clear hb ho0) | ((with_reducible refine Sh.k 24 ?_); refine Sh.gL (some 27) Tryz.func24 #[.agg #[.int .i64 a0_0, .int .i64 a0_1, .slice A20 y11.length c21, .slice A23 y12.length c24], .slice A33 y26.length c34] (h := ?_); (with_reducible refine (spec_AlwaysIn.calls k a0_0 a0_1 _ _ y11 _ _ y12 _ _ y26 y36 y37 _ HO14.C HO14.c HO15.C HO15.c HO28.C HO28.c E3.out).mono ?_); rintro e w38 ⟨rfl, hb⟩; refine ⟨_, rfl, ?_⟩; replace BK2 := BK2.same hb; replace HO14 := HO14.same hb; replace HO15 := HO15.same hb; replace HO28 := HO28.same hb; replace HB := am_ (below_step HB.out hb); replace NW := Nat.le_trans NW hb.size; clear hb; have hczq39_0 : w38.cell? ⟨g1, 0, none⟩ = some (.int .i64 a0_0) := (blk_cell BK2.b 0).trans rfl; have hfzq39_0 := blk_frozen BK2.b 0; have hczq39_1 : w38.cell? ⟨g1, 1, none⟩ = some (.int .i64 a0_1) := (blk_cell BK2.b 1).trans rfl; have hfzq39_1 := blk_frozen BK2.b 1; have hczq39_2 : w38.cell? ⟨g1, 2, none⟩ = some (.slice A0_2 l0_2.length c0_2) := (blk_cell BK2.b 2).trans rfl; have hfzq39_2 := blk_frozen BK2.b 2; have hczq39_3 : w38.cell? ⟨g1, 3, none⟩ = some (.slice A0_3 l0_3.length c0_3) := (blk_cell BK2.b 3).trans rfl; have hfzq39_3 := blk_frozen BK2.b 3) | ((with_reducible refine Sh.k 13 ?_); refine Sh.gL (some 31) Tryz.func13 #[.agg #[.int .i64 a0_0, .int .i64 a0_1, .slice A0_2 l0_2.length c0_2, .slice A0_3 l0_3.length c0_3]] (h := ?_); (with_reducible refine (laws_toProgram.calls k a0_0 a0_1 _ _ l0_2 _ _ l0_3 a0_0 a0_1 y11 y12 _ (Kd.C_below HR0_2.out HB.out) HC0_2.out (Kd.C_below HR0_3.out HB.out) HC0_3.out E1.out).mono ?_); rintro e w40 ⟨v2_, v3_, rfl, ho0, ho1, hb⟩; refine ⟨_, rfl, ?_⟩; obtain ⟨lo43, hi44, ⟨HO41, HO42⟩, oa45, ob46, NW2⟩ := new1 (F := fun lo_ hi_ => Held k79 79 w40 w.heap.size lo_ hi_ v2_ y11 ∧ Held k95 95 w40 w.heap.size lo_ hi_ v3_ y12) ⟨held_new ho0 hb HB.out, held_new ho1 hb HB.out⟩ hb NW; replace BK2 := BK2.same hb; replace HO14 := HO14.same hb; replace HO15 := HO15.same hb; replace HO28 := HO28.same hb; replace HB := am_ (below_step HB.out hb); replace NW := Nat.le_trans NW hb.size; replace NW := NW2; skip; obtain ⟨A47, c48, e49⟩ := HO41.slice; subst e49; obtain ⟨A50, c51, e52⟩ := HO42.slice; subst e52; clear hb ho0 ho1) | ((with_reducible refine Sh.d 8 ?_); refine Sh.bx (N := 8) (cs := #[.int .i64 0, .int .i64 0, .slice none 0 0, .slice none 0 0]) (t := 33) (h := ?_); intro g53 hg w55 hbox hb; have BK54 := box_new (w := w) (W := w40) HB.out hg hbox; have oa56 := new_g (W := w40) hg NW; replace BK2 := BK2.same hb; replace HO14 := HO14.same hb; replace HO15 := HO15.same hb; replace HO28 := HO28.same hb; replace HO41 := HO41.same hb; replace HO42 := HO42.same hb; replace HB := am_ (below_step HB.out hb); replace NW := Nat.le_trans NW hb.size; replace NW := BK54.lt; clear hb hbox hg) | ((with_reducible refine gate_ (.store 33 (.tmp 8) (.tmp 31)) rfl ?_); refine store_event 8 (.tmp 31) rfl rfl rfl BK54 rfl [.int .i64 a0_0, .int .i64 a0_1, .slice A47 y11.length c48, .slice A50 y12.length c51] rfl rfl ?hs rfl ?h1 ?_; (case hs => kernel_rfl); (case h1 => (simp only [List.mem_cons, List.not_mem_nil, or_false]; intro q_ h_; rcases h_ with h_ | h_ | h_ | h_ <;> (subst h_; rfl))); intro w57 hbx hb hk; replace BK2 := BK2.move hk (by omega); replace HO14 := HO14.move hk (by omega); replace HO15 := HO15.move hk (by omega); replace HO28 := HO28.move hk (by omega); replace HO41 := HO41.move hk (by omega); replace HO42 := HO42.move hk (by omega); replace BK54 := hbx; replace NW := Nat.le_trans NW hk.1; replace HB := am_ (HB.out.trans hb); clear hk hb) | ((with_reducible refine Sh.k 25 ?_); refine Sh.gL (some 33) Tryz.func25 #[.slice A1 l1.length c1] (h := ?_); (with_reducible refine (laws_toNodeS.calls k _ _ l1 y26 _ (Kd.C_below HR1.out HB.out) HC1.out E2.out).mono ?_); rintro e w58 ⟨v0_, rfl, ho0, hb⟩; refine ⟨_, rfl, ?_⟩; obtain ⟨lo60, hi61, HO59, oa62, ob63, NW2⟩ := new1 (F := fun lo_ hi_ => Held k79 79 w58 w.heap.size lo_ hi_ v0_ y26) (held_new ho0 hb HB.out) hb NW; replace BK2 := BK2.same hb; replace HO14 := HO14.same hb; replace HO15 := HO15.same hb; replace HO28 := HO28.same hb; replace HO41 := HO41.same hb; replace HO42 := HO42.same hb; replace BK54 := BK54.same hb; replace HB := am_ (below_step HB.out hb); replace NW := Nat.le_trans NW hb.size; replace NW := NW2; skip; obtain ⟨A64, c65, e66⟩ := HO59.slice; subst e66; clear hb ho0; have hczq67_0 : w58.cell? ⟨g53, 0, none⟩ = some (.int .i64 a0_0) := (blk_cell BK54.b 0).trans rfl; have hfzq67_0 := blk_frozen BK54.b 0; have hczq67_1 : w58.cell? ⟨g53, 1, none⟩ = some (.int .i64 a0_1) := (blk_cell BK54.b 1).trans rfl; have hfzq67_1 := blk_frozen BK54.b 1; have hczq67_2 : w58.cell? ⟨g53, 2, none⟩ = some (.slice A47 y11.length c48) := (blk_cell BK54.b 2).trans rfl; have hfzq67_2 := blk_frozen BK54.b 2; have hczq67_3 : w58.cell? ⟨g53, 3, none⟩ = some (.slice A50 y12.length c51) := (blk_cell BK54.b 3).trans rfl; have hfzq67_3 := blk_frozen BK54.b 3) | ((with_reducible refine Sh.k 26 ?_); refine Sh.gL (some 37) Tryz.func26 #[.agg #[.int .i64 a0_0, .int .i64 a0_1, .slice A47 y11.length c48, .slice A50 y12.length c51], .slice A64 y26.length c65] (h := ?_); (with_reducible refine (impl_AlwaysIn.calls k a0_0 a0_1 _ _ y11 _ _ y12 _ _ y26 y36 y37 _ HO41.C HO41.c HO42.C HO42.c HO59.C HO59.c E4.out).mono ?_); rintro e w68 ⟨rfl, hb⟩; refine ⟨_, rfl, ?_⟩; replace BK2 := BK2.same hb; replace HO14 := HO14.same hb; replace HO15 := HO15.same hb; replace HO28 := HO28.same hb; replace HO41 := HO41.same hb; replace HO42 := HO42.same hb; replace BK54 := BK54.same hb; replace HO59 := HO59.same hb; replace HB := am_ (below_step HB.out hb); replace NW := Nat.le_trans NW hb.size; clear hb))
 (try simp only [Act.put, List.setIfInBounds_toArray, List.set_cons_zero, List.set_cons_succ])
 try go_wp2
 have hb : Below w68.heap.size w68 w68.drew := below_drew (Below.refl _ _)
 replace BK2 := BK2.same hb
 replace HO14 := HO14.same hb
 replace HO15 := HO15.same hb
 replace HO28 := HO28.same hb
 replace HO41 := HO41.same hb
 replace HO42 := HO42.same hb
 replace BK54 := BK54.same hb
 replace HO59 := HO59.same hb
 replace HB := am_ (below_step HB.out hb)
 replace NW := Nat.le_trans NW hb.size
 clear hb
 have hL_ : 0 ≤ 0 := Nat.le_refl 0
 refine start_ (n := 5) (S := fun w' => w'.cell? ⟨g53, 0, none⟩ = some (.int .i64 a0_0) ∧ w'.cell? ⟨g53, 1, none⟩ = some (.int .i64 a0_1) ∧ w'.cell? ⟨g53, 2, none⟩ = some (.slice A47 y11.length c48) ∧ w'.cell? ⟨g53, 3, none⟩ = some (.slice A50 y12.length c51) ∧ w'.cell? ⟨g1, 0, none⟩ = some (.int .i64 a0_0) ∧ w'.cell? ⟨g1, 1, none⟩ = some (.int .i64 a0_1) ∧ w'.cell? ⟨g1, 2, none⟩ = some (.slice A0_2 l0_2.length c0_2) ∧ w'.cell? ⟨g1, 3, none⟩ = some (.slice A0_3 l0_3.length c0_3)) (ds := []) (Sh.nm 5 0) (by kernel_rfl) rfl rfl ⟨(blk_cell BK54.b 0).trans rfl, (blk_cell BK54.b 1).trans rfl, (blk_cell BK54.b 2).trans rfl, (blk_cell BK54.b 3).trans rfl, (blk_cell BK2.b 0).trans rfl, (blk_cell BK2.b 1).trans rfl, (blk_cell BK2.b 2).trans rfl, (blk_cell BK2.b 3).trans rfl⟩ (fun hHeld => ?_)
 generalize w68.drew = w69 at BK2 HO14 HO15 HO28 HO41 HO42 BK54 HO59 HB NW hHeld ⊢
 clear hL_
 refine Sh.tA 0 48 (Sh.nm 5 1) (by kernel_rfl) hHeld ?_ (hy := by rintro w' ⟨s0, s1, s2, s3, s4, s5, s6, s7⟩; go_simp; with_reducible rfl)
 refine Sh.tA 1 49 (Sh.nm 5 3) (by kernel_rfl) hHeld ?_ (hy := by rintro w' ⟨s0, s1, s2, s3, s4, s5, s6, s7⟩; go_simp; with_reducible rfl)
 refine one_ (i := 2) (N := some 50) (Sh.nm 5 7) rfl rfl (by kernel_rfl) (by decide) (fun K hK => ?_)
 refine goes_ Tryz.func13 (by kernel_rfl) rfl #[.agg #[.int .i64 a0_0, .int .i64 a0_1, .slice A0_2 l0_2.length c0_2, .slice A0_3 l0_3.length c0_3]] (by rfl) rfl rfl (by (try simp only [List.map_toArray, List.map_cons, List.map_nil]); first | done | rfl | (simp only [List.length_drop, List.length_take]; rfl)) ?_
 with_reducible refine (laws_toProgram.calls k a0_0 a0_1 _ _ l0_2 _ _ l0_3 a0_0 a0_1 y11 y12 _ (Kd.C_below HR0_2.out HB.out) HC0_2.out (Kd.C_below HR0_3.out HB.out) HC0_3.out E1.out).mono ?_
 rintro e w70 ⟨v2_, v3_, rfl, ho0, ho1, hb⟩
 refine ⟨_, rfl, ?_⟩
 obtain ⟨lo73, hi74, ⟨HO71, HO72⟩, oa75, ob76, NW2⟩ := new1 (F := fun lo_ hi_ => Held k79 79 w70 w.heap.size lo_ hi_ v2_ y11 ∧ Held k95 95 w70 w.heap.size lo_ hi_ v3_ y12) ⟨held_new ho0 hb HB.out, held_new ho1 hb HB.out⟩ hb NW
 replace BK2 := BK2.same hb
 replace HO14 := HO14.same hb
 replace HO15 := HO15.same hb
 replace HO28 := HO28.same hb
 replace HO41 := HO41.same hb
 replace HO42 := HO42.same hb
 replace BK54 := BK54.same hb
 replace HO59 := HO59.same hb
 replace HB := am_ (below_step HB.out hb)
 replace NW := Nat.le_trans NW hb.size
 replace NW := NW2
 skip
 obtain ⟨A77, c78, e79⟩ := HO71.slice
 subst e79
 obtain ⟨A80, c81, e82⟩ := HO72.slice
 subst e82
 clear hb ho0 ho1
 refine Sh.kN hK ⟨(blk_cell BK54.b 0).trans rfl, (blk_cell BK54.b 1).trans rfl, (blk_cell BK54.b 2).trans rfl, (blk_cell BK54.b 3).trans rfl, (blk_cell BK2.b 0).trans rfl, (blk_cell BK2.b 1).trans rfl, (blk_cell BK2.b 2).trans rfl, (blk_cell BK2.b 3).trans rfl⟩ fun hHeld => ?_
 clear hK K
 refine one_ (i := 3) (N := some 51) (Sh.nm 5 15) rfl rfl (by kernel_rfl) (by decide) (fun K hK => ?_)
 refine goes_ Tryz.func16 (by kernel_rfl) rfl #[.agg #[.int .i64 a0_0, .int .i64 a0_1, .slice A47 y11.length c48, .slice A50 y12.length c51], .agg #[.int .i64 a0_0, .int .i64 a0_1, .slice A77 y11.length c78, .slice A80 y12.length c81]] (by rfl) rfl rfl (by (try simp only [List.map_toArray, List.map_cons, List.map_nil]); first | done | rfl | (simp only [List.length_drop, List.length_take]; rfl)) ?_
 with_reducible refine (laws_eqProgram.calls k a0_0 a0_1 _ _ y11 _ _ y12 a0_0 a0_1 _ _ y11 _ _ y12 true _ HO41.C HO41.c HO42.C HO42.c HO71.C HO71.c HO72.C HO72.c E5.out).mono ?_
 rintro e w83 ⟨rfl, hb⟩
 refine ⟨_, rfl, ?_⟩
 replace BK2 := BK2.same hb
 replace HO14 := HO14.same hb
 replace HO15 := HO15.same hb
 replace HO28 := HO28.same hb
 replace HO41 := HO41.same hb
 replace HO42 := HO42.same hb
 replace BK54 := BK54.same hb
 replace HO59 := HO59.same hb
 replace HO71 := HO71.same hb
 replace HO72 := HO72.same hb
 replace HB := am_ (below_step HB.out hb)
 replace NW := Nat.le_trans NW hb.size
 clear hb
 refine Sh.kN hK ⟨(blk_cell BK54.b 0).trans rfl, (blk_cell BK54.b 1).trans rfl, (blk_cell BK54.b 2).trans rfl, (blk_cell BK54.b 3).trans rfl, (blk_cell BK2.b 0).trans rfl, (blk_cell BK2.b 1).trans rfl, (blk_cell BK2.b 2).trans rfl, (blk_cell BK2.b 3).trans rfl⟩ fun hHeld => ?_
 clear hK K
 refine Sh.pA 4 52 (Sh.nm 5 31) (by kernel_rfl) ?_
 refine done_ (by kernel_rfl) ?_
 go_wp2_with (first | ((with_reducible refine Sh.k 25 ?_); refine Sh.gL (some 55) Tryz.func25 #[.slice A1 l1.length c1] (h := ?_); (with_reducible refine (laws_toNodeS.calls k _ _ l1 y26 _ (Kd.C_below HR1.out HB.out) HC1.out E2.out).mono ?_); rintro e w84 ⟨v0_, rfl, ho0, hb⟩; refine ⟨_, rfl, ?_⟩; obtain ⟨lo86, hi87, HO85, oa88, ob89, NW2⟩ := new1 (F := fun lo_ hi_ => Held k79 79 w84 w.heap.size lo_ hi_ v0_ y26) (held_new ho0 hb HB.out) hb NW; replace BK2 := BK2.same hb; replace HO14 := HO14.same hb; replace HO15 := HO15.same hb; replace HO28 := HO28.same hb; replace HO41 := HO41.same hb; replace HO42 := HO42.same hb; replace BK54 := BK54.same hb; replace HO59 := HO59.same hb; replace HO71 := HO71.same hb; replace HO72 := HO72.same hb; replace HB := am_ (below_step HB.out hb); replace NW := Nat.le_trans NW hb.size; replace NW := NW2; skip; obtain ⟨A90, c91, e92⟩ := HO85.slice; subst e92; clear hb ho0) | ((with_reducible refine Sh.k 27 ?_); refine Sh.gL (some 56) Tryz.func27 #[.slice A64 y26.length c65, .slice A90 y26.length c91] (h := ?_); (with_reducible refine (laws_eqNodeS.calls k _ _ y26 _ _ y26 true _ HO59.C HO59.c HO85.C HO85.c E6.out).mono ?_); rintro e w93 ⟨rfl, hb⟩; refine ⟨_, rfl, ?_⟩; replace BK2 := BK2.same hb; replace HO14 := HO14.same hb; replace HO15 := HO15.same hb; replace HO28 := HO28.same hb; replace HO41 := HO41.same hb; replace HO42 := HO42.same hb; replace BK54 := BK54.same hb; replace HO59 := HO59.same hb; replace HO71 := HO71.same hb; replace HO72 := HO72.same hb; replace HO85 := HO85.same hb; replace HB := am_ (below_step HB.out hb); replace NW := Nat.le_trans NW hb.size; clear hb))
 go_ret
 exact ⟨rfl, HB.out⟩
end Go.Proofs.YtngefmofelengaaGreat.P
