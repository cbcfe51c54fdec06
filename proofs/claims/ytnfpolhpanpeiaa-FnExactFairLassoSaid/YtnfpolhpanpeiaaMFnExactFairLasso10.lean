/- Go functions of this seat as Lean functions, and the proofs that the calls come to what these say; printed by a program of this session. No condition. -/
import Derived.Test.YtnfpolhpanpeiaaP0
import Derived.Test.YtnfpolhpanpeiaaMFnExactFairLasso2
import Derived.Test.YtnfpolhpanpeiaaMFnExactFairLasso8
import Derived.Test.YtnfpolhpanpeiaaMFnExactFairLasso9
set_option linter.unusedVariables false
set_option linter.unusedSimpArgs false
set_option maxHeartbeats 40000000
set_option maxRecDepth 100000
namespace Go.Proofs.Ytnfpolhpanpeiaa.P
open Go.RowKit Go.Proofs.YtnfpolhpanpeiaaW.PrintWords Go.Proofs.YtnfpolhpanpeiaaW.PrintLast Go.Proofs.YtnfpolhpanpeiaaW.PrintMore Go.Proofs.Ytnfpolhpanpeiaa.Hof
attribute [local go_sem] max2_int min2_int max_two min_two max_three min_three max_four min_four
mutual
def impl_stepsFrom.l0 : Nat → List (List Int) → List Int → List Int → List Int → Int → Int → Option (List Int)
 | 0, _, _, _, _, _, _ => none
 | k + 1, x0, x5, x6, x17, x18, x19 => if x19 < x18 then (if 0 ≤ x19 then (if x19 < (x17.length : Int) then (if 0 ≤ (rd x17 x19) then (if (rd x17 x19) < (x5.length : Int) then (impl_stepsFrom.l0 k x0 (x5.set ((rd x17 x19) : Int).toNat 0) x6 x17 x18 (wrap64 (x19 + 1))) else (none)) else (none)) else (none)) else (none)) else (impl_stepsFrom.l1 k x0 x5 x6)
def impl_stepsFrom.l1 : Nat → List (List Int) → List Int → List Int → Option (List Int)
 | 0, _, _, _ => none
 | k + 1, x0, x5, x6 => if (x6.length : Int) > 0 then (if 0 < (x6.length : Int) then (if 0 ≤ (rd x6 0) then (if (rd x6 0) < (x0.length : Int) then (impl_stepsFrom.l2 k x0 x5 x6 (rd_L1 x0 (rd x6 0)) ((rd_L1 x0 (rd x6 0)).length : Int) 0) else (none)) else (none)) else (none)) else (some x5)
def impl_stepsFrom.l2 : Nat → List (List Int) → List Int → List Int → List Int → Int → Int → Option (List Int)
 | 0, _, _, _, _, _, _ => none
 | k + 1, x0, x5, x6, x37, x38, x39 => if x39 < x38 then (if 0 ≤ x39 then (if x39 < (x37.length : Int) then (if 0 ≤ (rd x37 x39) then (if (rd x37 x39) < (x5.length : Int) then (if (rd x5 (rd x37 x39)) < 0 then (if 0 < (x6.length : Int) then (if 0 ≤ (rd x6 0) then (if (rd x6 0) < (x5.length : Int) then (if x6.length < 17592186044416 then (impl_stepsFrom.l2 k x0 (x5.set ((rd x37 x39) : Int).toNat (wrap64 ((rd x5 (rd x6 0)) + 1))) (x6 ++ [rd x37 x39]) x37 x38 (wrap64 (x39 + 1))) else (none)) else (none)) else (none)) else (none)) else (impl_stepsFrom.l2 k x0 x5 x6 x37 x38 (wrap64 (x39 + 1)))) else (none)) else (none)) else (none)) else (none)) else (if 1 ≤ (x6.length : Int) then (impl_stepsFrom.l1 k x0 x5 (x6.drop (1 : Int).toNat)) else (none))
end
def impl_stepsFrom.f (k : Nat) (l0 : List (List Int)) (l1 : List Int) : Option (List Int) := (slices_Repeat_int_int.f (([(-1)] : List Int)) (l0.length : Int)).bind fun t377 => ((slices_Clone_int_int.f l1).bind fun t380 => (impl_stepsFrom.l0 k l0 t377 t380 l1 (l1.length : Int) 0))
theorem impl_stepsFrom.mono_l : ∀ k, (∀ y0 y1 y2 y3 y4 y5, LeO (impl_stepsFrom.l0 k y0 y1 y2 y3 y4 y5) (impl_stepsFrom.l0 (k + 1) y0 y1 y2 y3 y4 y5)) ∧ (∀ y0 y1 y2, LeO (impl_stepsFrom.l1 k y0 y1 y2) (impl_stepsFrom.l1 (k + 1) y0 y1 y2)) ∧ (∀ y0 y1 y2 y3 y4 y5, LeO (impl_stepsFrom.l2 k y0 y1 y2 y3 y4 y5) (impl_stepsFrom.l2 (k + 1) y0 y1 y2 y3 y4 y5))
 | 0 => ⟨fun _ _ _ _ _ _ r h => by simp [impl_stepsFrom.l0] at h, fun _ _ _ r h => by simp [impl_stepsFrom.l1] at h, fun _ _ _ _ _ _ r h => by simp [impl_stepsFrom.l2] at h⟩
 | k + 1 => by
  obtain ⟨ih0, ih1, ih2⟩ := impl_stepsFrom.mono_l k
  and_intros <;> intros
  all_goals (first | unfold impl_stepsFrom.l0 | unfold impl_stepsFrom.l1 | unfold impl_stepsFrom.l2)
  all_goals repeat' with_reducible first | apply ih0 | apply ih1 | apply ih2 | exact LeO.refl _ | exact LeO.none _ | apply LeO.ite | refine LeO.bind ?_ fun _ => ?_
theorem impl_stepsFrom.mono : ∀ a0 a1 k, LeO (impl_stepsFrom.f k a0 a1) (impl_stepsFrom.f (k + 1) a0 a1) := by
 intro a0 a1 k
 obtain ⟨ih0, ih1, ih2⟩ := impl_stepsFrom.mono_l k
 unfold impl_stepsFrom.f
 repeat' with_reducible first | apply ih0 | apply ih1 | apply ih2 | exact LeO.refl _ | exact LeO.none _ | apply LeO.ite | refine LeO.bind ?_ fun _ => ?_
theorem impl_stepsFrom.calls (k : Nat) (A0 : Option Addr) (c0 : Nat) (l0 : List (List Int)) (A1 : Option Addr) (c1 : Nat) (l1 : List Int) (r : List Int) (w : World) (hr0 : Kd.C (Kd.slice 3 (Kd.int .i64)) w A0 l0.length l0) (hc0 : l0.length ≤ c0) (hr1 : Kd.C (Kd.int .i64) w A1 l1.length l1) (hc1 : l1.length ≤ c1) (h : impl_stepsFrom.f k l0 l1 = some r) :
  Calls Try.prog 72 #[.slice A0 l0.length c0, .slice A1 l1.length c1] w fun e w' => ∃ v0_ : Value, e = .returned (v0_) ∧ Kd.R (Kd.int .i64) 3 w' w.heap.size (fun _ => True) v0_ r ∧ Below w.heap.size w w' := by
 have HR0 := am_ hr0
 have HC0 := am_ hc0
 clear hr0 hc0
 have HR1 := am_ hr1
 have HC1 := am_ hc1
 clear hr1 hc1
 have HB := am_ (Below.refl w.heap.size w)
 have H := h
 clear h
 unfold impl_stepsFrom.f at H
 obtain ⟨y374, hy374⟩ : ∃ y_ : List Int, y_ = (([(-1)] : List Int)) := ⟨_, rfl⟩
 replace H : ((slices_Repeat_int_int.f y374 (l0.length : Int)).bind fun t377 => ((slices_Clone_int_int.f l1).bind fun t380 => (impl_stepsFrom.l0 k l0 t377 t380 l1 (l1.length : Int) 0))) = some r := by first | (rw [hy374]; with_reducible exact H) | (have H2_ := (Option.bind_some _ _).symm.trans H; rw [hy374]; with_reducible exact H2_) | (have H2_ := (Option.bind_some _ _).symm.trans H; with_reducible exact H2_) | with_reducible exact H | (rw [hy374]; exact H) | exact H
 have Ny374 := am_ hy374
 clear hy374
 obtain ⟨t377, A3, H⟩ := Sh.ba H
 obtain ⟨t380, A4, H⟩ := Sh.ba H
 have H' := am_ H
 clear H
 go_enter Try.func72, Try.ntmps72
 go_wp2_with (first | ((with_reducible refine Sh.d 11 ?_); refine Kd.R_lit (Kd.int .i64) _ 3 ?hg (N := 11) ?hd (xs := ([(-1)] : List Int)) (inner := [.int .i64 (-1)]) (ok := fun _ => True) (okp := fun _ => True) ?hr ?hp (fun _ hk => hk) trivial (Below.refl _ _) (Nat.le_refl _) (by simp) ?_; (case hd => rfl); (case hg => rfl); (case hr => first | (go_simp; done) | (go_simp; rfl)); (case hp => exact (Reps.one (show Kd.M (Kd.int .i64) _ _ _ (-1) [.int .i64 (-1)] from rfl) (Reps.none _ _))); intro v375 w5 ho6 hb hg_ hnew_; clear hg_ hnew_; (first | rw [← Ny374.out] at ho6 | (simp only [Int.reduceToNat] at ho6; rw [← Ny374.out] at ho6)); have HO376 := am_ (Kd.R_lower ho6 (below_size Sh.bw)); replace HB := Sh.hb hb; clear hb ho6; obtain ⟨Ao7, co7, eo7⟩ := Kd.R_slice HO376.out; subst eo7) | ((with_reducible refine Sh.k 32 ?_); refine Sh.gL (some 14) Try.func32 #[.slice Ao7 y374.length co7, .int .i64 (l0.length : Int)] (h := ?_); (with_reducible refine (slices_Repeat_int_int.calls _ _ y374 (l0.length : Int) t377 _ (Sh.cR (Kd.R_reads' HO376.out).2.2) (Kd.R_reads' HO376.out).2.1 A3.out).mono ?_); rintro e w8 ⟨v378, rfl, ho0, hb⟩; refine ⟨_, rfl, ?_⟩; have HO379 := am_ (Kd.R_lower (Kd.R_new' ho0 (Kd.R_lt (Sh.rl HO376.out))) (below_size Sh.bw)); replace HO376 := am_ (Kd.R_elder' (Sh.rl HO376.out) (Kd.R_base ho0) hb); replace HB := Sh.hb hb; (try clear hb); (try clear hk); (try clear ho0)) | ((with_reducible refine Sh.k 64 ?_); refine Sh.gL (some 16) Try.func64 #[.slice A1 l1.length c1] (h := ?_); (with_reducible refine (slices_Clone_int_int.calls _ _ l1 t380 _ (Sh.cB HR1.out) HC1.out A4.out).mono ?_); rintro e w9 ⟨v381, rfl, ho0, hb⟩; refine ⟨_, rfl, ?_⟩; have HO382 := am_ (Kd.R_lower (Kd.R_new' (Kd.R_new' ho0 (Kd.R_lt (Sh.rl HO376.out))) (Kd.R_lt (Sh.rl HO379.out))) (below_size Sh.bw)); replace HO376 := am_ (Kd.R_elder' (Sh.rl HO376.out) (Kd.R_base ho0) hb); replace HO379 := am_ (Kd.R_elder' (Sh.rl HO379.out) (Kd.R_base ho0) hb); replace HB := Sh.hb hb; (try clear hb); (try clear ho0)))
 go_loopg [19] k (fun kq v19 w' => ∃ (x5_1 : List Int) (x19_1 : Int), v19 = .int .i64 x19_1 ∧ Aside0 (impl_stepsFrom.l0 kq l0 x5_1 t380 l1 (l1.length : Int) x19_1 = some r) ∧ Aside0 (kq ≤ k) ∧ Aside0 (Kd.R (Kd.int .i64) 3 w' w.heap.size (fun k_ => some k_ ≠ (v381 : Value).ownBlock) v378 x5_1) ∧ Aside0 (Kd.Q (Kd.int .i64) 3 w' w.heap.size (fun k_ => some k_ ≠ (v378 : Value).ownBlock) v381 t380) ∧ Aside0 (Below w.heap.size w w'))
 case atStart => exact ⟨(t377), (0), (Sh.es), H', ⟨Nat.le_refl _⟩, ⟨Sh.rl (Kd.R_mono HO379.out (fun _ hk => hk.2))⟩, ⟨Kd.Q_of_R (Sh.rl (Kd.R_mono HO382.out (fun _ hk => hk.2)))⟩, ⟨Sh.bw⟩⟩
 case round =>
  clear H'
  obtain ⟨x5_1, x19_1, rfl, HA, HK1, HO_5, HO_6, HB⟩ := hrel
  cases gk with
  | zero => exact absurd HA.out (by simp [impl_stepsFrom.l0])
  | succ k1 =>
   have H := HA.out
   clear HA
   simp only [impl_stepsFrom.l0] at H
   by_cases c10 : x19_1 < (l1.length : Int)
   ·rw [if_pos c10] at H
    replace c10 := decide_eq_true c10
    by_cases c11 : 0 ≤ x19_1
    ·rw [if_pos c11] at H
     replace c11 := decide_eq_true c11
     by_cases c12 : x19_1 < (l1.length : Int)
     ·rw [if_pos c12] at H
      replace c12 := decide_eq_true c12
      by_cases c13 : 0 ≤ (rd l1 x19_1)
      ·rw [if_pos c13] at H
       replace c13 := decide_eq_true c13
       by_cases c14 : (rd l1 x19_1) < (x5_1.length : Int)
       ·rw [if_pos c14] at H
        replace c14 := decide_eq_true c14
        obtain ⟨y384, hy384⟩ : ∃ y_ : List Int, y_ = (x5_1.set ((rd l1 x19_1) : Int).toNat 0) := ⟨_, rfl⟩
        replace H : (impl_stepsFrom.l0 k1 l0 y384 t380 l1 (l1.length : Int) (wrap64 (x19_1 + 1))) = some r := by first | (rw [hy384]; with_reducible exact H) | (have H2_ := (Option.bind_some _ _).symm.trans H; rw [hy384]; with_reducible exact H2_) | (have H2_ := (Option.bind_some _ _).symm.trans H; with_reducible exact H2_) | with_reducible exact H | (rw [hy384]; exact H) | exact H
        have Ny384 := am_ hy384
        clear hy384
        have H' := am_ H
        clear H
        have p383 : 0 ≤ (x19_1 : Int) := Sh.od
        have q383 : x19_1 < (l1.length : Int) := Sh.od
        obtain ⟨ad383, e383, hx383_0⟩ := Kd.at_int HR1.out x19_1 p383 q383
        cases e383
        try replace hx383_0 := Sh.cw hx383_0
        replace p383 := eq_true p383
        replace q383 := eq_true q383
        have p15 : 0 ≤ ((rd l1 x19_1) : Int) := Sh.od
        have q15 : ((rd l1 x19_1) : Int) < ((x5_1.length : Int) : Int) := Sh.od
        obtain ⟨go15, co15, eo15, gb15, gl15, cl15, HG15⟩ := Kd.R_form HO_5.out (by omega)
        (first | cases eo15 | (injection eo15 with ea_ en_ ec_; (first | subst ea_ | (injection ea_ with ea_; subst ea_)); subst ec_; clear en_))
        have GB15 := am_ gb15
        have GG15 := am_ HG15
        clear gb15 gl15 HG15
        obtain ⟨hx15_0, hf15_0⟩ := Kd.R_celln 0 HO_5.out ((rd l1 x19_1) : Int) p15 q15
        replace p15 := eq_true p15
        replace q15 := eq_true q15
        have HP16 := Kd.R_putg HO_5.out ((rd l1 x19_1) : Int) 0
        go_wp2_with (first | ((with_reducible refine gate_store (t := 3) (p := 25) rfl ?_); refine store_event (t := 3) (p := 25) (v := ?vo_w17) (w1 := (wr.setCell ⟨go15, ((rd l1 x19_1) : Int).toNat, none⟩ (.int .i64 0))) ?hg ?ho ?hn ?hr ?_; (case ho => rfl); (case hg => rfl); (case hn => rfl); (case hr => first | (go_simp; done) | (go_simp; rfl)); intro w17 hw; have hg : wr.grownBy w17 (some go15) := (by rw [hw]; exact HP16.2); have hp_ : Kd.R (Kd.int .i64) 3 w17 w.heap.size (fun k_ => some k_ ≠ (v381 : Value).ownBlock) (.slice (some ⟨go15, 0, none⟩) x5_1.length co15) y384 := (by rw [hw, Ny384.out]; exact HP16.1); clear HP16; replace HO_5 := am_ hp_; replace HO_6 := am_ (Kd.Q_after (v := (.slice (some ⟨go15, 0, none⟩) x5_1.length co15)) (v1 := (.slice (some ⟨go15, 0, none⟩) x5_1.length co15)) (ok := (fun _ => True)) (by (with_reducible repeat (first | apply Kd.Q_alloc | apply Kd.Q_drewN | apply Kd.Q_drew)); exact Kd.Q_mono HO_6.out (fun _ hk => ⟨trivial, hk⟩)) hg (.inl rfl)); replace HB := am_ ((by rw [hw]; exact below_set (HB.out) GB15.out : Below w.heap.size w w17)); clear hg hw hp_))
        go_roundg k1
        case measure => have := HK1.out; omega
        case rel => exact ⟨(y384), (wrap64 (x19_1 + 1)), (Sh.es), H', ⟨by have := HK1.out; omega⟩, ⟨Sh.rl HO_5.out⟩, ⟨by (with_reducible repeat (first | apply Kd.Q_alloc | apply Kd.Q_drewN | apply Kd.Q_drew)); exact Kd.Q_mono HO_6.out (fun _ hk => hk.2)⟩, ⟨Sh.bw⟩⟩
       ·rw [if_neg c14] at H
        cases H
      ·rw [if_neg c13] at H
       cases H
     ·rw [if_neg c12] at H
      cases H
    ·rw [if_neg c11] at H
     cases H
   ·rw [if_neg c10] at H
    replace c10 := decide_eq_false c10
    have H' := am_ H
    clear H
    go_wp2
    go_loopg [6] k1 (fun kq v6 w' => ∃ (x5_2 : List Int) (x6_2 : List Int), Aside0 (impl_stepsFrom.l1 kq l0 x5_2 x6_2 = some r) ∧ Aside0 (kq ≤ k1) ∧ Aside0 (Kd.R (Kd.int .i64) 3 w' w.heap.size (fun k_ => some k_ ≠ (v6 : Value).ownBlock) v378 x5_2) ∧ Aside0 (Kd.Q (Kd.int .i64) 3 w' w.heap.size (fun k_ => some k_ ≠ (v378 : Value).ownBlock) v6 x6_2) ∧ Aside0 (Below w.heap.size w w'))
    case atStart => exact ⟨(x5_1), (t380), H', ⟨Nat.le_refl _⟩, ⟨Sh.rl HO_5.out⟩, ⟨by (with_reducible repeat (first | apply Kd.Q_alloc | apply Kd.Q_drewN | apply Kd.Q_drew)); exact HO_6.out⟩, ⟨Sh.bw⟩⟩
    case round =>
     clear H'
     try clear hx1
     try clear hx3
     try clear hx15
     try clear hf15
     try clear hx15_0
     try clear hx383_0
     obtain ⟨x5_2, x6_2, HA, HK2, HO_5, HO_6, HB⟩ := hrel
     cases gk with
     | zero => exact absurd HA.out (by simp [impl_stepsFrom.l1])
     | succ k2 =>
      have H := HA.out
      clear HA
      simp only [impl_stepsFrom.l1] at H
      by_cases c18 : (x6_2.length : Int) > 0
      ·rw [if_pos c18] at H
       have c18b0 : decide (0 < (x6_2.length : Int)) = true := decide_eq_true c18
       have c18b1 : decide (0 < x6_2.length) = true := decide_eq_true (by omega)
       clear c18
       by_cases c19 : 0 < (x6_2.length : Int)
       ·rw [if_pos c19] at H
        have c19b0 := decide_eq_true c19
        have c19b1 : decide (0 < x6_2.length) = true := decide_eq_true (by omega)
        clear c19
        by_cases c20 : 0 ≤ (rd x6_2 0)
        ·rw [if_pos c20] at H
         replace c20 := decide_eq_true c20
         by_cases c21 : (rd x6_2 0) < (l0.length : Int)
         ·rw [if_pos c21] at H
          replace c21 := decide_eq_true c21
          have H' := am_ H
          clear H
          obtain ⟨Ao22, co22, eo22, _⟩ := Kd.Q_slice HO_6.out
          subst eo22
          have p385 : 0 ≤ (0 : Int) := (by omega)
          have q385 : 0 < (x6_2.length : Int) := Sh.od
          obtain ⟨ad385, e385, hx385_0⟩ := Kd.at_int (Kd.Q_reads' HO_6.out).2.2 0 p385 q385
          cases e385
          have qi385 : (0 < x6_2.length) = True := eq_true (by omega)
          (try rw [show ((0 : Int)).toNat = 0 from rfl] at hx385_0)
          (try rw [Addr.add_zero'] at hx385_0)
          replace p385 := eq_true p385
          replace q385 := eq_true q385
          have p386 : 0 ≤ ((rd x6_2 0) : Int) := Sh.od
          have q386 : (rd x6_2 0) < (l0.length : Int) := Sh.od
          obtain ⟨ad386, A386_0, c386_0, e386, hx386_0, hl386_0, hi386_0⟩ := at_L1 HR0.out (rd x6_2 0) p386 q386
          cases e386
          try replace hx386_0 := Sh.cw hx386_0
          have HR386_0 := am_ hi386_0
          have HC386_0 := am_ hl386_0
          clear hi386_0 hl386_0
          replace p386 := eq_true p386
          replace q386 := eq_true q386
          go_wp2
          go_loopg [6, 39] k2 (fun kq v6 v39 w' => ∃ (x5_3 : List Int) (x6_3 : List Int) (x39_3 : Int), v39 = .int .i64 x39_3 ∧ Aside0 (impl_stepsFrom.l2 kq l0 x5_3 x6_3 (rd_L1 l0 (rd x6_2 0)) ((rd_L1 l0 (rd x6_2 0)).length : Int) x39_3 = some r) ∧ Aside0 (kq ≤ k2) ∧ Aside0 (Kd.R (Kd.int .i64) 3 w' w.heap.size (fun k_ => some k_ ≠ (v6 : Value).ownBlock) v378 x5_3) ∧ Aside0 (Kd.Q (Kd.int .i64) 3 w' w.heap.size (fun k_ => some k_ ≠ (v378 : Value).ownBlock) v6 x6_3) ∧ Aside0 (Below w.heap.size w w'))
          case atStart => exact ⟨(x5_2), (x6_2), (0), (Sh.es), H', ⟨Nat.le_refl _⟩, ⟨Sh.rl HO_5.out⟩, ⟨by (with_reducible repeat (first | apply Kd.Q_alloc | apply Kd.Q_drewN | apply Kd.Q_drew)); exact HO_6.out⟩, ⟨Sh.bw⟩⟩
          case round =>
           clear H'
           try clear hx1
           try clear hx3
           try clear qi3
           try clear hx15
           try clear hf15
           try clear hx15_0
           try clear hx383_0
           try clear hx385_0
           try clear hx386_0
           obtain ⟨x5_3, x6_3, x39_3, rfl, HA, HK3, HO_5, HO_6, HB⟩ := hrel
           cases gk with
           | zero => exact absurd HA.out (by simp [impl_stepsFrom.l2])
           | succ k3 =>
            have H := HA.out
            clear HA
            simp only [impl_stepsFrom.l2] at H
            by_cases c23 : x39_3 < ((rd_L1 l0 (rd x6_2 0)).length : Int)
            ·rw [if_pos c23] at H
             replace c23 := decide_eq_true c23
             by_cases c24 : 0 ≤ x39_3
             ·rw [if_pos c24] at H
              replace c24 := decide_eq_true c24
              by_cases c25 : x39_3 < ((rd_L1 l0 (rd x6_2 0)).length : Int)
              ·rw [if_pos c25] at H
               replace c25 := decide_eq_true c25
               by_cases c26 : 0 ≤ (rd (rd_L1 l0 (rd x6_2 0)) x39_3)
               ·rw [if_pos c26] at H
                replace c26 := decide_eq_true c26
                by_cases c27 : (rd (rd_L1 l0 (rd x6_2 0)) x39_3) < (x5_3.length : Int)
                ·rw [if_pos c27] at H
                 replace c27 := decide_eq_true c27
                 by_cases c28 : (rd x5_3 (rd (rd_L1 l0 (rd x6_2 0)) x39_3)) < 0
                 ·rw [if_pos c28] at H
                  replace c28 := decide_eq_true c28
                  by_cases c29 : 0 < (x6_3.length : Int)
                  ·rw [if_pos c29] at H
                   have c29b0 := decide_eq_true c29
                   have c29b1 : decide (0 < x6_3.length) = true := decide_eq_true (by omega)
                   clear c29
                   by_cases c30 : 0 ≤ (rd x6_3 0)
                   ·rw [if_pos c30] at H
                    replace c30 := decide_eq_true c30
                    by_cases c31 : (rd x6_3 0) < (x5_3.length : Int)
                    ·rw [if_pos c31] at H
                     replace c31 := decide_eq_true c31
                     obtain ⟨y391, hy391⟩ : ∃ y_ : List Int, y_ = (x5_3.set ((rd (rd_L1 l0 (rd x6_2 0)) x39_3) : Int).toNat (wrap64 ((rd x5_3 (rd x6_3 0)) + 1))) := ⟨_, rfl⟩
                     replace H : (if x6_3.length < 17592186044416 then (impl_stepsFrom.l2 k3 l0 y391 (x6_3 ++ [rd (rd_L1 l0 (rd x6_2 0)) x39_3]) (rd_L1 l0 (rd x6_2 0)) ((rd_L1 l0 (rd x6_2 0)).length : Int) (wrap64 (x39_3 + 1))) else (none)) = some r := by first | (rw [hy391]; with_reducible exact H) | (have H2_ := (Option.bind_some _ _).symm.trans H; rw [hy391]; with_reducible exact H2_) | (have H2_ := (Option.bind_some _ _).symm.trans H; with_reducible exact H2_) | with_reducible exact H | (rw [hy391]; exact H) | exact H
                     have Ny391 := am_ hy391
                     clear hy391
                     by_cases c33 : x6_3.length < 17592186044416
                     ·rw [if_pos c33] at H
                      have LMc33 := am_ c33
                      clear c33
                      obtain ⟨y392, hy392⟩ : ∃ y_ : List Int, y_ = (x6_3 ++ [rd (rd_L1 l0 (rd x6_2 0)) x39_3]) := ⟨_, rfl⟩
                      replace H : (impl_stepsFrom.l2 k3 l0 y391 y392 (rd_L1 l0 (rd x6_2 0)) ((rd_L1 l0 (rd x6_2 0)).length : Int) (wrap64 (x39_3 + 1))) = some r := by first | (rw [hy392]; with_reducible exact H) | (have H2_ := (Option.bind_some _ _).symm.trans H; rw [hy392]; with_reducible exact H2_) | (have H2_ := (Option.bind_some _ _).symm.trans H; with_reducible exact H2_) | with_reducible exact H | (rw [hy392]; exact H) | exact H
                      have Ny392 := am_ hy392
                      clear hy392
                      have H' := am_ H
                      clear H
                      have p387 : 0 ≤ (x39_3 : Int) := Sh.od
                      have q387 : x39_3 < ((rd_L1 l0 (rd x6_2 0)).length : Int) := Sh.od
                      obtain ⟨ad387, e387, hx387_0⟩ := Kd.at_int HR386_0.out x39_3 p387 q387
                      cases e387
                      try replace hx387_0 := Sh.cw hx387_0
                      replace p387 := eq_true p387
                      replace q387 := eq_true q387
                      obtain ⟨Ao34, co34, eo34⟩ := Kd.R_slice HO_5.out
                      subst eo34
                      have p388 : 0 ≤ ((rd (rd_L1 l0 (rd x6_2 0)) x39_3) : Int) := Sh.od
                      have q388 : (rd (rd_L1 l0 (rd x6_2 0)) x39_3) < (x5_3.length : Int) := Sh.od
                      obtain ⟨ad388, e388, hx388_0⟩ := Kd.at_int (Kd.R_reads' HO_5.out).2.2 (rd (rd_L1 l0 (rd x6_2 0)) x39_3) p388 q388
                      cases e388
                      replace p388 := eq_true p388
                      replace q388 := eq_true q388
                      obtain ⟨Ao35, co35, eo35, _⟩ := Kd.Q_slice HO_6.out
                      subst eo35
                      have p389 : 0 ≤ (0 : Int) := (by omega)
                      have q389 : 0 < (x6_3.length : Int) := Sh.od
                      obtain ⟨ad389, e389, hx389_0⟩ := Kd.at_int (Kd.Q_reads' HO_6.out).2.2 0 p389 q389
                      cases e389
                      have qi389 : (0 < x6_3.length) = True := eq_true (by omega)
                      (try rw [show ((0 : Int)).toNat = 0 from rfl] at hx389_0)
                      (try rw [Addr.add_zero'] at hx389_0)
                      replace p389 := eq_true p389
                      replace q389 := eq_true q389
                      have p390 : 0 ≤ ((rd x6_3 0) : Int) := Sh.od
                      have q390 : (rd x6_3 0) < (x5_3.length : Int) := Sh.od
                      obtain ⟨ad390, e390, hx390_0⟩ := Kd.at_int (Kd.R_reads' HO_5.out).2.2 (rd x6_3 0) p390 q390
                      obtain rfl : ad388 = ad390 := (by injection e390)
                      replace p390 := eq_true p390
                      replace q390 := eq_true q390
                      have p32 : 0 ≤ ((rd (rd_L1 l0 (rd x6_2 0)) x39_3) : Int) := Sh.od
                      have q32 : ((rd (rd_L1 l0 (rd x6_2 0)) x39_3) : Int) < ((x5_3.length : Int) : Int) := Sh.od
                      obtain ⟨go32, co32, eo32, gb32, gl32, cl32, HG32⟩ := Kd.R_form HO_5.out (by omega)
                      (first | cases eo32 | (injection eo32 with ea_ en_ ec_; (first | subst ea_ | (injection ea_ with ea_; subst ea_)); subst ec_; clear en_))
                      have GB32 := am_ gb32
                      have GG32 := am_ HG32
                      clear gb32 gl32 HG32
                      (first | simp only [add_plain] at hx388_0 | skip)
                      (first | simp only [add_plain] at hx390_0 | skip)
                      obtain ⟨hx32_0, hf32_0⟩ := Kd.R_celln 0 HO_5.out ((rd (rd_L1 l0 (rd x6_2 0)) x39_3) : Int) p32 q32
                      replace p32 := eq_true p32
                      replace q32 := eq_true q32
                      have HP36 := Kd.R_putg HO_5.out ((rd (rd_L1 l0 (rd x6_2 0)) x39_3) : Int) (wrap64 ((rd x5_3 (rd x6_3 0)) + 1))
                      go_wp2_with (first | ((with_reducible refine gate_store (t := 3) (p := 57) rfl ?_); refine store_event (t := 3) (p := 57) (v := ?vo_w37) (w1 := (wr.setCell ⟨go32, ((rd (rd_L1 l0 (rd x6_2 0)) x39_3) : Int).toNat, none⟩ (.int .i64 (wrap64 ((rd x5_3 (rd x6_3 0)) + 1))))) ?hg ?ho ?hn ?hr ?_; (case ho => rfl); (case hg => rfl); (case hn => rfl); (case hr => first | (go_simp; done) | (go_simp; rfl)); intro w37 hw; have hg : wr.grownBy w37 (some go32) := (by rw [hw]; exact HP36.2); have hp_ : Kd.R (Kd.int .i64) 3 w37 w.heap.size (fun k_ => some k_ ≠ (.slice (some ad389) x6_3.length co35 : Value).ownBlock) (.slice (some ⟨go32, 0, none⟩) x5_3.length co34) y391 := (by rw [hw, Ny391.out]; exact HP36.1); clear HP36; replace HO_5 := am_ hp_; replace HO_6 := am_ (Kd.Q_after (v := (.slice (some ⟨go32, 0, none⟩) x5_3.length co34)) (v1 := (.slice (some ⟨go32, 0, none⟩) x5_3.length co34)) (ok := (fun _ => True)) (by (with_reducible repeat (first | apply Kd.Q_alloc | apply Kd.Q_drewN | apply Kd.Q_drew)); exact Kd.Q_mono HO_6.out (fun _ hk => ⟨trivial, hk⟩)) hg (.inl rfl)); replace HB := am_ ((by rw [hw]; exact below_set (HB.out) GB32.out : Below w.heap.size w w37)); clear hg hw hp_) | ((with_reducible refine gate_builtin (b := .append) (xs := #[.tmp 58, .tmp 60]) rfl ?_); at_builtin; refine Kd.Q_append (Kd.int .i64) (w0 := w) w.heap.size rfl (.tmp 58) (.tmp 60) 26 3 (.int .i64 0) 8 rfl Try.underlying26 info3 rfl (by decide) (by omega) (.slice (some ad389) x6_3.length co35) x6_3 (rd (rd_L1 l0 (rd x6_2 0)) x39_3) [.int .i64 (rd (rd_L1 l0 (rd x6_2 0)) x39_3)] (fun k_ => some k_ ≠ (.slice (some ⟨go32, 0, none⟩) x5_3.length co34 : Value).ownBlock) (fun _ => False) rfl rfl ?aP (fun _ hk => hk.elim) ?aF ?aO ?aB ?aS ?aL ?_; (case aP => exact rfl); (case aB => exact Sh.bw); (case aF => exact (fun k_ hk => Kd.fresh' (Kd.R_lt (Sh.rl HO_5.out)) k_ hk)); (case aO => exact (by (with_reducible repeat (first | apply Kd.Q_alloc | apply Kd.Q_drewN | apply Kd.Q_drew)); exact Kd.Q_mono HO_6.out (fun _ hk => hk.2))); (case aS => exact (below_size Sh.bw)); (case aL => have := LMc33.out; omega); intro v393 w38 ho hb hg hat; rw [← Ny392.out] at ho; have n0_ := am_ (Kd.R_after (ok := (fun _ => True)) (Sh.rl (Kd.R_mono HO_5.out (fun _ hk => ⟨trivial, hk⟩))) hg hat); have n1_ := am_ hb; have n2_ := am_ ho; clear HO_5; clear HB; clear HO_6; have HO_5 := n0_; have HB := n1_; have HO394 := n2_; clear n0_ n1_ n2_; clear ho hb hg hat))
                      go_roundg k3
                      case measure => have := HK1.out; have := HK2.out; have := HK3.out; omega
                      case rel => exact ⟨(y391), (y392), (wrap64 (x39_3 + 1)), (Sh.es), H', ⟨by have := HK1.out; have := HK2.out; have := HK3.out; omega⟩, ⟨Sh.rl (Kd.R_mono HO_5.out (fun _ hk => hk.2))⟩, ⟨by (with_reducible repeat (first | apply Kd.Q_alloc | apply Kd.Q_drewN | apply Kd.Q_drew)); exact HO394.out⟩, ⟨Sh.bw⟩⟩
                     ·rw [if_neg c33] at H
                      cases H
                    ·rw [if_neg c31] at H
                     cases H
                   ·rw [if_neg c30] at H
                    cases H
                  ·rw [if_neg c29] at H
                   cases H
                 ·rw [if_neg c28] at H
                  replace c28 := decide_eq_false c28
                  have H' := am_ H
                  clear H
                  have p387 : 0 ≤ (x39_3 : Int) := Sh.od
                  have q387 : x39_3 < ((rd_L1 l0 (rd x6_2 0)).length : Int) := Sh.od
                  obtain ⟨ad387, e387, hx387_0⟩ := Kd.at_int HR386_0.out x39_3 p387 q387
                  cases e387
                  try replace hx387_0 := Sh.cw hx387_0
                  replace p387 := eq_true p387
                  replace q387 := eq_true q387
                  obtain ⟨Ao39, co39, eo39⟩ := Kd.R_slice HO_5.out
                  subst eo39
                  have p388 : 0 ≤ ((rd (rd_L1 l0 (rd x6_2 0)) x39_3) : Int) := Sh.od
                  have q388 : (rd (rd_L1 l0 (rd x6_2 0)) x39_3) < (x5_3.length : Int) := Sh.od
                  obtain ⟨ad388, e388, hx388_0⟩ := Kd.at_int (Kd.R_reads' HO_5.out).2.2 (rd (rd_L1 l0 (rd x6_2 0)) x39_3) p388 q388
                  cases e388
                  replace p388 := eq_true p388
                  replace q388 := eq_true q388
                  go_wp2
                  go_roundg k3
                  case measure => have := HK1.out; have := HK2.out; have := HK3.out; omega
                  case rel => exact ⟨(x5_3), (x6_3), (wrap64 (x39_3 + 1)), (Sh.es), H', ⟨by have := HK1.out; have := HK2.out; have := HK3.out; omega⟩, ⟨Sh.rl HO_5.out⟩, ⟨by (with_reducible repeat (first | apply Kd.Q_alloc | apply Kd.Q_drewN | apply Kd.Q_drew)); exact HO_6.out⟩, ⟨Sh.bw⟩⟩
                ·rw [if_neg c27] at H
                 cases H
               ·rw [if_neg c26] at H
                cases H
              ·rw [if_neg c25] at H
               cases H
             ·rw [if_neg c24] at H
              cases H
            ·rw [if_neg c23] at H
             replace c23 := decide_eq_false c23
             by_cases c40 : 1 ≤ (x6_3.length : Int)
             ·rw [if_pos c40] at H
              have c40b0 := eq_true c40
              have c40b1 := decide_eq_true c40
              clear c40
              obtain ⟨y395, hy395⟩ : ∃ y_ : List Int, y_ = (x6_3.drop (1 : Int).toNat) := ⟨_, rfl⟩
              replace H : (impl_stepsFrom.l1 k3 l0 x5_3 y395) = some r := by first | (rw [hy395]; with_reducible exact H) | (have H2_ := (Option.bind_some _ _).symm.trans H; rw [hy395]; with_reducible exact H2_) | (have H2_ := (Option.bind_some _ _).symm.trans H; with_reducible exact H2_) | with_reducible exact H | (rw [hy395]; exact H) | exact H
              have Ny395 := am_ hy395
              clear hy395
              have H' := am_ H
              clear H
              obtain ⟨Ao41, co41, eo41, _⟩ := Kd.Q_slice HO_6.out
              subst eo41
              have q42 : (1 : Int) ≤ ((x6_3.length : Int) : Int) := Sh.od
              obtain ⟨i042, hi042, _, hsz42, _⟩ := info_parts info3
              have hcut42 := cut_from (P := Try.prog) 26 3 .i64 Try.underlying26 hi042 1 hsz42 Ao41 x6_3.length co41 1 (by omega) q42
              have hr42 := Kd.Q_drop (k := (1 : Int).toNat) HO_6.out (by omega)
              obtain ⟨A42, hA42⟩ : ∃ A1, A1 = (if co41 = (1 : Int).toNat then Ao41 else (Ao41 : Option Addr).map (·.add ((1 : Int).toNat * 1))) := ⟨_, rfl⟩
              obtain ⟨c42, hc42⟩ : ∃ c1, c1 = co41 - (1 : Int).toNat := ⟨_, rfl⟩
              have hy42 : y395.length = x6_3.length - (1 : Int).toNat := (by rw [Ny395.out, List.length_drop])
              rw [← Ny395.out] at hr42
              rw [← hy42, ← hA42, ← hc42] at hcut42
              replace hr42 : Kd.Q (Kd.int .i64) 3 wr w.heap.size (fun k_ => some k_ ≠ (v378 : Value).ownBlock) (.slice A42 y395.length c42) y395 := (by rw [hA42, hc42, hy42]; exact hr42)
              have HE42 : Aside0 ((Value.slice A42 y395.length c42).ownBlock = (.slice Ao41 x6_3.length co41 : Value).ownBlock) := ⟨by rw [hA42]; split <;> (cases (Ao41 : Option Addr) <;> rfl)⟩
              clear hy42 hi042 hsz42 HO_6 hA42 hc42
              have HO397 := am_ hr42
              clear hr42
              replace q42 := eq_true q42
              have n_ := am_ (Kd.R_mono (ok' := fun k_ => some k_ ≠ (.slice A42 y395.length c42 : Value).ownBlock) HO_5.out (fun k_ hk => (by rw [HE42.out]; exact hk)))
              clear HO_5
              have HO_5 := n_
              clear n_
              go_wp2
              go_roundg k3
              case measure => have := HK1.out; have := HK2.out; have := HK3.out; omega
              case rel => exact ⟨(x5_3), (y395), H', ⟨by have := HK1.out; have := HK2.out; have := HK3.out; omega⟩, ⟨Sh.rl HO_5.out⟩, ⟨by (with_reducible repeat (first | apply Kd.Q_alloc | apply Kd.Q_drewN | apply Kd.Q_drew)); exact HO397.out⟩, ⟨Sh.bw⟩⟩
             ·rw [if_neg c40] at H
              cases H
         ·rw [if_neg c21] at H
          cases H
        ·rw [if_neg c20] at H
         cases H
       ·rw [if_neg c19] at H
        cases H
      ·rw [if_neg c18] at H
       have c18b0 : decide (0 < (x6_2.length : Int)) = false := decide_eq_false c18
       have c18b1 : decide (0 < x6_2.length) = false := decide_eq_false (by omega)
       clear c18
       obtain rfl := Option.some.inj H
       obtain ⟨Ao43, co43, eo43, _⟩ := Kd.Q_slice HO_6.out
       subst eo43
       go_wp2
       go_ret
       exact ⟨_, Sh.eR, Sh.rl (Kd.R_mono HO_5.out (fun _ hk => trivial)), Sh.bw⟩
def impl_meeting.l0 : Nat → List Int → Int → List Bool → Int → Int → Option (Int)
 | 0, _, _, _, _, _ => none
 | k + 1, x7, x8, x16, x17, x18 => if x18 < x17 then (if 0 ≤ x18 then (if x18 < (x16.length : Int) then (if rdOf false x16 x18 = true then (if x18 < (x7.length : Int) then (if (rd x7 x18) ≥ 0 then (if x8 < 0 then (impl_meeting.l0 k x7 x18 x16 x17 (wrap64 (x18 + 1))) else (if 0 ≤ x8 then (if x8 < (x7.length : Int) then (if (rd x7 x18) < (rd x7 x8) then (impl_meeting.l0 k x7 x18 x16 x17 (wrap64 (x18 + 1))) else (impl_meeting.l0 k x7 x8 x16 x17 (wrap64 (x18 + 1)))) else (none)) else (none))) else (impl_meeting.l0 k x7 x8 x16 x17 (wrap64 (x18 + 1)))) else (none)) else (impl_meeting.l0 k x7 x8 x16 x17 (wrap64 (x18 + 1)))) else (none)) else (none)) else (some x8)
def impl_meeting.f (k : Nat) (l0 : List (List Int)) (l1 : List Int) (l2 : List (List Int)) : Option (Int) := (impl_stepsFrom.f k l0 l1).bind fun t398 => ((impl_fairVertices.f k l0 l2).bind fun t401 => (impl_meeting.l0 k t398 (-1) t401 (t401.length : Int) 0))
theorem impl_meeting.mono_l : ∀ k, (∀ y0 y1 y2 y3 y4, LeO (impl_meeting.l0 k y0 y1 y2 y3 y4) (impl_meeting.l0 (k + 1) y0 y1 y2 y3 y4))
 | 0 => fun _ _ _ _ _ r h => by simp [impl_meeting.l0] at h
 | k + 1 => by
  have ih0 := impl_meeting.mono_l k
  ·intro y0 y1 y2 y3 y4
   unfold impl_meeting.l0
   repeat' with_reducible first | apply ih0 | apply impl_fairVertices.mono | apply impl_stepsFrom.mono | exact LeO.refl _ | exact LeO.none _ | apply LeO.ite | refine LeO.bind ?_ fun _ => ?_
theorem impl_meeting.mono : ∀ a0 a1 a2 k, LeO (impl_meeting.f k a0 a1 a2) (impl_meeting.f (k + 1) a0 a1 a2) := by
 intro a0 a1 a2 k
 have ih0 := impl_meeting.mono_l k
 unfold impl_meeting.f
 repeat' with_reducible first | apply ih0 | apply impl_fairVertices.mono | apply impl_stepsFrom.mono | exact LeO.refl _ | exact LeO.none _ | apply LeO.ite | refine LeO.bind ?_ fun _ => ?_
theorem impl_meeting.calls (k : Nat) (A0 : Option Addr) (c0 : Nat) (l0 : List (List Int)) (A1 : Option Addr) (c1 : Nat) (l1 : List Int) (A2 : Option Addr) (c2 : Nat) (l2 : List (List Int)) (r : Int) (w : World) (hr0 : Kd.C (Kd.slice 3 (Kd.int .i64)) w A0 l0.length l0) (hc0 : l0.length ≤ c0) (hr1 : Kd.C (Kd.int .i64) w A1 l1.length l1) (hc1 : l1.length ≤ c1) (hr2 : Kd.C (Kd.slice 3 (Kd.int .i64)) w A2 l2.length l2) (hc2 : l2.length ≤ c2) (h : impl_meeting.f k l0 l1 l2 = some r) :
  Calls Try.prog 60 #[.slice A0 l0.length c0, .slice A1 l1.length c1, .slice A2 l2.length c2] w fun e w' => e = .returned (.int .i64 r) ∧ Below w.heap.size w w' := by
 have HR0 := am_ hr0
 have HC0 := am_ hc0
 clear hr0 hc0
 have HR1 := am_ hr1
 have HC1 := am_ hc1
 clear hr1 hc1
 have HR2 := am_ hr2
 have HC2 := am_ hc2
 clear hr2 hc2
 have HB := am_ (Below.refl w.heap.size w)
 have H := h
 clear h
 unfold impl_meeting.f at H
 obtain ⟨t398, A4, H⟩ := Sh.ba H
 obtain ⟨t401, A5, H⟩ := Sh.ba H
 have H' := am_ H
 clear H
 go_enter Try.func60, Try.ntmps60
 go_wp2_with (first | (go_at_call 72; (with_reducible refine (impl_stepsFrom.calls k _ _ l0 _ _ l1 t398 _ ?side1 ?side2 ?side3 ?side4 A4.out).mono ?_); (case side1 => repeat (first | exact HR0.out | (with_reducible first | refine Kd.C_alloc ?_ _ | refine Kd.C_drewN ?_ _ | refine Kd.C_drew ?_))); (case side2 => exact HC0.out); (case side3 => repeat (first | exact HR1.out | (with_reducible first | refine Kd.C_alloc ?_ _ | refine Kd.C_drewN ?_ _ | refine Kd.C_drew ?_))); (case side4 => exact HC1.out); rintro e w6 ⟨v399, rfl, ho0, hb⟩; have HO400 := am_ (Kd.R_lower ho0 (below_size Sh.bw)); replace HB := Sh.hb hb; (try clear hb); (try clear hk); (try clear ho0)) | (go_at_call 57; (with_reducible refine (impl_fairVertices.calls k _ _ l0 _ _ l2 t401 _ (Sh.cB HR0.out) HC0.out (Sh.cB HR2.out) HC2.out A5.out).mono ?_); rintro e w7 ⟨v402, rfl, ho0, hb⟩; replace HO400 := am_ (Kd.R_below (Sh.rl HO400.out) hb); have HO403 := am_ (Kd.R_lower ho0 (below_size Sh.bw)); replace HB := Sh.hb hb; (try clear hb); (try clear ho0); obtain ⟨Ao8, co8, eo8⟩ := Kd.R_slice HO403.out; subst eo8))
 repeat (go_quiet (first | (go_at_call 72; (with_reducible refine (impl_stepsFrom.calls k _ _ l0 _ _ l1 t398 _ ?side1 ?side2 ?side3 ?side4 A4.out).mono ?_); (case side1 => repeat (first | exact HR0.out | (with_reducible first | refine Kd.C_alloc ?_ _ | refine Kd.C_drewN ?_ _ | refine Kd.C_drew ?_))); (case side2 => exact HC0.out); (case side3 => repeat (first | exact HR1.out | (with_reducible first | refine Kd.C_alloc ?_ _ | refine Kd.C_drewN ?_ _ | refine Kd.C_drew ?_))); (case side4 => exact HC1.out); rintro e w6 ⟨v399, rfl, ho0, hb⟩; have HO400 := am_ (Kd.R_lower ho0 (below_size Sh.bw)); replace HB := Sh.hb hb; (try clear hb); (try clear ho0)) | (go_at_call 57; (with_reducible refine (impl_fairVertices.calls k _ _ l0 _ _ l2 t401 _ (Sh.cB HR0.out) HC0.out (Sh.cB HR2.out) HC2.out A5.out).mono ?_); rintro e w7 ⟨v402, rfl, ho0, hb⟩; replace HO400 := am_ (Kd.R_below (Sh.rl HO400.out) hb); have HO403 := am_ (Kd.R_lower ho0 (below_size Sh.bw)); replace HB := Sh.hb hb; (try clear hb); (try clear ho0); obtain ⟨Ao8, co8, eo8⟩ := Kd.R_slice HO403.out; subst eo8)); try go_wp2_with (first | (go_at_call 72; (with_reducible refine (impl_stepsFrom.calls k _ _ l0 _ _ l1 t398 _ ?side1 ?side2 ?side3 ?side4 A4.out).mono ?_); (case side1 => repeat (first | exact HR0.out | (with_reducible first | refine Kd.C_alloc ?_ _ | refine Kd.C_drewN ?_ _ | refine Kd.C_drew ?_))); (case side2 => exact HC0.out); (case side3 => repeat (first | exact HR1.out | (with_reducible first | refine Kd.C_alloc ?_ _ | refine Kd.C_drewN ?_ _ | refine Kd.C_drew ?_))); (case side4 => exact HC1.out); rintro e w6 ⟨v399, rfl, ho0, hb⟩; have HO400 := am_ (Kd.R_lower ho0 (below_size Sh.bw)); replace HB := Sh.hb hb; (try clear hb); (try clear ho0)) | (go_at_call 57; (with_reducible refine (impl_fairVertices.calls k _ _ l0 _ _ l2 t401 _ (Sh.cB HR0.out) HC0.out (Sh.cB HR2.out) HC2.out A5.out).mono ?_); rintro e w7 ⟨v402, rfl, ho0, hb⟩; replace HO400 := am_ (Kd.R_below (Sh.rl HO400.out) hb); have HO403 := am_ (Kd.R_lower ho0 (below_size Sh.bw)); replace HB := Sh.hb hb; (try clear hb); (try clear ho0); obtain ⟨Ao8, co8, eo8⟩ := Kd.R_slice HO403.out; subst eo8)))
 go_loopg [8, 18] k (fun kq v8 v18 w' => ∃ (x8_1 : Int) (x18_1 : Int), v8 = .int .i64 x8_1 ∧ v18 = .int .i64 x18_1 ∧ Aside0 (impl_meeting.l0 kq t398 x8_1 t401 (t401.length : Int) x18_1 = some r) ∧ Aside0 (kq ≤ k) ∧ Aside0 (Kd.R (Kd.int .i64) 3 w' w.heap.size (fun _ => True) v399 t398) ∧ Aside0 (Kd.R Kd.bool 4 w' w.heap.size (fun _ => True) (.slice Ao8 t401.length co8) t401) ∧ Aside0 (Below w.heap.size w w'))
 case atStart => exact ⟨((-1)), (0), (Sh.es), (Sh.es), H', ⟨Nat.le_refl _⟩, ⟨Sh.rl HO400.out⟩, ⟨Sh.rl HO403.out⟩, ⟨Sh.bw⟩⟩
 case round =>
  clear H'
  obtain ⟨x8_1, x18_1, rfl, rfl, HA, HK1, HO_7, HO_16, HB⟩ := hrel
  cases gk with
  | zero => exact absurd HA.out (by simp [impl_meeting.l0])
  | succ k1 =>
   have H := HA.out
   clear HA
   simp only [impl_meeting.l0] at H
   by_cases c9 : x18_1 < (t401.length : Int)
   ·rw [if_pos c9] at H
    replace c9 := decide_eq_true c9
    by_cases c10 : 0 ≤ x18_1
    ·rw [if_pos c10] at H
     replace c10 := decide_eq_true c10
     by_cases c11 : x18_1 < (t401.length : Int)
     ·rw [if_pos c11] at H
      replace c11 := decide_eq_true c11
      obtain ⟨bq12, hbq12⟩ : ∃ b_ : Bool, b_ = (rdOf false t401 x18_1) := ⟨_, rfl⟩
      replace H : (if bq12 = true then (if x18_1 < (t398.length : Int) then (if (rd t398 x18_1) ≥ 0 then (if x8_1 < 0 then (impl_meeting.l0 k1 t398 x18_1 t401 (t401.length : Int) (wrap64 (x18_1 + 1))) else (if 0 ≤ x8_1 then (if x8_1 < (t398.length : Int) then (if (rd t398 x18_1) < (rd t398 x8_1) then (impl_meeting.l0 k1 t398 x18_1 t401 (t401.length : Int) (wrap64 (x18_1 + 1))) else (impl_meeting.l0 k1 t398 x8_1 t401 (t401.length : Int) (wrap64 (x18_1 + 1)))) else (none)) else (none))) else (impl_meeting.l0 k1 t398 x8_1 t401 (t401.length : Int) (wrap64 (x18_1 + 1)))) else (none)) else (impl_meeting.l0 k1 t398 x8_1 t401 (t401.length : Int) (wrap64 (x18_1 + 1)))) = some r := by rw [← hbq12] at H; exact H
      have Nbq12 := am_ hbq12
      clear hbq12
      by_cases c13 : bq12 = true
      ·subst c13
       rw [if_pos rfl] at H
       by_cases c14 : x18_1 < (t398.length : Int)
       ·rw [if_pos c14] at H
        replace c14 := decide_eq_true c14
        by_cases c15 : (rd t398 x18_1) ≥ 0
        ·rw [if_pos c15] at H
         have c15b0 : decide (0 ≤ (rd t398 x18_1)) = true := decide_eq_true c15
         clear c15
         by_cases c16 : x8_1 < 0
         ·rw [if_pos c16] at H
          replace c16 := decide_eq_true c16
          have H' := am_ H
          clear H
          have p404 : 0 ≤ (x18_1 : Int) := Sh.od
          have q404 : x18_1 < (t401.length : Int) := Sh.od
          obtain ⟨ad404, e404, hx404_0⟩ := Kd.at_bool (Kd.R_reads' HO_16.out).2.2 x18_1 p404 q404
          (try rw [← Nbq12.out] at hx404_0)
          cases e404
          replace p404 := eq_true p404
          replace q404 := eq_true q404
          obtain ⟨Ao17, co17, eo17⟩ := Kd.R_slice HO_7.out
          subst eo17
          have p405 : 0 ≤ (x18_1 : Int) := Sh.od
          have q405 : x18_1 < (t398.length : Int) := Sh.od
          obtain ⟨ad405, e405, hx405_0⟩ := Kd.at_int (Kd.R_reads' HO_7.out).2.2 x18_1 p405 q405
          cases e405
          replace p405 := eq_true p405
          replace q405 := eq_true q405
          go_wp2
          repeat (go_quiet (fail); try go_wp2)
          go_roundg k1
          case measure => have := HK1.out; omega
          case rel => exact ⟨(x18_1), (wrap64 (x18_1 + 1)), (Sh.es), (Sh.es), H', ⟨by have := HK1.out; omega⟩, ⟨Sh.rl HO_7.out⟩, ⟨Sh.rl HO_16.out⟩, ⟨Sh.bw⟩⟩
         ·rw [if_neg c16] at H
          replace c16 := decide_eq_false c16
          by_cases c18 : 0 ≤ x8_1
          ·rw [if_pos c18] at H
           replace c18 := decide_eq_true c18
           by_cases c19 : x8_1 < (t398.length : Int)
           ·rw [if_pos c19] at H
            replace c19 := decide_eq_true c19
            by_cases c20 : (rd t398 x18_1) < (rd t398 x8_1)
            ·rw [if_pos c20] at H
             replace c20 := decide_eq_true c20
             have H' := am_ H
             clear H
             have p404 : 0 ≤ (x18_1 : Int) := Sh.od
             have q404 : x18_1 < (t401.length : Int) := Sh.od
             obtain ⟨ad404, e404, hx404_0⟩ := Kd.at_bool (Kd.R_reads' HO_16.out).2.2 x18_1 p404 q404
             (try rw [← Nbq12.out] at hx404_0)
             cases e404
             replace p404 := eq_true p404
             replace q404 := eq_true q404
             obtain ⟨Ao21, co21, eo21⟩ := Kd.R_slice HO_7.out
             subst eo21
             have p405 : 0 ≤ (x18_1 : Int) := Sh.od
             have q405 : x18_1 < (t398.length : Int) := Sh.od
             obtain ⟨ad405, e405, hx405_0⟩ := Kd.at_int (Kd.R_reads' HO_7.out).2.2 x18_1 p405 q405
             cases e405
             replace p405 := eq_true p405
             replace q405 := eq_true q405
             have p406 : 0 ≤ (x18_1 : Int) := Sh.od
             have q406 : x18_1 < (t398.length : Int) := Sh.od
             obtain ⟨ad406, e406, hx406_0⟩ := Kd.at_int (Kd.R_reads' HO_7.out).2.2 x18_1 p406 q406
             obtain rfl : ad405 = ad406 := (by injection e406)
             replace p406 := eq_true p406
             replace q406 := eq_true q406
             have p407 : 0 ≤ (x8_1 : Int) := Sh.od
             have q407 : x8_1 < (t398.length : Int) := Sh.od
             obtain ⟨ad407, e407, hx407_0⟩ := Kd.at_int (Kd.R_reads' HO_7.out).2.2 x8_1 p407 q407
             obtain rfl : ad405 = ad407 := (by injection e407)
             replace p407 := eq_true p407
             replace q407 := eq_true q407
             go_wp2
             repeat (go_quiet (fail); try go_wp2)
             go_roundg k1
             case measure => have := HK1.out; omega
             case rel => exact ⟨(x18_1), (wrap64 (x18_1 + 1)), (Sh.es), (Sh.es), H', ⟨by have := HK1.out; omega⟩, ⟨Sh.rl HO_7.out⟩, ⟨Sh.rl HO_16.out⟩, ⟨Sh.bw⟩⟩
            ·rw [if_neg c20] at H
             replace c20 := decide_eq_false c20
             have H' := am_ H
             clear H
             have p404 : 0 ≤ (x18_1 : Int) := Sh.od
             have q404 : x18_1 < (t401.length : Int) := Sh.od
             obtain ⟨ad404, e404, hx404_0⟩ := Kd.at_bool (Kd.R_reads' HO_16.out).2.2 x18_1 p404 q404
             (try rw [← Nbq12.out] at hx404_0)
             cases e404
             replace p404 := eq_true p404
             replace q404 := eq_true q404
             obtain ⟨Ao22, co22, eo22⟩ := Kd.R_slice HO_7.out
             subst eo22
             have p405 : 0 ≤ (x18_1 : Int) := Sh.od
             have q405 : x18_1 < (t398.length : Int) := Sh.od
             obtain ⟨ad405, e405, hx405_0⟩ := Kd.at_int (Kd.R_reads' HO_7.out).2.2 x18_1 p405 q405
             cases e405
             replace p405 := eq_true p405
             replace q405 := eq_true q405
             have p406 : 0 ≤ (x18_1 : Int) := Sh.od
             have q406 : x18_1 < (t398.length : Int) := Sh.od
             obtain ⟨ad406, e406, hx406_0⟩ := Kd.at_int (Kd.R_reads' HO_7.out).2.2 x18_1 p406 q406
             obtain rfl : ad405 = ad406 := (by injection e406)
             replace p406 := eq_true p406
             replace q406 := eq_true q406
             have p407 : 0 ≤ (x8_1 : Int) := Sh.od
             have q407 : x8_1 < (t398.length : Int) := Sh.od
             obtain ⟨ad407, e407, hx407_0⟩ := Kd.at_int (Kd.R_reads' HO_7.out).2.2 x8_1 p407 q407
             obtain rfl : ad405 = ad407 := (by injection e407)
             replace p407 := eq_true p407
             replace q407 := eq_true q407
             go_wp2
             repeat (go_quiet (fail); try go_wp2)
             go_roundg k1
             case measure => have := HK1.out; omega
             case rel => exact ⟨(x8_1), (wrap64 (x18_1 + 1)), (Sh.es), (Sh.es), H', ⟨by have := HK1.out; omega⟩, ⟨Sh.rl HO_7.out⟩, ⟨Sh.rl HO_16.out⟩, ⟨Sh.bw⟩⟩
           ·rw [if_neg c19] at H
            cases H
          ·rw [if_neg c18] at H
           cases H
        ·rw [if_neg c15] at H
         have c15b0 : decide (0 ≤ (rd t398 x18_1)) = false := decide_eq_false c15
         clear c15
         have H' := am_ H
         clear H
         have p404 : 0 ≤ (x18_1 : Int) := Sh.od
         have q404 : x18_1 < (t401.length : Int) := Sh.od
         obtain ⟨ad404, e404, hx404_0⟩ := Kd.at_bool (Kd.R_reads' HO_16.out).2.2 x18_1 p404 q404
         (try rw [← Nbq12.out] at hx404_0)
         cases e404
         replace p404 := eq_true p404
         replace q404 := eq_true q404
         obtain ⟨Ao23, co23, eo23⟩ := Kd.R_slice HO_7.out
         subst eo23
         have p405 : 0 ≤ (x18_1 : Int) := Sh.od
         have q405 : x18_1 < (t398.length : Int) := Sh.od
         obtain ⟨ad405, e405, hx405_0⟩ := Kd.at_int (Kd.R_reads' HO_7.out).2.2 x18_1 p405 q405
         cases e405
         replace p405 := eq_true p405
         replace q405 := eq_true q405
         go_wp2
         repeat (go_quiet (fail); try go_wp2)
         go_roundg k1
         case measure => have := HK1.out; omega
         case rel => exact ⟨(x8_1), (wrap64 (x18_1 + 1)), (Sh.es), (Sh.es), H', ⟨by have := HK1.out; omega⟩, ⟨Sh.rl HO_7.out⟩, ⟨Sh.rl HO_16.out⟩, ⟨Sh.bw⟩⟩
       ·rw [if_neg c14] at H
        cases H
      ·replace c13 := Bool.eq_false_iff.mpr c13
       subst c13
       rw [Sh.nf] at H
       have H' := am_ H
       clear H
       have p404 : 0 ≤ (x18_1 : Int) := Sh.od
       have q404 : x18_1 < (t401.length : Int) := Sh.od
       obtain ⟨ad404, e404, hx404_0⟩ := Kd.at_bool (Kd.R_reads' HO_16.out).2.2 x18_1 p404 q404
       (try rw [← Nbq12.out] at hx404_0)
       cases e404
       replace p404 := eq_true p404
       replace q404 := eq_true q404
       go_wp2
       repeat (go_quiet (fail); try go_wp2)
       go_roundg k1
       case measure => have := HK1.out; omega
       case rel => exact ⟨(x8_1), (wrap64 (x18_1 + 1)), (Sh.es), (Sh.es), H', ⟨by have := HK1.out; omega⟩, ⟨Sh.rl HO_7.out⟩, ⟨Sh.rl HO_16.out⟩, ⟨Sh.bw⟩⟩
     ·rw [if_neg c11] at H
      cases H
    ·rw [if_neg c10] at H
     cases H
   ·rw [if_neg c9] at H
    replace c9 := decide_eq_false c9
    obtain rfl := Option.some.inj H
    go_wp2
    repeat (go_quiet (fail); try go_wp2)
    go_ret
    exact ⟨Sh.eR, Sh.bw⟩
theorem slices_IndexFunc_int_int_74.gen (g : Nat) (lb : Array Value) (eg : ∀ args w, (callFunc g args).run Try.prog w = .ok (.enter g args) w) (q : Int → Option Bool) (A0 : Option Addr) (c0 : Nat) (l0 : List (Int)) (r : Int) (w : World) (hr0 : Kd.C (Kd.int .i64) w A0 l0.length l0) (hc0 : l0.length ≤ c0)
  (hp : ∀ (W : World) (x : Int) (b : Bool), Below w.heap.size w W → x ∈ l0 → q x = some b → Calls Try.prog g (#[.int .i64 x] ++ lb) W fun e w' => e = .returned (.bool b) ∧ Below W.heap.size W w')
  (h : idxO q l0 0 = some r) : Calls Try.prog 74 #[.slice A0 l0.length c0, .func (.func g) #[] lb] w fun e w' => e = .returned (.int .i64 r) ∧ Below w.heap.size w w' := by
 have HR := am_ hr0
 have HP := am_ hp
 have HH := am_ h
 have hn : l0.length ≤ 9223372036854775807 := hr0.2.1
 clear hr0 hp h
 go_enter Try.func74, Try.ntmps74
 go_wp2
 go_loopg [5, 8] l0.length (fun gg _ s8 wr => ∃ kk : Nat, kk ≤ l0.length ∧ l0.length - kk ≤ gg ∧ s8 = .int .i64 kk ∧ Aside0 (idxO q (l0.drop kk) kk = some r) ∧ Aside0 (Below w.heap.size w wr))
 case atStart => exact ⟨0, Nat.zero_le _, by omega, rfl, HH, ⟨Below.refl _ _⟩⟩
 case round =>
  obtain ⟨kk, hkk, hg, rfl, HA, HB⟩ := hrel
  clear HH
  by_cases hlt : kk < l0.length
  ·have hltz : (kk : Int) < (l0.length : Int) := by omega
   have h0z : 0 ≤ (kk : Int) := by omega
   obtain ⟨ad, e, hx⟩ := Kd.at_int HR.out (kk : Int) h0z hltz
   have er : rd l0 (kk : Int) = l0.getD kk 0 := by simp [rd]
   rw [er] at hx
   have hA := HA.out
   rw [drop_getD hlt 0] at hA
   obtain ⟨b, hb, hA2⟩ := Option.bind_eq_some_iff.mp hA
   have HA2 := am_ hA2
   have hin := getD_in hlt (0 : Int)
   have hcall := HP.out wr _ b HB.out hin hb
   generalize l0.getD kk 0 = y at hx hcall
   clear HA hA hA2 hb er hin
   skip
   cases e
   simp only [Int.toNat_natCast] at hx
   replace hx := (HB.out.cell (World.block_lt_of_cell? w _ hx)).trans hx
   cases b with
   | true =>
    go_wp2_with (go_at_fn g; refine hcall.mono ?_; rintro e w' ⟨rfl, hb2⟩)
    go_ret
    have h3 := HA2.out
    simp only [if_true] at h3
    exact ⟨by rw [← Option.some.inj h3]; rfl, below_step HB.out hb2⟩
   | false =>
    go_wp2_with (go_at_fn g; refine hcall.mono ?_; rintro e w' ⟨rfl, hb2⟩)
    go_roundg (l0.length - (kk + 1))
    case measure => omega
    case rel =>
     refine ⟨kk + 1, by omega, by omega, by go_num, ⟨by have h3 := HA2.out; simpa using h3⟩, ⟨below_step HB.out hb2⟩⟩
  ·have hltz : ¬ (kk : Int) < (l0.length : Int) := by omega
   have hA := HA.out
   rw [List.drop_of_length_le (by omega)] at hA
   have h4 : (-1 : Int) = r := Option.some.inj hA
   subst h4
   clear HA hA
   have : kk = l0.length := by omega
   subst this
   go_wp2
   go_ret
   exact ⟨rfl, HB.out⟩
mutual
def impl_turned.l0 : Nat → List (List Int) → List (List Int) → Int → Int → Option ((List (List Int)))
 | 0, _, _, _, _ => none
 | k + 1, x3, x11, x12, x13 => if x13 < x12 then (if 0 ≤ x13 then (if x13 < (x11.length : Int) then (impl_turned.l1 k x3 x13 x11 x12 x13 (rd_L1 x11 x13) ((rd_L1 x11 x13).length : Int) 0) else (none)) else (none)) else (some x3)
def impl_turned.l1 : Nat → List (List Int) → Int → List (List Int) → Int → Int → List Int → Int → Int → Option ((List (List Int)))
 | 0, _, _, _, _, _, _, _, _ => none
 | k + 1, x3, x4, x11, x12, x13, x18, x19, x20 => if x20 < x19 then (if 0 ≤ x20 then (if x20 < (x18.length : Int) then (if 0 ≤ (rd x18 x20) then (if (rd x18 x20) < (x3.length : Int) then (if (rd_L1 x3 (rd x18 x20)).length < 17592186044416 then (impl_turned.l1 k (x3.set ((rd x18 x20) : Int).toNat ((rd_L1 x3 (rd x18 x20)) ++ [x4])) x4 x11 x12 x13 x18 x19 (wrap64 (x20 + 1))) else (none)) else (none)) else (none)) else (none)) else (none)) else (impl_turned.l0 k x3 x11 x12 (wrap64 (x13 + 1)))
end
def impl_turned.f (k : Nat) (l0 : List (List Int)) : Option ((List (List Int))) := if 0 ≤ (l0.length : Int) then (if ((l0.length : Int) : Int).toNat ≤ 11728124029610 then (impl_turned.l0 k (List.replicate ((l0.length : Int) : Int).toNat []) l0 (l0.length : Int) 0) else (none)) else (none)
theorem impl_turned.mono_l : ∀ k, (∀ y0 y1 y2 y3, LeO (impl_turned.l0 k y0 y1 y2 y3) (impl_turned.l0 (k + 1) y0 y1 y2 y3)) ∧ (∀ y0 y1 y2 y3 y4 y5 y6 y7, LeO (impl_turned.l1 k y0 y1 y2 y3 y4 y5 y6 y7) (impl_turned.l1 (k + 1) y0 y1 y2 y3 y4 y5 y6 y7))
 | 0 => ⟨fun _ _ _ _ r h => by simp [impl_turned.l0] at h, fun _ _ _ _ _ _ _ _ r h => by simp [impl_turned.l1] at h⟩
 | k + 1 => by
  obtain ⟨ih0, ih1⟩ := impl_turned.mono_l k
  and_intros <;> intros
  all_goals (first | unfold impl_turned.l0 | unfold impl_turned.l1)
  all_goals repeat' with_reducible first | apply ih0 | apply ih1 | exact LeO.refl _ | exact LeO.none _ | apply LeO.ite | refine LeO.bind ?_ fun _ => ?_
theorem impl_turned.mono : ∀ a0 k, LeO (impl_turned.f k a0) (impl_turned.f (k + 1) a0) := by
 intro a0 k
 obtain ⟨ih0, ih1⟩ := impl_turned.mono_l k
 unfold impl_turned.f
 repeat' with_reducible first | apply ih0 | apply ih1 | exact LeO.refl _ | exact LeO.none _ | apply LeO.ite | refine LeO.bind ?_ fun _ => ?_
theorem impl_turned.calls (k : Nat) (A0 : Option Addr) (c0 : Nat) (l0 : List (List Int)) (r : List (List Int)) (w : World) (hr0 : Kd.C (Kd.slice 3 (Kd.int .i64)) w A0 l0.length l0) (hc0 : l0.length ≤ c0) (h : impl_turned.f k l0 = some r) :
  Calls Try.prog 55 #[.slice A0 l0.length c0] w fun e w' => ∃ v0_ : Value, e = .returned (v0_) ∧ Kd.S (Kd.slice 3 (Kd.int .i64)) 26 w' w.heap.size (fun _ => True) v0_ r ∧ Below w.heap.size w w' := by
 have HR0 := am_ hr0
 have HC0 := am_ hc0
 clear hr0 hc0
 have HB := am_ (Below.refl w.heap.size w)
 have H := h
 clear h
 unfold impl_turned.f at H
 by_cases c2 : 0 ≤ (l0.length : Int)
 ·rw [if_pos c2] at H
  have c2b0 := eq_true c2
  have c2b1 := decide_eq_true c2
  clear c2
  by_cases c3 : ((l0.length : Int) : Int).toNat ≤ 11728124029610
  ·rw [if_pos c3] at H
   have c3b0 := eq_true c3
   have c3b1 := decide_eq_true c3
   clear c3
   obtain ⟨y408, hy408⟩ : ∃ y_ : List (List Int), y_ = (List.replicate ((l0.length : Int) : Int).toNat []) := ⟨_, rfl⟩
   replace H : (impl_turned.l0 k y408 l0 (l0.length : Int) 0) = some r := by first | (rw [hy408]; with_reducible exact H) | (have H2_ := (Option.bind_some _ _).symm.trans H; rw [hy408]; with_reducible exact H2_) | (have H2_ := (Option.bind_some _ _).symm.trans H; with_reducible exact H2_) | with_reducible exact H | (rw [hy408]; exact H) | exact H
   have Ny408 := am_ hy408
   clear hy408
   have H' := am_ H
   clear H
   go_enter Try.func55, Try.ntmps55
   go_wp2_with (first | ((with_reducible refine Sh.d 10 ?_); refine Kd.S_make (Kd.slice 3 (Kd.int .i64)) _ 26 rfl (N := 10) rfl 22 _ _ rfl (l0.length : Int) rfl rfl Try.underlying22 (.slice none 0 0) 24 info26 rfl (by decide) (by omega) [] (ok := fun _ => True) (okp := fun _ => True) ⟨_, rfl, Kd.R_nil _ _ _ _ _⟩ (fun _ hk => hk) trivial (of_decide_eq_true (by first | (with_reducible assumption) | assumption)) (Nat.le_trans (Nat.mul_le_mul_right _ (of_decide_eq_true (by first | (with_reducible assumption) | assumption) : (l0.length : Int).toNat ≤ 11728124029610)) (by omega)) (Below.refl _ _) (Nat.le_refl _) ?_; intro v409 w4 ho5 hb hg_ hnew_; clear hg_ hnew_; (first | rw [← Ny408.out] at ho5 | (simp only [Int.reduceToNat] at ho5; rw [← Ny408.out] at ho5)); have HO410 := am_ (Kd.S_lower ho5 (below_size Sh.bw)); replace HB := Sh.hb hb; clear hb ho5))
   go_loopg [13] k (fun kq v13 w' => ∃ (x3_1 : List (List Int)) (x13_1 : Int), v13 = .int .i64 x13_1 ∧ Aside0 (impl_turned.l0 kq x3_1 l0 (l0.length : Int) x13_1 = some r) ∧ Aside0 (kq ≤ k) ∧ Aside0 (Kd.S (Kd.slice 3 (Kd.int .i64)) 26 w' w.heap.size (fun _ => True) v409 x3_1) ∧ Aside0 (Below w.heap.size w w'))
   case atStart => exact ⟨(y408), (0), (Sh.es), H', ⟨Nat.le_refl _⟩, ⟨by (with_reducible repeat (first | apply Kd.S_alloc | apply Kd.S_drewN | apply Kd.S_drew)); exact HO410.out⟩, ⟨Sh.bw⟩⟩
   case round =>
    clear H'
    obtain ⟨x3_1, x13_1, rfl, HA, HK1, HO_3, HB⟩ := hrel
    cases gk with
    | zero => exact absurd HA.out (by simp [impl_turned.l0])
    | succ k1 =>
     have H := HA.out
     clear HA
     simp only [impl_turned.l0] at H
     by_cases c6 : x13_1 < (l0.length : Int)
     ·rw [if_pos c6] at H
      replace c6 := decide_eq_true c6
      by_cases c7 : 0 ≤ x13_1
      ·rw [if_pos c7] at H
       replace c7 := decide_eq_true c7
       by_cases c8 : x13_1 < (l0.length : Int)
       ·rw [if_pos c8] at H
        replace c8 := decide_eq_true c8
        have H' := am_ H
        clear H
        have p411 : 0 ≤ (x13_1 : Int) := Sh.od
        have q411 : x13_1 < (l0.length : Int) := Sh.od
        obtain ⟨ad411, A411_0, c411_0, e411, hx411_0, hl411_0, hi411_0⟩ := at_L1 HR0.out x13_1 p411 q411
        cases e411
        try replace hx411_0 := Sh.cw hx411_0
        have HR411_0 := am_ hi411_0
        have HC411_0 := am_ hl411_0
        clear hi411_0 hl411_0
        replace p411 := eq_true p411
        replace q411 := eq_true q411
        go_wp2
        go_loopg [20] k1 (fun kq v20 w' => ∃ (x3_2 : List (List Int)) (x20_2 : Int), v20 = .int .i64 x20_2 ∧ Aside0 (impl_turned.l1 kq x3_2 x13_1 l0 (l0.length : Int) x13_1 (rd_L1 l0 x13_1) ((rd_L1 l0 x13_1).length : Int) x20_2 = some r) ∧ Aside0 (kq ≤ k1) ∧ Aside0 (Kd.S (Kd.slice 3 (Kd.int .i64)) 26 w' w.heap.size (fun _ => True) v409 x3_2) ∧ Aside0 (Below w.heap.size w w'))
        case atStart => exact ⟨(x3_1), (0), (Sh.es), H', ⟨Nat.le_refl _⟩, ⟨by (with_reducible repeat (first | apply Kd.S_alloc | apply Kd.S_drewN | apply Kd.S_drew)); exact HO_3.out⟩, ⟨Sh.bw⟩⟩
        case round =>
         clear H'
         try clear hx4
         try clear hx411_0
         obtain ⟨x3_2, x20_2, rfl, HA, HK2, HO_3, HB⟩ := hrel
         cases gk with
         | zero => exact absurd HA.out (by simp [impl_turned.l1])
         | succ k2 =>
          have H := HA.out
          clear HA
          simp only [impl_turned.l1] at H
          by_cases c9 : x20_2 < ((rd_L1 l0 x13_1).length : Int)
          ·rw [if_pos c9] at H
           replace c9 := decide_eq_true c9
           by_cases c10 : 0 ≤ x20_2
           ·rw [if_pos c10] at H
            replace c10 := decide_eq_true c10
            by_cases c11 : x20_2 < ((rd_L1 l0 x13_1).length : Int)
            ·rw [if_pos c11] at H
             replace c11 := decide_eq_true c11
             by_cases c12 : 0 ≤ (rd (rd_L1 l0 x13_1) x20_2)
             ·rw [if_pos c12] at H
              replace c12 := decide_eq_true c12
              by_cases c13 : (rd (rd_L1 l0 x13_1) x20_2) < (x3_2.length : Int)
              ·rw [if_pos c13] at H
               replace c13 := decide_eq_true c13
               by_cases c14 : (rd_L1 x3_2 (rd (rd_L1 l0 x13_1) x20_2)).length < 17592186044416
               ·rw [if_pos c14] at H
                have LMc14 := am_ c14
                clear c14
                obtain ⟨y414, hy414⟩ : ∃ y_ : List Int, y_ = ((rd_L1 x3_2 (rd (rd_L1 l0 x13_1) x20_2)) ++ [x13_1]) := ⟨_, rfl⟩
                replace H : (impl_turned.l1 k2 (x3_2.set ((rd (rd_L1 l0 x13_1) x20_2) : Int).toNat y414) x13_1 l0 (l0.length : Int) x13_1 (rd_L1 l0 x13_1) ((rd_L1 l0 x13_1).length : Int) (wrap64 (x20_2 + 1))) = some r := by first | (rw [hy414]; with_reducible exact H) | (have H2_ := (Option.bind_some _ _).symm.trans H; rw [hy414]; with_reducible exact H2_) | (have H2_ := (Option.bind_some _ _).symm.trans H; with_reducible exact H2_) | with_reducible exact H | (rw [hy414]; exact H) | exact H
                have Ny414 := am_ hy414
                clear hy414
                obtain ⟨y417, hy417⟩ : ∃ y_ : List (List Int), y_ = (x3_2.set ((rd (rd_L1 l0 x13_1) x20_2) : Int).toNat y414) := ⟨_, rfl⟩
                replace H : (impl_turned.l1 k2 y417 x13_1 l0 (l0.length : Int) x13_1 (rd_L1 l0 x13_1) ((rd_L1 l0 x13_1).length : Int) (wrap64 (x20_2 + 1))) = some r := by first | (rw [hy417]; with_reducible exact H) | (have H2_ := (Option.bind_some _ _).symm.trans H; rw [hy417]; with_reducible exact H2_) | (have H2_ := (Option.bind_some _ _).symm.trans H; with_reducible exact H2_) | with_reducible exact H | (rw [hy417]; exact H) | exact H
                have Ny417 := am_ hy417
                clear hy417
                have H' := am_ H
                clear H
                have p412 : 0 ≤ (x20_2 : Int) := Sh.od
                have q412 : x20_2 < ((rd_L1 l0 x13_1).length : Int) := Sh.od
                obtain ⟨ad412, e412, hx412_0⟩ := Kd.at_int HR411_0.out x20_2 p412 q412
                cases e412
                try replace hx412_0 := Sh.cw hx412_0
                replace p412 := eq_true p412
                replace q412 := eq_true q412
                obtain ⟨Ao16, co16, eo16⟩ := Kd.S_slice HO_3.out
                subst eo16
                have p413 : 0 ≤ ((rd (rd_L1 l0 x13_1) x20_2) : Int) := Sh.od
                have q413 : (rd (rd_L1 l0 x13_1) x20_2) < (x3_2.length : Int) := Sh.od
                obtain ⟨ad413, A413_0, c413_0, e413, hx413_0, hl413_0, hi413_0⟩ := at_L1 (Kd.S_reads' HO_3.out).2.2 (rd (rd_L1 l0 x13_1) x20_2) p413 q413
                cases e413
                obtain ⟨ce413, hce413, hMe413, hcc413⟩ := Kd.S_get HO_3.out [] (rd (rd_L1 l0 x13_1) x20_2) p413 (by first | exact q413 | exact of_decide_eq_true (by first | (with_reducible assumption) | assumption) | (have e_ := (Kd.S_reads' HO_3.out).1; omega))
                obtain ⟨ve413_0, rfl, ge413_0⟩ := hMe413
                have hv413_0 := hcc413 0 _ rfl
                rw [Nat.add_zero, show ((Kd.slice 3 (Kd.int .i64))).sz = 1 from rfl, Nat.mul_one] at hv413_0
                replace hv413_0 := Option.some.inj (hv413_0.symm.trans hx413_0)
                rw [hv413_0] at ge413_0
                have HL413_0 := am_ (show Kd.R (Kd.int .i64) 3 _ _ _ _ (rd_L1 x3_2 (rd (rd_L1 l0 x13_1) x20_2)) from ge413_0)
                clear hv413_0 ge413_0
                have HX413_0 := am_ hx413_0
                clear hcc413 hce413
                have HR413_0 := am_ hi413_0
                have HC413_0 := am_ hl413_0
                clear hi413_0 hl413_0
                replace p413 := eq_true p413
                replace q413 := eq_true q413
                obtain ⟨go17, co17, eo17, gb17, gl17, cl17, HG17⟩ := Kd.S_form HO_3.out (by have h_ : ((rd (rd_L1 l0 x13_1) x20_2) : Int) < ((x3_2.length : Int) : Int) := Sh.od; have h2_ : 0 ≤ ((rd (rd_L1 l0 x13_1) x20_2) : Int) := (of_decide_eq_true (by first | (with_reducible assumption) | assumption)); omega)
                (first | cases eo17 | (injection eo17 with ea_ en_ ec_; (first | subst ea_ | (injection ea_ with ea_; subst ea_)); subst ec_; clear en_))
                have GB17 := am_ gb17
                have GG17 := am_ HG17
                clear gb17 gl17 HG17
                (first | simp only [add_plain] at hx413_0 | skip)
                obtain ⟨oki17, ce17, hcl17, hM17, hcc17, _, _, hH17⟩ := Kd.S_elem HO_3.out [] ((rd (rd_L1 l0 x13_1) x20_2) : Int) (of_decide_eq_true (by first | (with_reducible assumption) | assumption)) (by have h_ : ((rd (rd_L1 l0 x13_1) x20_2) : Int) < ((x3_2.length : Int) : Int) := Sh.od; first | exact h_ | (have e_ := (Kd.S_reads' HO_3.out).1; omega) | simpa using h_)
                obtain ⟨ve17_0, rfl, ge17_0⟩ := hM17
                have hv17 := hcc17 0 _ rfl
                have hX17 := HX413_0.out
                (try simp only [add_plain] at hX17)
                (try simp only [Nat.add_zero] at hv17)
                (try rw [show ((Kd.slice 3 (Kd.int .i64))).sz = 1 from rfl, Nat.mul_one] at hv17)
                replace hv17 := Option.some.inj (hv17.symm.trans hX17)
                subst hv17
                clear hX17 hcc17 hcl17
                have UU17 := am_ (show Kd.R (Kd.int .i64) 3 _ w.heap.size oki17 (.slice A413_0 (rd_L1 x3_2 (rd (rd_L1 l0 x13_1) x20_2)).length c413_0) (rd_L1 x3_2 (rd (rd_L1 l0 x13_1) x20_2)) from ge17_0)
                have HH17 := am_ hH17
                have HN17 := am_ (Kd.S_reads' HO_3.out).1
                clear hH17 ge17_0
                go_wp2_with (first | ((with_reducible refine gate_builtin (b := .append) (xs := #[.tmp 29, .tmp 31]) rfl ?_); at_builtin; refine Kd.R_append (Kd.int .i64) (w0 := w) w.heap.size rfl (.tmp 29) (.tmp 31) 26 3 (.int .i64 0) 8 rfl Try.underlying26 info3 rfl (by decide) (by omega) (.slice A413_0 (rd_L1 x3_2 (rd (rd_L1 l0 x13_1) x20_2)).length c413_0) (rd_L1 x3_2 (rd (rd_L1 l0 x13_1) x20_2)) x13_1 [.int .i64 x13_1] (fun k_ => oki17 k_ ∨ ((fun _ => True)) k_ ∧ wr.heap.size ≤ k_) (fun _ => False) rfl rfl ?aP (fun _ hk => hk.elim) ?aF ?aO ?aB ?aS ?aL ?_; (case aP => exact rfl); (case aB => exact Sh.bw); (case aF => exact (fun k_ hk => .inr ⟨trivial, hk⟩)); (case aO => exact (Sh.rl (Kd.R_mono UU17.out (fun _ hk => .inl hk)))); (case aS => exact (below_size Sh.bw)); (case aL => have := LMc14.out; omega); intro v415 w18 ho hb hg hat; rw [← Ny414.out] at ho; have n0_ := am_ hb; have n1_ := am_ (Kd.H_grown (Kd.H_widen (by repeat (first | exact HH17.out | refine Kd.H_alloc ?_ _ | refine Kd.H_drewN ?_ _ | refine Kd.H_drew ?_))) hg (fun k_ e_ => .inl (UU17.out.1 k_ e_))); have n2_ := am_ ho; clear HB; clear HH17; clear HO_3; clear UU17; clear HL413_0; have HB := n0_; have HH17 := n1_; have HO416 := n2_; clear n0_ n1_ n2_; clear ho hb hg hat; have p15 : 0 ≤ ((rd (rd_L1 l0 x13_1) x20_2) : Int) := Sh.od; have q15 : ((rd (rd_L1 l0 x13_1) x20_2) : Int) < ((x3_2.length : Int) : Int) := Sh.od; replace p15 := eq_true p15; replace q15 := eq_true q15; obtain ⟨Ao21, co21, eo21⟩ := Kd.R_slice HO416.out; subst eo21; obtain ⟨_, _, hraw19, _, _, hcc19, _⟩ := Kd.H_raw HH17.out (of_decide_eq_true (by first | (with_reducible assumption) | assumption)) (by have h_ : ((rd (rd_L1 l0 x13_1) x20_2) : Int) < ((x3_2.length : Int) : Int) := Sh.od; first | exact h_ | (have e_ := (HN17.out); omega) | simpa using h_); obtain ⟨_, hfr19⟩ := Kd.H_at HH17.out (of_decide_eq_true (by first | (with_reducible assumption) | assumption)) (by have h_ : ((rd (rd_L1 l0 x13_1) x20_2) : Int) < ((x3_2.length : Int) : Int) := Sh.od; first | exact h_ | (have e_ := (HN17.out); omega) | simpa using h_); have hx19_0 := hcc19 0 _ rfl; have hf19_0 := hfr19 0; (try simp only [Nat.add_zero] at hx19_0 hf19_0); (try rw [show ((Kd.slice 3 (Kd.int .i64))).sz = 1 from rfl, Nat.mul_one] at hx19_0); (try rw [show ((Kd.slice 3 (Kd.int .i64))).sz = 1 from rfl, Nat.mul_one] at hf19_0); have HP19 := Kd.S_seg0 HH17.out (of_decide_eq_true (by first | (with_reducible assumption) | assumption)) (by have h_ : ((rd (rd_L1 l0 x13_1) x20_2) : Int) < ((x3_2.length : Int) : Int) := Sh.od; first | exact h_ | (have e_ := (HN17.out); omega) | simpa using h_) (seg := [.slice Ao21 y414.length co21]) (j := 0) (show 1 ≤ 1 from by decide) (x' := y414) (Kd.M_row HO416.out) (fun _ hk => hk); (try simp only [show ((Kd.slice 3 (Kd.int .i64))).sz = 1 from rfl, Nat.mul_one, Nat.add_zero] at HP19); clear hcc19 hfr19) | ((with_reducible refine gate_store (t := 26) (p := 33) rfl ?_); refine store_event (t := 26) (p := 33) (v := ?vo_w20) (w1 := (w18.setCell ⟨go17, ((rd (rd_L1 l0 x13_1) x20_2) : Int).toNat, none⟩ (.slice Ao21 y414.length co21))) ?hg ?ho ?hn ?hr ?_; (case ho => rfl); (case hg => rfl); (case hn => rfl); (case hr => first | (go_simp; done) | (go_simp; rfl)); intro w20 hw; have hg : w18.grownBy w20 (some go17) := (by rw [hw]; exact HP19.2); have hp_ : Kd.S (Kd.slice 3 (Kd.int .i64)) 26 w20 w.heap.size (fun _ => True) (.slice (some ⟨go17, 0, none⟩) x3_2.length co16) y417 := (by rw [hw, Ny417.out]; exact HP19.1); clear HP19; have n0_ := am_ ((by rw [hw]; exact below_set HB.out GB17.out : Below w.heap.size w w20)); have n1_ := am_ hp_; clear HB; clear HO416; clear HH17; have HB := n0_; have HO_3 := n1_; clear n0_ n1_; clear hg hw hp_ hraw19))
                go_roundg k2
                case measure => have := HK1.out; have := HK2.out; omega
                case rel => exact ⟨(y417), (wrap64 (x20_2 + 1)), (Sh.es), H', ⟨by have := HK1.out; have := HK2.out; omega⟩, ⟨by (with_reducible repeat (first | apply Kd.S_alloc | apply Kd.S_drewN | apply Kd.S_drew)); exact HO_3.out⟩, ⟨Sh.bw⟩⟩
               ·rw [if_neg c14] at H
                cases H
              ·rw [if_neg c13] at H
               cases H
             ·rw [if_neg c12] at H
              cases H
            ·rw [if_neg c11] at H
             cases H
           ·rw [if_neg c10] at H
            cases H
          ·rw [if_neg c9] at H
           replace c9 := decide_eq_false c9
           have H' := am_ H
           clear H
           go_wp2
           go_roundg k2
           case measure => have := HK1.out; have := HK2.out; omega
           case rel => exact ⟨(x3_2), (wrap64 (x13_1 + 1)), (Sh.es), H', ⟨by have := HK1.out; have := HK2.out; omega⟩, ⟨by (with_reducible repeat (first | apply Kd.S_alloc | apply Kd.S_drewN | apply Kd.S_drew)); exact HO_3.out⟩, ⟨Sh.bw⟩⟩
       ·rw [if_neg c8] at H
        cases H
      ·rw [if_neg c7] at H
       cases H
     ·rw [if_neg c6] at H
      replace c6 := decide_eq_false c6
      obtain rfl := Option.some.inj H
      go_wp2
      go_ret
      exact ⟨_, Sh.eR, by (with_reducible repeat (first | apply Kd.S_alloc | apply Kd.S_drewN | apply Kd.S_drew)); exact HO_3.out, Sh.bw⟩
  ·rw [if_neg c3] at H
   cases H
 ·rw [if_neg c2] at H
  cases H
def impl_leastWay_1.f (a0 : Int) (l1_0 : List Int) (a2_0 : Int) : Option (Bool) := if 0 ≤ a0 then (if a0 < (l1_0.length : Int) then (if 0 ≤ a2_0 then (if a2_0 < (l1_0.length : Int) then (some ((rd l1_0 a0) == (wrap64 ((rd l1_0 a2_0) - 1)))) else (none)) else (none)) else (none)) else (none)
theorem impl_leastWay_1.calls (a0 : Int) (bp1 : Nat) (A1_0 : Option Addr) (c1_0 : Nat) (l1_0 : List Int) (bp2 : Nat) (a2_0 : Int) (r : Bool) (w : World) (hr1_0 : Kd.C (Kd.int .i64) w A1_0 l1_0.length l1_0) (hc1_0 : l1_0.length ≤ c1_0) (hb1 : w.heap[bp1]? = some (.cells #[.slice A1_0 l1_0.length c1_0] 26 (0, 0))) (hb2 : w.heap[bp2]? = some (.cells #[.int .i64 a2_0] 3 (0, 0))) (hd1_2 : bp1 ≠ bp2) (h : impl_leastWay_1.f a0 l1_0 a2_0 = some r) :
  Calls Try.prog 75 #[.int .i64 a0, .pointer (some ⟨bp1, 0, none⟩), .pointer (some ⟨bp2, 0, none⟩)] w fun e w' => e = .returned (.bool r) ∧ Drawn0 w w' := by
 have HR1_0 := am_ hr1_0
 have HC1_0 := am_ hc1_0
 clear hr1_0 hc1_0
 have HX1 := am_ hb1
 clear hb1
 have HX2 := am_ hb2
 clear hb2
 have NB1_2 := am_ hd1_2
 have NB2_1 := am_ hd1_2.symm
 clear hd1_2
 have H := h
 clear h
 unfold impl_leastWay_1.f at H
 by_cases c4 : 0 ≤ a0
 ·rw [if_pos c4] at H
  replace c4 := decide_eq_true c4
  by_cases c5 : a0 < (l1_0.length : Int)
  ·rw [if_pos c5] at H
   replace c5 := decide_eq_true c5
   by_cases c6 : 0 ≤ a2_0
   ·rw [if_pos c6] at H
    replace c6 := decide_eq_true c6
    by_cases c7 : a2_0 < (l1_0.length : Int)
    ·rw [if_pos c7] at H
     replace c7 := decide_eq_true c7
     obtain rfl := Option.some.inj H
     have hnb8 := NB1_2.out
     have hnc8 := NB2_1.out
     have hcz9_0 : w.cell? ⟨bp1, 0, none⟩ = some (.slice A1_0 l1_0.length c1_0) := (blk_cell HX1.out 0).trans rfl
     have hfz9_0 := blk_frozen HX1.out 0
     have p418 : 0 ≤ (a0 : Int) := Sh.od
     have q418 : a0 < (l1_0.length : Int) := Sh.od
     obtain ⟨ad418, e418, hx418_0⟩ := Kd.at_int HR1_0.out a0 p418 q418
     cases e418
     replace p418 := eq_true p418
     replace q418 := eq_true q418
     have hcz10_0 : w.cell? ⟨bp2, 0, none⟩ = some (.int .i64 a2_0) := (blk_cell HX2.out 0).trans rfl
     have hfz10_0 := blk_frozen HX2.out 0
     have p419 : 0 ≤ (a2_0 : Int) := Sh.od
     have q419 : a2_0 < (l1_0.length : Int) := Sh.od
     obtain ⟨ad419, e419, hx419_0⟩ := Kd.at_int HR1_0.out a2_0 p419 q419
     obtain rfl : ad418 = ad419 := (by injection e419)
     replace p419 := eq_true p419
     replace q419 := eq_true q419
     go_enter Try.func75, Try.ntmps75
     go_wp2
     repeat (go_quiet (fail); try go_wp2)
     go_ret
     exact ⟨Sh.es, Sh.dr⟩
    ·rw [if_neg c7] at H
     cases H
   ·rw [if_neg c6] at H
    cases H
  ·rw [if_neg c5] at H
   cases H
 ·rw [if_neg c4] at H
  cases H
def slices_IndexFunc_int_int_74_by_impl_leastWay_1.f (l0 : List Int) (l1_0 : List Int) (a2_0 : Int) : Option (Int) := idxO (fun x_ => impl_leastWay_1.f x_ l1_0 a2_0) l0 0
theorem slices_IndexFunc_int_int_74_by_impl_leastWay_1.calls (A0 : Option Addr) (c0 : Nat) (l0 : List Int) (bp1 : Nat) (A1_0 : Option Addr) (c1_0 : Nat) (l1_0 : List Int) (bp2 : Nat) (a2_0 : Int) (r : Int) (w : World) (hr0 : Kd.C (Kd.int .i64) w A0 l0.length l0) (hc0 : l0.length ≤ c0) (hr1_0 : Kd.C (Kd.int .i64) w A1_0 l1_0.length l1_0) (hc1_0 : l1_0.length ≤ c1_0) (hb1 : w.heap[bp1]? = some (.cells #[.slice A1_0 l1_0.length c1_0] 26 (0, 0))) (hb2 : w.heap[bp2]? = some (.cells #[.int .i64 a2_0] 3 (0, 0))) (hd1_2 : bp1 ≠ bp2) (h : slices_IndexFunc_int_int_74_by_impl_leastWay_1.f l0 l1_0 a2_0 = some r) :
  Calls Try.prog 74 #[.slice A0 l0.length c0, .func (.func 75) #[] #[.pointer (some ⟨bp1, 0, none⟩), .pointer (some ⟨bp2, 0, none⟩)]] w fun e w' => e = .returned (.int .i64 r) ∧ Below w.heap.size w w' := by
 refine slices_IndexFunc_int_int_74.gen 75 #[.pointer (some ⟨bp1, 0, none⟩), .pointer (some ⟨bp2, 0, none⟩)] (enters_of Try.func75 (by kernel_rfl) rfl) _ A0 c0 l0 r w hr0 hc0 ?_ h
 intro W x b hB_ hin_ hq_
 refine (impl_leastWay_1.calls x bp1 _ _ l1_0 bp2 a2_0 b W (Kd.C_below hr1_0 hB_) hc1_0 ((hB_.block _ (blk_lt hb1)).trans hb1) ((hB_.block _ (blk_lt hb2)).trans hb2) hd1_2 hq_).mono ?_
 rintro e w' ⟨rfl, hd_⟩
 exact ⟨rfl, hd_.below⟩
end Go.Proofs.Ytnfpolhpanpeiaa.P
