/- Go functions of this seat as Lean functions, and the proofs that the calls come to what these say; printed by a program of this session. No condition. -/
import Derived.Test.YtnfpolhpanpeiaaP0
import Derived.Test.YtnfpolhpanpeiaaMFnExactFairLasso10
set_option linter.unusedVariables false
set_option linter.unusedSimpArgs false
set_option maxHeartbeats 40000000
set_option maxRecDepth 100000
namespace Go.Proofs.Ytnfpolhpanpeiaa.P
open Go.RowKit Go.Proofs.YtnfpolhpanpeiaaW.PrintWords Go.Proofs.YtnfpolhpanpeiaaW.PrintLast Go.Proofs.YtnfpolhpanpeiaaW.PrintMore Go.Proofs.Ytnfpolhpanpeiaa.Hof
attribute [local go_sem] max2_int min2_int max_two min_two max_three min_three max_four min_four
mutual
def impl_leastWay.l0 : Nat → List (List Int) → Int → List Int → Int → Int → List Int → Option (List Int)
 | 0, _, _, _, _, _, _ => none
 | k + 1, x0, x8, x18, x19, x20, x427000 => if x20 < x19 then (if 0 ≤ x20 then (if x20 < (x18.length : Int) then (if 0 ≤ (rd x18 x20) then (if (rd x18 x20) < (x427000.length : Int) then (if (rd x427000 (rd x18 x20)) ≥ 0 then (if x8 < 0 then (impl_leastWay.l0 k x0 (rd x18 x20) x18 x19 (wrap64 (x20 + 1)) x427000) else (if 0 ≤ x8 then (if x8 < (x427000.length : Int) then (if (rd x427000 (rd x18 x20)) < (rd x427000 x8) then (impl_leastWay.l0 k x0 (rd x18 x20) x18 x19 (wrap64 (x20 + 1)) x427000) else (impl_leastWay.l0 k x0 x8 x18 x19 (wrap64 (x20 + 1)) x427000)) else (none)) else (none))) else (impl_leastWay.l0 k x0 x8 x18 x19 (wrap64 (x20 + 1)) x427000)) else (none)) else (none)) else (none)) else (none)) else (if x8 < 0 then (some ([] : List Int)) else (impl_leastWay.l1 k x0 (([x8] : List Int)) x427000 x8))
def impl_leastWay.l1 : Nat → List (List Int) → List Int → List Int → Int → Option (List Int)
 | 0, _, _, _, _ => none
 | k + 1, x0, x11, x427000, x435000 => if 0 ≤ x435000 then (if x435000 < (x427000.length : Int) then (if (rd x427000 x435000) > 0 then (if x435000 < (x0.length : Int) then ((slices_IndexFunc_int_int_74_by_impl_leastWay_1.f (rd_L1 x0 x435000) x427000 x435000).bind fun t437 => (if 0 ≤ t437 then (if t437 < ((rd_L1 x0 x435000).length : Int) then (if x11.length < 17592186044416 then (impl_leastWay.l1 k x0 (x11 ++ [rd (rd_L1 x0 x435000) t437]) x427000 (rd (rd_L1 x0 x435000) t437)) else (none)) else (none)) else (none))) else (none)) else (some x11)) else (none)) else (none)
end
def impl_leastWay.f (k : Nat) (l0 : List (List Int)) (l1 : List Int) (l2 : List Int) : Option (List Int) := (impl_turned.f k l0).bind fun t420 => ((impl_stepsFrom.f k t420 l2).bind fun t423 => (impl_leastWay.l0 k l0 (-1) l1 (l1.length : Int) 0 t423))
theorem impl_leastWay.mono_l : ∀ k, (∀ y0 y1 y2 y3 y4 y5, LeO (impl_leastWay.l0 k y0 y1 y2 y3 y4 y5) (impl_leastWay.l0 (k + 1) y0 y1 y2 y3 y4 y5)) ∧ (∀ y0 y1 y2 y3, LeO (impl_leastWay.l1 k y0 y1 y2 y3) (impl_leastWay.l1 (k + 1) y0 y1 y2 y3))
 | 0 => ⟨fun _ _ _ _ _ _ r h => by simp [impl_leastWay.l0] at h, fun _ _ _ _ r h => by simp [impl_leastWay.l1] at h⟩
 | k + 1 => by
  obtain ⟨ih0, ih1⟩ := impl_leastWay.mono_l k
  and_intros <;> intros
  all_goals (first | unfold impl_leastWay.l0 | unfold impl_leastWay.l1)
  all_goals repeat' with_reducible first | apply ih0 | apply ih1 | apply impl_stepsFrom.mono | apply impl_turned.mono | exact LeO.refl _ | exact LeO.none _ | apply LeO.ite | refine LeO.bind ?_ fun _ => ?_
theorem impl_leastWay.mono : ∀ a0 a1 a2 k, LeO (impl_leastWay.f k a0 a1 a2) (impl_leastWay.f (k + 1) a0 a1 a2) := by
 intro a0 a1 a2 k
 obtain ⟨ih0, ih1⟩ := impl_leastWay.mono_l k
 unfold impl_leastWay.f
 repeat' with_reducible first | apply ih0 | apply ih1 | apply impl_stepsFrom.mono | apply impl_turned.mono | exact LeO.refl _ | exact LeO.none _ | apply LeO.ite | refine LeO.bind ?_ fun _ => ?_
theorem impl_leastWay.calls2 (k : Nat) (A0 : Option Addr) (c0 : Nat) (l0 : List (List Int)) (A1 : Option Addr) (c1 : Nat) (l1 : List Int) (A2 : Option Addr) (c2 : Nat) (l2 : List Int) (r : List Int) (w : World) (hr0 : Kd.C (Kd.slice 3 (Kd.int .i64)) w A0 l0.length l0) (hc0 : l0.length ≤ c0) (hr1 : Kd.C (Kd.int .i64) w A1 l1.length l1) (hc1 : l1.length ≤ c1) (hr2 : Kd.C (Kd.int .i64) w A2 l2.length l2) (hc2 : l2.length ≤ c2) (h : impl_leastWay.f k l0 l1 l2 = some r) :
  Calls Try.prog 61 #[.slice A0 l0.length c0, .slice A1 l1.length c1, .slice A2 l2.length c2] w fun e w' => ∃ v0_ : Value, e = .returned (v0_) ∧ (r = [] → v0_ = .slice none 0 0) ∧ Kd.R (Kd.int .i64) 3 w' w.heap.size (fun _ => True) v0_ r ∧ Below w.heap.size w w' := by
 have HR0 := am_ hr0
 have HC0 := am_ hc0
 clear hr0 hc0
 have HR1 := am_ hr1
 have HC1 := am_ hc1
 clear hr1 hc1
 have HR2 := am_ hr2
 have HC2 := am_ hc2
 clear hr2 hc2
 have HB := am_ (Below.refl w.heap.size w)
 have H := h
 clear h
 unfold impl_leastWay.f at H
 obtain ⟨t420, A4, H⟩ := Sh.ba H
 obtain ⟨t423, A5, H⟩ := Sh.ba H
 have H' := am_ H
 clear H
 go_enter Try.func61, Try.ntmps61
 go_wp2_with (first | (go_at_call 55; (with_reducible refine (impl_turned.calls k _ _ l0 t420 _ ?side1 ?side2 A4.out).mono ?_); (case side1 => repeat (first | exact HR0.out | (with_reducible first | refine Kd.C_alloc ?_ _ | refine Kd.C_drewN ?_ _ | refine Kd.C_drew ?_))); (case side2 => exact HC0.out); rintro e w6 ⟨v421, rfl, ho0, hb⟩; have HO422 := am_ (Kd.S_lower ho0 (below_size Sh.bw)); replace HB := Sh.hb hb; (try clear hb); (try clear ho0); obtain ⟨Ao7, co7, eo7⟩ := Kd.S_slice HO422.out; subst eo7) | (go_at_call 72; (with_reducible refine (impl_stepsFrom.calls k _ _ t420 _ _ l2 t423 _ (Sh.cR (Kd.S_reads' HO422.out).2.2) (Kd.S_reads' HO422.out).2.1 (Sh.cB HR2.out) HC2.out A5.out).mono ?_); rintro e w8 ⟨v424, rfl, ho0, hb⟩; replace HO422 := am_ (Kd.S_elder' (by (with_reducible repeat (first | apply Kd.S_alloc | apply Kd.S_drewN | apply Kd.S_drew)); exact HO422.out) (Kd.R_base ho0) hb); have HO425 := am_ (Kd.R_lower ho0 (below_size Sh.bw)); replace HB := Sh.hb hb; (try clear hb); (try clear ho0)) | ((with_reducible refine Sh.d 7 ?_); refine Sh.bx (N := 7) (cs := #[.slice none 0 0]) (t := 26) (h := ?_); intro gb426 hg w9 hbox hb; replace HO422 := am_ (Kd.S_below (Kd.S_elderB (by (with_reducible repeat (first | apply Kd.S_alloc | apply Kd.S_drewN | apply Kd.S_drew)); exact HO422.out) gb426 (Nat.le_of_eq hg.symm)) hb); replace HO425 := am_ (Kd.R_below (Sh.rl HO425.out) hb); have BK426 := am_ hbox; have GE426 := Sh.ag w hg; replace HB := Sh.hb hb; clear hb hbox hg; obtain ⟨Ao10, co10, eo10⟩ := Kd.R_slice HO425.out; subst eo10; have hcz11_0 := Sh.bc BK426.out 0; have hfz11_0 := blk_frozen BK426.out 0))
 repeat (go_quiet (first | (go_at_call 55; (with_reducible refine (impl_turned.calls k _ _ l0 t420 _ ?side1 ?side2 A4.out).mono ?_); (case side1 => repeat (first | exact HR0.out | (with_reducible first | refine Kd.C_alloc ?_ _ | refine Kd.C_drewN ?_ _ | refine Kd.C_drew ?_))); (case side2 => exact HC0.out); rintro e w6 ⟨v421, rfl, ho0, hb⟩; have HO422 := am_ (Kd.S_lower ho0 (below_size Sh.bw)); replace HB := Sh.hb hb; (try clear hb); (try clear ho0); obtain ⟨Ao7, co7, eo7⟩ := Kd.S_slice HO422.out; subst eo7) | (go_at_call 72; (with_reducible refine (impl_stepsFrom.calls k _ _ t420 _ _ l2 t423 _ (Sh.cR (Kd.S_reads' HO422.out).2.2) (Kd.S_reads' HO422.out).2.1 (Sh.cB HR2.out) HC2.out A5.out).mono ?_); rintro e w8 ⟨v424, rfl, ho0, hb⟩; replace HO422 := am_ (Kd.S_elder' (by (with_reducible repeat (first | apply Kd.S_alloc | apply Kd.S_drewN | apply Kd.S_drew)); exact HO422.out) (Kd.R_base ho0) hb); have HO425 := am_ (Kd.R_lower ho0 (below_size Sh.bw)); replace HB := Sh.hb hb; (try clear hb); (try clear ho0)) | ((with_reducible refine Sh.d 7 ?_); refine Sh.bx (N := 7) (cs := #[.slice none 0 0]) (t := 26) (h := ?_); intro gb426 hg w9 hbox hb; replace HO422 := am_ (Kd.S_below (Kd.S_elderB (by (with_reducible repeat (first | apply Kd.S_alloc | apply Kd.S_drewN | apply Kd.S_drew)); exact HO422.out) gb426 (Nat.le_of_eq hg.symm)) hb); replace HO425 := am_ (Kd.R_below (Sh.rl HO425.out) hb); have BK426 := am_ hbox; have GE426 := Sh.ag w hg; replace HB := Sh.hb hb; clear hb hbox hg; obtain ⟨Ao10, co10, eo10⟩ := Kd.R_slice HO425.out; subst eo10; have hcz11_0 := Sh.bc BK426.out 0; have hfz11_0 := blk_frozen BK426.out 0)); try go_wp2_with (first | (go_at_call 55; (with_reducible refine (impl_turned.calls k _ _ l0 t420 _ ?side1 ?side2 A4.out).mono ?_); (case side1 => repeat (first | exact HR0.out | (with_reducible first | refine Kd.C_alloc ?_ _ | refine Kd.C_drewN ?_ _ | refine Kd.C_drew ?_))); (case side2 => exact HC0.out); rintro e w6 ⟨v421, rfl, ho0, hb⟩; have HO422 := am_ (Kd.S_lower ho0 (below_size Sh.bw)); replace HB := Sh.hb hb; (try clear hb); (try clear ho0); obtain ⟨Ao7, co7, eo7⟩ := Kd.S_slice HO422.out; subst eo7) | (go_at_call 72; (with_reducible refine (impl_stepsFrom.calls k _ _ t420 _ _ l2 t423 _ (Sh.cR (Kd.S_reads' HO422.out).2.2) (Kd.S_reads' HO422.out).2.1 (Sh.cB HR2.out) HC2.out A5.out).mono ?_); rintro e w8 ⟨v424, rfl, ho0, hb⟩; replace HO422 := am_ (Kd.S_elder' (by (with_reducible repeat (first | apply Kd.S_alloc | apply Kd.S_drewN | apply Kd.S_drew)); exact HO422.out) (Kd.R_base ho0) hb); have HO425 := am_ (Kd.R_lower ho0 (below_size Sh.bw)); replace HB := Sh.hb hb; (try clear hb); (try clear ho0)) | ((with_reducible refine Sh.d 7 ?_); refine Sh.bx (N := 7) (cs := #[.slice none 0 0]) (t := 26) (h := ?_); intro gb426 hg w9 hbox hb; replace HO422 := am_ (Kd.S_below (Kd.S_elderB (by (with_reducible repeat (first | apply Kd.S_alloc | apply Kd.S_drewN | apply Kd.S_drew)); exact HO422.out) gb426 (Nat.le_of_eq hg.symm)) hb); replace HO425 := am_ (Kd.R_below (Sh.rl HO425.out) hb); have BK426 := am_ hbox; have GE426 := Sh.ag w hg; replace HB := Sh.hb hb; clear hb hbox hg; obtain ⟨Ao10, co10, eo10⟩ := Kd.R_slice HO425.out; subst eo10; have hcz11_0 := Sh.bc BK426.out 0; have hfz11_0 := blk_frozen BK426.out 0)))
 go_loopg [8, 20] k (fun kq v8 v20 w' => ∃ (x8_1 : Int) (x20_1 : Int), v8 = .int .i64 x8_1 ∧ v20 = .int .i64 x20_1 ∧ Aside0 (impl_leastWay.l0 kq l0 x8_1 l1 (l1.length : Int) x20_1 t423 = some r) ∧ Aside0 (kq ≤ k) ∧ Aside0 (Kd.R (Kd.int .i64) 3 w' w.heap.size (fun _ => True) (.slice Ao10 t423.length co10) t423) ∧ Aside0 (w'.heap[gb426]? = some (.cells #[(.slice Ao10 t423.length co10)] 26 (0, 0))) ∧ Aside0 (Below w.heap.size w w'))
 case atStart => exact ⟨((-1)), (0), (Sh.es), (Sh.es), H', ⟨Nat.le_refl _⟩, ⟨Sh.rl (Kd.R_mono (Kd.R_far (p := ⟨gb426, 0, none⟩) (Kd.R_types HO425.out BK426.out (by decide)) (fun _ hk => hk.2) (.slice Ao10 t423.length co10)) (fun _ hk => trivial))⟩, ⟨by refine Sh.pl ?_; refine blk_put (cs := #[.slice none 0 0]) ?_ 0 _ rfl; refine Sh.pl ?_; exact BK426.out⟩, ⟨Sh.bw⟩⟩
 case round =>
  clear H'
  try clear hcz11_0
  try clear hfz11_0
  obtain ⟨x8_1, x20_1, rfl, rfl, HA, HK1, HO_427000, BK426, HB⟩ := hrel
  cases gk with
  | zero => exact absurd HA.out (by simp [impl_leastWay.l0])
  | succ k1 =>
   have H := HA.out
   clear HA
   simp only [impl_leastWay.l0] at H
   by_cases c12 : x20_1 < (l1.length : Int)
   ·rw [if_pos c12] at H
    replace c12 := decide_eq_true c12
    by_cases c13 : 0 ≤ x20_1
    ·rw [if_pos c13] at H
     replace c13 := decide_eq_true c13
     by_cases c14 : x20_1 < (l1.length : Int)
     ·rw [if_pos c14] at H
      replace c14 := decide_eq_true c14
      by_cases c15 : 0 ≤ (rd l1 x20_1)
      ·rw [if_pos c15] at H
       replace c15 := decide_eq_true c15
       by_cases c16 : (rd l1 x20_1) < (t423.length : Int)
       ·rw [if_pos c16] at H
        replace c16 := decide_eq_true c16
        by_cases c17 : (rd t423 (rd l1 x20_1)) ≥ 0
        ·rw [if_pos c17] at H
         have c17b0 : decide (0 ≤ (rd t423 (rd l1 x20_1))) = true := decide_eq_true c17
         clear c17
         by_cases c18 : x8_1 < 0
         ·rw [if_pos c18] at H
          replace c18 := decide_eq_true c18
          have H' := am_ H
          clear H
          have p427 : 0 ≤ (x20_1 : Int) := Sh.od
          have q427 : x20_1 < (l1.length : Int) := Sh.od
          obtain ⟨ad427, e427, hx427_0⟩ := Kd.at_int HR1.out x20_1 p427 q427
          cases e427
          try replace hx427_0 := Sh.cw hx427_0
          replace p427 := eq_true p427
          replace q427 := eq_true q427
          have hcz19_0 := Sh.bc BK426.out 0
          have hfz19_0 := blk_frozen BK426.out 0
          have p428 : 0 ≤ ((rd l1 x20_1) : Int) := Sh.od
          have q428 : (rd l1 x20_1) < (t423.length : Int) := Sh.od
          obtain ⟨ad428, e428, hx428_0⟩ := Kd.at_int (Kd.R_reads' HO_427000.out).2.2 (rd l1 x20_1) p428 q428
          cases e428
          replace p428 := eq_true p428
          replace q428 := eq_true q428
          go_wp2
          repeat (go_quiet (fail); try go_wp2)
          go_roundg k1
          case measure => have := HK1.out; omega
          case rel => exact ⟨(rd l1 x20_1), (wrap64 (x20_1 + 1)), (Sh.es), (Sh.es), H', ⟨by have := HK1.out; omega⟩, ⟨Sh.rl HO_427000.out⟩, ⟨by refine Sh.pl ?_; exact BK426.out⟩, ⟨Sh.bw⟩⟩
         ·rw [if_neg c18] at H
          replace c18 := decide_eq_false c18
          by_cases c20 : 0 ≤ x8_1
          ·rw [if_pos c20] at H
           replace c20 := decide_eq_true c20
           by_cases c21 : x8_1 < (t423.length : Int)
           ·rw [if_pos c21] at H
            replace c21 := decide_eq_true c21
            by_cases c22 : (rd t423 (rd l1 x20_1)) < (rd t423 x8_1)
            ·rw [if_pos c22] at H
             replace c22 := decide_eq_true c22
             have H' := am_ H
             clear H
             have p427 : 0 ≤ (x20_1 : Int) := Sh.od
             have q427 : x20_1 < (l1.length : Int) := Sh.od
             obtain ⟨ad427, e427, hx427_0⟩ := Kd.at_int HR1.out x20_1 p427 q427
             cases e427
             try replace hx427_0 := Sh.cw hx427_0
             replace p427 := eq_true p427
             replace q427 := eq_true q427
             have hcz23_0 := Sh.bc BK426.out 0
             have hfz23_0 := blk_frozen BK426.out 0
             have p428 : 0 ≤ ((rd l1 x20_1) : Int) := Sh.od
             have q428 : (rd l1 x20_1) < (t423.length : Int) := Sh.od
             obtain ⟨ad428, e428, hx428_0⟩ := Kd.at_int (Kd.R_reads' HO_427000.out).2.2 (rd l1 x20_1) p428 q428
             cases e428
             replace p428 := eq_true p428
             replace q428 := eq_true q428
             have p429 : 0 ≤ ((rd l1 x20_1) : Int) := Sh.od
             have q429 : (rd l1 x20_1) < (t423.length : Int) := Sh.od
             obtain ⟨ad429, e429, hx429_0⟩ := Kd.at_int (Kd.R_reads' HO_427000.out).2.2 (rd l1 x20_1) p429 q429
             obtain rfl : ad428 = ad429 := (by injection e429)
             replace p429 := eq_true p429
             replace q429 := eq_true q429
             have p430 : 0 ≤ (x8_1 : Int) := Sh.od
             have q430 : x8_1 < (t423.length : Int) := Sh.od
             obtain ⟨ad430, e430, hx430_0⟩ := Kd.at_int (Kd.R_reads' HO_427000.out).2.2 x8_1 p430 q430
             obtain rfl : ad428 = ad430 := (by injection e430)
             replace p430 := eq_true p430
             replace q430 := eq_true q430
             go_wp2
             repeat (go_quiet (fail); try go_wp2)
             go_roundg k1
             case measure => have := HK1.out; omega
             case rel => exact ⟨(rd l1 x20_1), (wrap64 (x20_1 + 1)), (Sh.es), (Sh.es), H', ⟨by have := HK1.out; omega⟩, ⟨Sh.rl HO_427000.out⟩, ⟨by refine Sh.pl ?_; exact BK426.out⟩, ⟨Sh.bw⟩⟩
            ·rw [if_neg c22] at H
             replace c22 := decide_eq_false c22
             have H' := am_ H
             clear H
             have p427 : 0 ≤ (x20_1 : Int) := Sh.od
             have q427 : x20_1 < (l1.length : Int) := Sh.od
             obtain ⟨ad427, e427, hx427_0⟩ := Kd.at_int HR1.out x20_1 p427 q427
             cases e427
             try replace hx427_0 := Sh.cw hx427_0
             replace p427 := eq_true p427
             replace q427 := eq_true q427
             have hcz24_0 := Sh.bc BK426.out 0
             have hfz24_0 := blk_frozen BK426.out 0
             have p428 : 0 ≤ ((rd l1 x20_1) : Int) := Sh.od
             have q428 : (rd l1 x20_1) < (t423.length : Int) := Sh.od
             obtain ⟨ad428, e428, hx428_0⟩ := Kd.at_int (Kd.R_reads' HO_427000.out).2.2 (rd l1 x20_1) p428 q428
             cases e428
             replace p428 := eq_true p428
             replace q428 := eq_true q428
             have p429 : 0 ≤ ((rd l1 x20_1) : Int) := Sh.od
             have q429 : (rd l1 x20_1) < (t423.length : Int) := Sh.od
             obtain ⟨ad429, e429, hx429_0⟩ := Kd.at_int (Kd.R_reads' HO_427000.out).2.2 (rd l1 x20_1) p429 q429
             obtain rfl : ad428 = ad429 := (by injection e429)
             replace p429 := eq_true p429
             replace q429 := eq_true q429
             have p430 : 0 ≤ (x8_1 : Int) := Sh.od
             have q430 : x8_1 < (t423.length : Int) := Sh.od
             obtain ⟨ad430, e430, hx430_0⟩ := Kd.at_int (Kd.R_reads' HO_427000.out).2.2 x8_1 p430 q430
             obtain rfl : ad428 = ad430 := (by injection e430)
             replace p430 := eq_true p430
             replace q430 := eq_true q430
             go_wp2
             repeat (go_quiet (fail); try go_wp2)
             go_roundg k1
             case measure => have := HK1.out; omega
             case rel => exact ⟨(x8_1), (wrap64 (x20_1 + 1)), (Sh.es), (Sh.es), H', ⟨by have := HK1.out; omega⟩, ⟨Sh.rl HO_427000.out⟩, ⟨by refine Sh.pl ?_; exact BK426.out⟩, ⟨Sh.bw⟩⟩
           ·rw [if_neg c21] at H
            cases H
          ·rw [if_neg c20] at H
           cases H
        ·rw [if_neg c17] at H
         have c17b0 : decide (0 ≤ (rd t423 (rd l1 x20_1))) = false := decide_eq_false c17
         clear c17
         have H' := am_ H
         clear H
         have p427 : 0 ≤ (x20_1 : Int) := Sh.od
         have q427 : x20_1 < (l1.length : Int) := Sh.od
         obtain ⟨ad427, e427, hx427_0⟩ := Kd.at_int HR1.out x20_1 p427 q427
         cases e427
         try replace hx427_0 := Sh.cw hx427_0
         replace p427 := eq_true p427
         replace q427 := eq_true q427
         have hcz25_0 := Sh.bc BK426.out 0
         have hfz25_0 := blk_frozen BK426.out 0
         have p428 : 0 ≤ ((rd l1 x20_1) : Int) := Sh.od
         have q428 : (rd l1 x20_1) < (t423.length : Int) := Sh.od
         obtain ⟨ad428, e428, hx428_0⟩ := Kd.at_int (Kd.R_reads' HO_427000.out).2.2 (rd l1 x20_1) p428 q428
         cases e428
         replace p428 := eq_true p428
         replace q428 := eq_true q428
         go_wp2
         repeat (go_quiet (fail); try go_wp2)
         go_roundg k1
         case measure => have := HK1.out; omega
         case rel => exact ⟨(x8_1), (wrap64 (x20_1 + 1)), (Sh.es), (Sh.es), H', ⟨by have := HK1.out; omega⟩, ⟨Sh.rl HO_427000.out⟩, ⟨by refine Sh.pl ?_; exact BK426.out⟩, ⟨Sh.bw⟩⟩
       ·rw [if_neg c16] at H
        cases H
      ·rw [if_neg c15] at H
       cases H
     ·rw [if_neg c14] at H
      cases H
    ·rw [if_neg c13] at H
     cases H
   ·rw [if_neg c12] at H
    replace c12 := decide_eq_false c12
    by_cases c26 : x8_1 < 0
    ·rw [if_pos c26] at H
     replace c26 := decide_eq_true c26
     obtain rfl := Option.some.inj H
     go_wp2
     repeat (go_quiet (fail); try go_wp2)
     go_ret
     exact ⟨_, Sh.eR, (by first | exact rfl | exact fun _ => rfl), by first | exact Kd.R_nil _ _ _ _ _ | exact Kd.N_nil _ _ _ _ _ | exact Kd.V_nil _ _ _ _ _ | exact Kd.Q_nil _ _ _ _ _ | exact Kd.S_nil _ _ _ _ _, Sh.bw⟩
    ·rw [if_neg c26] at H
     replace c26 := decide_eq_false c26
     obtain ⟨y431, hy431⟩ : ∃ y_ : List Int, y_ = (([x8_1] : List Int)) := ⟨_, rfl⟩
     replace H : (impl_leastWay.l1 k1 l0 y431 t423 x8_1) = some r := by first | (rw [hy431]; with_reducible exact H) | (have H2_ := (Option.bind_some _ _).symm.trans H; rw [hy431]; with_reducible exact H2_) | (have H2_ := (Option.bind_some _ _).symm.trans H; with_reducible exact H2_) | with_reducible exact H | (rw [hy431]; exact H) | exact H
     have Ny431 := am_ hy431
     clear hy431
     have H' := am_ H
     clear H
     go_wp2_with (first | ((with_reducible refine Sh.d 49 ?_); refine Kd.R_lit (Kd.int .i64) _ 3 ?hg (N := 49) ?hd (xs := ([x8_1] : List Int)) (inner := [.int .i64 x8_1]) (ok := fun _ => True) (okp := fun _ => True) ?hr ?hp (fun _ hk => hk) trivial (Below.refl _ _) (Nat.le_refl _) (by simp) ?_; (case hd => rfl); (case hg => rfl); (case hr => first | (go_simp; done) | (go_simp; rfl)); (case hp => exact (Reps.one (show Kd.M (Kd.int .i64) _ _ _ x8_1 [.int .i64 x8_1] from rfl) (Reps.none _ _))); intro v432 w27 ho28 hb hg_ hnew_; clear hg_ hnew_; (first | rw [← Ny431.out] at ho28 | (simp only [Int.reduceToNat] at ho28; rw [← Ny431.out] at ho28)); have HO433 := am_ (Kd.R_lower (Kd.R_new' ho28 (Kd.R_lt (Sh.rl HO_427000.out))) (below_size Sh.bw)); replace HO_427000 := am_ (Kd.R_elder' (Sh.rl HO_427000.out) (Kd.R_base ho28) hb); replace BK426 := Sh.ab BK426 hb; replace HB := Sh.hb hb; clear hb ho28) | ((with_reducible refine Sh.d 12 ?_); refine Sh.bx (N := 12) (cs := #[.int .i64 0]) (t := 3) (h := ?_); intro gb434 hg w29 hbox hb; replace HO_427000 := am_ (Kd.R_below (Kd.R_elderB (Sh.rl HO_427000.out) gb434 (Nat.le_of_eq hg.symm)) hb); replace HO433 := am_ (Kd.R_below (Kd.R_elderB (Sh.rl HO433.out) gb434 (Nat.le_of_eq hg.symm)) hb); have BK434 := am_ hbox; have GE434 := Sh.ag w hg; replace HB := Sh.hb hb; have NB426_434 := am_ (Sh.nl hg BK426.out); have NB434_426 := am_ (Sh.ng hg BK426.out); replace BK426 := Sh.ab BK426 hb; clear hb hbox hg; have hnb30 := NB434_426.out; have hnc30 := NB426_434.out; have hcz31_0 := Sh.bc BK434.out 0; have hfz31_0 := blk_frozen BK434.out 0))
     repeat (go_quiet (first | ((with_reducible refine Sh.d 49 ?_); refine Kd.R_lit (Kd.int .i64) _ 3 ?hg (N := 49) ?hd (xs := ([x8_1] : List Int)) (inner := [.int .i64 x8_1]) (ok := fun _ => True) (okp := fun _ => True) ?hr ?hp (fun _ hk => hk) trivial (Below.refl _ _) (Nat.le_refl _) (by simp) ?_; (case hd => rfl); (case hg => rfl); (case hr => first | (go_simp; done) | (go_simp; rfl)); (case hp => exact (Reps.one (show Kd.M (Kd.int .i64) _ _ _ x8_1 [.int .i64 x8_1] from rfl) (Reps.none _ _))); intro v432 w27 ho28 hb hg_ hnew_; clear hg_ hnew_; (first | rw [← Ny431.out] at ho28 | (simp only [Int.reduceToNat] at ho28; rw [← Ny431.out] at ho28)); have HO433 := am_ (Kd.R_lower (Kd.R_new' ho28 (Kd.R_lt (Sh.rl HO_427000.out))) (below_size Sh.bw)); replace HO_427000 := am_ (Kd.R_elder' (Sh.rl HO_427000.out) (Kd.R_base ho28) hb); replace BK426 := Sh.ab BK426 hb; replace HB := Sh.hb hb; clear hb ho28) | ((with_reducible refine Sh.d 12 ?_); refine Sh.bx (N := 12) (cs := #[.int .i64 0]) (t := 3) (h := ?_); intro gb434 hg w29 hbox hb; replace HO_427000 := am_ (Kd.R_below (Kd.R_elderB (Sh.rl HO_427000.out) gb434 (Nat.le_of_eq hg.symm)) hb); replace HO433 := am_ (Kd.R_below (Kd.R_elderB (Sh.rl HO433.out) gb434 (Nat.le_of_eq hg.symm)) hb); have BK434 := am_ hbox; have GE434 := Sh.ag w hg; replace HB := Sh.hb hb; have NB426_434 := am_ (Sh.nl hg BK426.out); have NB434_426 := am_ (Sh.ng hg BK426.out); replace BK426 := Sh.ab BK426 hb; clear hb hbox hg; have hnb30 := NB434_426.out; have hnc30 := NB426_434.out; have hcz31_0 := Sh.bc BK434.out 0; have hfz31_0 := blk_frozen BK434.out 0)); try go_wp2_with (first | ((with_reducible refine Sh.d 49 ?_); refine Kd.R_lit (Kd.int .i64) _ 3 ?hg (N := 49) ?hd (xs := ([x8_1] : List Int)) (inner := [.int .i64 x8_1]) (ok := fun _ => True) (okp := fun _ => True) ?hr ?hp (fun _ hk => hk) trivial (Below.refl _ _) (Nat.le_refl _) (by simp) ?_; (case hd => rfl); (case hg => rfl); (case hr => first | (go_simp; done) | (go_simp; rfl)); (case hp => exact (Reps.one (show Kd.M (Kd.int .i64) _ _ _ x8_1 [.int .i64 x8_1] from rfl) (Reps.none _ _))); intro v432 w27 ho28 hb hg_ hnew_; clear hg_ hnew_; (first | rw [← Ny431.out] at ho28 | (simp only [Int.reduceToNat] at ho28; rw [← Ny431.out] at ho28)); have HO433 := am_ (Kd.R_lower (Kd.R_new' ho28 (Kd.R_lt (Sh.rl HO_427000.out))) (below_size Sh.bw)); replace HO_427000 := am_ (Kd.R_elder' (Sh.rl HO_427000.out) (Kd.R_base ho28) hb); replace BK426 := Sh.ab BK426 hb; replace HB := Sh.hb hb; clear hb ho28) | ((with_reducible refine Sh.d 12 ?_); refine Sh.bx (N := 12) (cs := #[.int .i64 0]) (t := 3) (h := ?_); intro gb434 hg w29 hbox hb; replace HO_427000 := am_ (Kd.R_below (Kd.R_elderB (Sh.rl HO_427000.out) gb434 (Nat.le_of_eq hg.symm)) hb); replace HO433 := am_ (Kd.R_below (Kd.R_elderB (Sh.rl HO433.out) gb434 (Nat.le_of_eq hg.symm)) hb); have BK434 := am_ hbox; have GE434 := Sh.ag w hg; replace HB := Sh.hb hb; have NB426_434 := am_ (Sh.nl hg BK426.out); have NB434_426 := am_ (Sh.ng hg BK426.out); replace BK426 := Sh.ab BK426 hb; clear hb hbox hg; have hnb30 := NB434_426.out; have hnc30 := NB426_434.out; have hcz31_0 := Sh.bc BK434.out 0; have hfz31_0 := blk_frozen BK434.out 0)))
     go_loopg [11, 12] k1 (fun kq v11 v12 w' => ∃ (gb434 : Nat) (x8_1 : Int) (x11_2 : List Int), v12 = .pointer (some ⟨gb434, 0, none⟩) ∧ Aside0 (impl_leastWay.l1 kq l0 x11_2 t423 x8_1 = some r) ∧ Aside0 (kq ≤ k1) ∧ Aside0 (Kd.R (Kd.int .i64) 3 w' w.heap.size (fun k_ => some k_ ≠ ((.slice Ao10 t423.length co10) : Value).ownBlock ∧ k_ ≠ gb434) v11 x11_2) ∧ Aside0 (Kd.R (Kd.int .i64) 3 w' w.heap.size (fun k_ => some k_ ≠ (v11 : Value).ownBlock ∧ k_ ≠ gb434) (.slice Ao10 t423.length co10) t423) ∧ Aside0 (w'.heap[gb426]? = some (.cells #[(.slice Ao10 t423.length co10)] 26 (0, 0))) ∧ Aside0 (w'.heap[gb434]? = some (.cells #[.int .i64 x8_1] 3 (0, 0))) ∧ Aside0 (Below w.heap.size w w') ∧ Aside0 (gb426 ≠ gb434) ∧ Aside0 (gb434 ≠ gb426) ∧ Aside0 (w.heap.size ≤ gb434) ∧ Aside0 (0 < x11_2.length))
     case atStart => exact ⟨gb434, x8_1, (y431), rfl, H', ⟨Nat.le_refl _⟩, ⟨Sh.rl (Kd.R_mono (Kd.R_far (p := ⟨gb434, 0, none⟩) (Kd.R_mono HO433.out (fun k_ hk => (⟨hk, hk.2⟩ : _ ∧ k_ ≠ gb434))) (fun _ hk => hk.2) (.int .i64 x8_1)) (fun _ h => ⟨h.1.1.2, h.1.2⟩))⟩, ⟨Sh.rl (Kd.R_mono (Kd.R_far (p := ⟨gb434, 0, none⟩) (Kd.R_mono HO_427000.out (fun k_ hk => (⟨hk, hk.2⟩ : _ ∧ k_ ≠ gb434))) (fun _ hk => hk.2) (.int .i64 x8_1)) (fun _ h => ⟨h.1.1.2, h.1.2⟩))⟩, ⟨by refine Sh.pl ?_; refine blk_far ?_ NB426_434.out _; refine Sh.pl ?_; exact BK426.out⟩, ⟨by refine Sh.pl ?_; refine blk_put (cs := #[.int .i64 0]) ?_ 0 _ rfl; refine Sh.pl ?_; exact BK434.out⟩, ⟨Sh.bw⟩, NB426_434, NB434_426, GE434, ⟨by rw [Ny431.out]; exact Nat.succ_pos _⟩⟩
     case round =>
      clear H'
      try clear hx4
      try clear hcz11_0
      try clear hcz19_0
      try clear hcz23_0
      try clear hcz24_0
      try clear hcz25_0
      try clear hcz31_0
      try clear hfz11_0
      try clear hfz19_0
      try clear hfz23_0
      try clear hfz24_0
      try clear hfz25_0
      try clear hfz31_0
      try clear hx427_0
      try clear hx428_0
      try clear hx429_0
      try clear hx430_0
      try clear NB426_434
      try clear NB434_426
      try clear GE434
      obtain ⟨gb434, x8_1, x11_2, rfl, HA, HK2, HO_11, HO_427000, BK426, BK434, HB, NB426_434, NB434_426, GE434, LE11⟩ := hrel
      cases gk with
      | zero => exact absurd HA.out (by simp [impl_leastWay.l1])
      | succ k2 =>
       have H := HA.out
       clear HA
       simp only [impl_leastWay.l1] at H
       by_cases c32 : 0 ≤ x8_1
       ·rw [if_pos c32] at H
        replace c32 := decide_eq_true c32
        by_cases c33 : x8_1 < (t423.length : Int)
        ·rw [if_pos c33] at H
         replace c33 := decide_eq_true c33
         by_cases c34 : (rd t423 x8_1) > 0
         ·rw [if_pos c34] at H
          have c34b0 : decide (0 < (rd t423 x8_1)) = true := decide_eq_true c34
          clear c34
          by_cases c35 : x8_1 < (l0.length : Int)
          ·rw [if_pos c35] at H
           replace c35 := decide_eq_true c35
           obtain ⟨t437, A36, H⟩ := Sh.ba H
           by_cases c37 : 0 ≤ t437
           ·rw [if_pos c37] at H
            replace c37 := decide_eq_true c37
            by_cases c38 : t437 < ((rd_L1 l0 x8_1).length : Int)
            ·rw [if_pos c38] at H
             replace c38 := decide_eq_true c38
             by_cases c39 : x11_2.length < 17592186044416
             ·rw [if_pos c39] at H
              have LMc39 := am_ c39
              clear c39
              obtain ⟨y440, hy440⟩ : ∃ y_ : List Int, y_ = (x11_2 ++ [rd (rd_L1 l0 x8_1) t437]) := ⟨_, rfl⟩
              replace H : (impl_leastWay.l1 k2 l0 y440 t423 (rd (rd_L1 l0 x8_1) t437)) = some r := by first | (rw [hy440]; with_reducible exact H) | (have H2_ := (Option.bind_some _ _).symm.trans H; rw [hy440]; with_reducible exact H2_) | (have H2_ := (Option.bind_some _ _).symm.trans H; with_reducible exact H2_) | with_reducible exact H | (rw [hy440]; exact H) | exact H
              have Ny440 := am_ hy440
              clear hy440
              have H' := am_ H
              clear H
              have hnb40 := NB426_434.out
              have hnc40 := NB434_426.out
              have hcz41_0 := Sh.bc BK426.out 0
              have hfz41_0 := blk_frozen BK426.out 0
              have hcz42_0 := Sh.bc BK434.out 0
              have hfz42_0 := blk_frozen BK434.out 0
              have p435 : 0 ≤ (x8_1 : Int) := Sh.od
              have q435 : x8_1 < (t423.length : Int) := Sh.od
              obtain ⟨ad435, e435, hx435_0⟩ := Kd.at_int (Kd.R_reads' HO_427000.out).2.2 x8_1 p435 q435
              cases e435
              replace p435 := eq_true p435
              replace q435 := eq_true q435
              have p436 : 0 ≤ (x8_1 : Int) := Sh.od
              have q436 : x8_1 < (l0.length : Int) := Sh.od
              obtain ⟨ad436, A436_0, c436_0, e436, hx436_0, hl436_0, hi436_0⟩ := at_L1 HR0.out x8_1 p436 q436
              cases e436
              try replace hx436_0 := Sh.cw hx436_0
              have HR436_0 := am_ hi436_0
              have HC436_0 := am_ hl436_0
              clear hi436_0 hl436_0
              replace p436 := eq_true p436
              replace q436 := eq_true q436
              go_wp2_with (first | (go_at_call 74; (with_reducible refine (slices_IndexFunc_int_int_74_by_impl_leastWay_1.calls _ _ (rd_L1 l0 x8_1) gb426 (some ad435) co10 t423 gb434 x8_1 t437 _ (Sh.cB HR436_0.out) HC436_0.out (Sh.cR (Kd.R_reads' HO_427000.out).2.2) (Kd.R_reads' HO_427000.out).2.1 ?side5 ?side6 ?side7 A36.out).mono ?_); (case side5 => refine Sh.pl ?_; exact BK426.out); (case side6 => refine Sh.pl ?_; exact BK434.out); (case side7 => exact NB426_434.out); rintro e w43 ⟨rfl, hb⟩; replace HO_11 := am_ (Kd.R_below (Sh.rl HO_11.out) hb); replace HO_427000 := am_ (Kd.R_below (Sh.rl HO_427000.out) hb); replace BK426 := Sh.ab BK426 hb; replace BK434 := Sh.ab BK434 hb; replace HB := Sh.hb hb; (try clear hb); (try clear hk); have hcz44_0 := Sh.bc BK434.out 0; have hfz44_0 := blk_frozen BK434.out 0; have p438 : 0 ≤ (x8_1 : Int) := Sh.od; have q438 : x8_1 < (l0.length : Int) := Sh.od; obtain ⟨ad438, A438_0, c438_0, e438, hx438_0, hl438_0, hi438_0⟩ := at_L1 HR0.out x8_1 p438 q438; obtain rfl : ad436 = ad438 := (by injection e438); replace hx438_0 := (HB.out.cell (World.block_lt_of_cell? w _ hx438_0)).trans hx438_0; have HR438_0 := am_ hi438_0; have HC438_0 := am_ hl438_0; clear hi438_0 hl438_0; replace p438 := eq_true p438; replace q438 := eq_true q438; have p439 : 0 ≤ (t437 : Int) := Sh.od; have q439 : t437 < ((rd_L1 l0 x8_1).length : Int) := Sh.od; obtain ⟨ad439, e439, hx439_0⟩ := Kd.at_int HR438_0.out t437 p439 q439; cases e439; replace hx439_0 := (HB.out.cell (World.block_lt_of_cell? w _ hx439_0)).trans hx439_0; replace p439 := eq_true p439; replace q439 := eq_true q439) | ((with_reducible refine gate_builtin (b := .append) (xs := #[.tmp 69, .tmp 71]) rfl ?_); at_builtin; refine Kd.R_append (Kd.int .i64) (w0 := w) w.heap.size rfl (.tmp 69) (.tmp 71) 26 3 (.int .i64 0) 8 rfl Try.underlying26 info3 rfl (by decide) (by omega) u11 x11_2 (rd (rd_L1 l0 x8_1) t437) [.int .i64 (rd (rd_L1 l0 x8_1) t437)] (fun k_ => some k_ ≠ (.slice (some ad435) t423.length co10 : Value).ownBlock ∧ k_ ≠ gb434) (fun _ => False) rfl (by first | (go_simp; done) | (go_simp; rfl) | (refine Eq.trans (b := Value.slice (some ⟨_, 0, none⟩) 1 1) rfl ?_; simp [World.setCell])) ?aP (fun _ hk => hk.elim) ?aF ?aO ?aB ?aS ?aL ?_; (case aP => exact rfl); (case aB => exact Sh.bw); (case aF => exact (fun k_ hk => ⟨Kd.fresh' (Kd.R_lt (Sh.rl (Kd.R_mono (Kd.R_far (p := ⟨gb434, 0, none⟩) (Kd.R_mono HO_427000.out (fun k_ hk => (⟨hk, hk.2⟩ : _ ∧ k_ ≠ gb434))) (fun _ hk => hk.2) (.int .i64 (rd (rd_L1 l0 x8_1) t437))) (fun _ h_ => h_.1)))) k_ hk, Kd.freshB (g := gb434) (o := .cells #[.int .i64 (rd (rd_L1 l0 x8_1) t437)] 3 (0, 0)) (by refine Sh.pl ?_; refine blk_put (cs := #[.int .i64 x8_1]) ?_ 0 _ rfl; refine Sh.pl ?_; exact BK434.out) k_ hk⟩)); (case aO => exact (Sh.rl (Kd.R_mono (Kd.R_far (p := ⟨gb434, 0, none⟩) (Kd.R_mono HO_11.out (fun k_ hk => (⟨hk, hk.2⟩ : _ ∧ k_ ≠ gb434))) (fun _ hk => hk.2) (.int .i64 (rd (rd_L1 l0 x8_1) t437))) (fun _ h => ⟨h.1.1, h.1.2⟩)))); (case aS => exact (below_size Sh.bw)); (case aL => have := LMc39.out; omega); intro v441 w45 ho hb hg hat; rw [← Ny440.out] at ho; have n0_ := am_ (Kd.R_after (ok := (fun k_ => k_ ≠ gb434)) (Sh.rl (Kd.R_mono (Kd.R_far (p := ⟨gb434, 0, none⟩) (Kd.R_mono HO_427000.out (fun k_ hk => (⟨hk, hk.2⟩ : _ ∧ k_ ≠ gb434))) (fun _ hk => hk.2) (.int .i64 (rd (rd_L1 l0 x8_1) t437))) (fun _ h => ⟨h.1.2, h.1.1⟩))) hg hat); have n1_ := am_ (blk_grown (g := gb426) (o := .cells #[.slice (some ad435) t423.length co10] 26 (0, 0)) (by refine Sh.pl ?_; refine blk_far ?_ NB426_434.out _; refine Sh.pl ?_; exact BK426.out) hg (Kd.R_ne HO_11.out BK426.out (by decide))); have n2_ := am_ (blk_grown (g := gb434) (o := .cells #[.int .i64 (rd (rd_L1 l0 x8_1) t437)] 3 (0, 0)) (by refine Sh.pl ?_; refine blk_put (cs := #[.int .i64 x8_1]) ?_ 0 _ rfl; refine Sh.pl ?_; exact BK434.out) hg (Kd.R_away HO_11.out (fun _ hk => hk.2))); have n3_ := am_ hb; have n4_ := am_ ho; clear HO_427000; clear BK426; clear BK434; clear HB; clear HO_11; have HO_427000 := n0_; have BK426 := n1_; have BK434 := n2_; have HB := n3_; have HO442 := n4_; clear n0_ n1_ n2_ n3_ n4_; clear ho hb hg hat; have hcz46_0 := Sh.bc BK434.out 0; have hfz46_0 := blk_frozen BK434.out 0) | ((with_reducible refine Sh.d 12 ?_); refine Sh.bx (N := 12) (cs := #[.int .i64 0]) (t := 3) (h := ?_); intro gb443 hg w47 hbox hb; replace HO_427000 := am_ (Kd.R_below (Kd.R_elderB (Sh.rl HO_427000.out) gb443 (Nat.le_of_eq hg.symm)) hb); replace HO442 := am_ (Kd.R_below (Kd.R_elderB (Sh.rl HO442.out) gb443 (Nat.le_of_eq hg.symm)) hb); have BK443 := am_ hbox; have GE443 := Sh.ag w hg; replace HB := Sh.hb hb; have NB426_443 := am_ (Sh.nl hg BK426.out); have NB443_426 := am_ (Sh.ng hg BK426.out); replace BK426 := Sh.ab BK426 hb; have NB434_443 := am_ (Sh.nl hg BK434.out); have NB443_434 := am_ (Sh.ng hg BK434.out); replace BK434 := Sh.ab BK434 hb; clear hb hbox hg; have hnb48 := NB443_426.out; have hnc48 := NB426_443.out; have hnb49 := NB443_434.out; have hnc49 := NB434_443.out; have hcz50_0 := Sh.bc BK443.out 0; have hfz50_0 := blk_frozen BK443.out 0))
              repeat (go_quiet (first | (go_at_call 74; (with_reducible refine (slices_IndexFunc_int_int_74_by_impl_leastWay_1.calls _ _ (rd_L1 l0 x8_1) gb426 (some ad435) co10 t423 gb434 x8_1 t437 _ (Sh.cB HR436_0.out) HC436_0.out (Sh.cR (Kd.R_reads' HO_427000.out).2.2) (Kd.R_reads' HO_427000.out).2.1 ?side5 ?side6 ?side7 A36.out).mono ?_); (case side5 => refine Sh.pl ?_; exact BK426.out); (case side6 => refine Sh.pl ?_; exact BK434.out); (case side7 => exact NB426_434.out); rintro e w43 ⟨rfl, hb⟩; replace HO_11 := am_ (Kd.R_below (Sh.rl HO_11.out) hb); replace HO_427000 := am_ (Kd.R_below (Sh.rl HO_427000.out) hb); replace BK426 := Sh.ab BK426 hb; replace BK434 := Sh.ab BK434 hb; replace HB := Sh.hb hb; (try clear hb); (try clear hk); have hcz44_0 := Sh.bc BK434.out 0; have hfz44_0 := blk_frozen BK434.out 0; have p438 : 0 ≤ (x8_1 : Int) := Sh.od; have q438 : x8_1 < (l0.length : Int) := Sh.od; obtain ⟨ad438, A438_0, c438_0, e438, hx438_0, hl438_0, hi438_0⟩ := at_L1 HR0.out x8_1 p438 q438; obtain rfl : ad436 = ad438 := (by injection e438); replace hx438_0 := (HB.out.cell (World.block_lt_of_cell? w _ hx438_0)).trans hx438_0; have HR438_0 := am_ hi438_0; have HC438_0 := am_ hl438_0; clear hi438_0 hl438_0; replace p438 := eq_true p438; replace q438 := eq_true q438; have p439 : 0 ≤ (t437 : Int) := Sh.od; have q439 : t437 < ((rd_L1 l0 x8_1).length : Int) := Sh.od; obtain ⟨ad439, e439, hx439_0⟩ := Kd.at_int HR438_0.out t437 p439 q439; cases e439; replace hx439_0 := (HB.out.cell (World.block_lt_of_cell? w _ hx439_0)).trans hx439_0; replace p439 := eq_true p439; replace q439 := eq_true q439) | ((with_reducible refine gate_builtin (b := .append) (xs := #[.tmp 69, .tmp 71]) rfl ?_); at_builtin; refine Kd.R_append (Kd.int .i64) (w0 := w) w.heap.size rfl (.tmp 69) (.tmp 71) 26 3 (.int .i64 0) 8 rfl Try.underlying26 info3 rfl (by decide) (by omega) u11 x11_2 (rd (rd_L1 l0 x8_1) t437) [.int .i64 (rd (rd_L1 l0 x8_1) t437)] (fun k_ => some k_ ≠ (.slice (some ad435) t423.length co10 : Value).ownBlock ∧ k_ ≠ gb434) (fun _ => False) rfl (by first | (go_simp; done) | (go_simp; rfl) | (refine Eq.trans (b := Value.slice (some ⟨_, 0, none⟩) 1 1) rfl ?_; simp [World.setCell])) ?aP (fun _ hk => hk.elim) ?aF ?aO ?aB ?aS ?aL ?_; (case aP => exact rfl); (case aB => exact Sh.bw); (case aF => exact (fun k_ hk => ⟨Kd.fresh' (Kd.R_lt (Sh.rl (Kd.R_mono (Kd.R_far (p := ⟨gb434, 0, none⟩) (Kd.R_mono HO_427000.out (fun k_ hk => (⟨hk, hk.2⟩ : _ ∧ k_ ≠ gb434))) (fun _ hk => hk.2) (.int .i64 (rd (rd_L1 l0 x8_1) t437))) (fun _ h_ => h_.1)))) k_ hk, Kd.freshB (g := gb434) (o := .cells #[.int .i64 (rd (rd_L1 l0 x8_1) t437)] 3 (0, 0)) (by refine Sh.pl ?_; refine blk_put (cs := #[.int .i64 x8_1]) ?_ 0 _ rfl; refine Sh.pl ?_; exact BK434.out) k_ hk⟩)); (case aO => exact (Sh.rl (Kd.R_mono (Kd.R_far (p := ⟨gb434, 0, none⟩) (Kd.R_mono HO_11.out (fun k_ hk => (⟨hk, hk.2⟩ : _ ∧ k_ ≠ gb434))) (fun _ hk => hk.2) (.int .i64 (rd (rd_L1 l0 x8_1) t437))) (fun _ h => ⟨h.1.1, h.1.2⟩)))); (case aS => exact (below_size Sh.bw)); (case aL => have := LMc39.out; omega); intro v441 w45 ho hb hg hat; rw [← Ny440.out] at ho; have n0_ := am_ (Kd.R_after (ok := (fun k_ => k_ ≠ gb434)) (Sh.rl (Kd.R_mono (Kd.R_far (p := ⟨gb434, 0, none⟩) (Kd.R_mono HO_427000.out (fun k_ hk => (⟨hk, hk.2⟩ : _ ∧ k_ ≠ gb434))) (fun _ hk => hk.2) (.int .i64 (rd (rd_L1 l0 x8_1) t437))) (fun _ h => ⟨h.1.2, h.1.1⟩))) hg hat); have n1_ := am_ (blk_grown (g := gb426) (o := .cells #[.slice (some ad435) t423.length co10] 26 (0, 0)) (by refine Sh.pl ?_; refine blk_far ?_ NB426_434.out _; refine Sh.pl ?_; exact BK426.out) hg (Kd.R_ne HO_11.out BK426.out (by decide))); have n2_ := am_ (blk_grown (g := gb434) (o := .cells #[.int .i64 (rd (rd_L1 l0 x8_1) t437)] 3 (0, 0)) (by refine Sh.pl ?_; refine blk_put (cs := #[.int .i64 x8_1]) ?_ 0 _ rfl; refine Sh.pl ?_; exact BK434.out) hg (Kd.R_away HO_11.out (fun _ hk => hk.2))); have n3_ := am_ hb; have n4_ := am_ ho; clear HO_427000; clear BK426; clear BK434; clear HB; clear HO_11; have HO_427000 := n0_; have BK426 := n1_; have BK434 := n2_; have HB := n3_; have HO442 := n4_; clear n0_ n1_ n2_ n3_ n4_; clear ho hb hg hat; have hcz46_0 := Sh.bc BK434.out 0; have hfz46_0 := blk_frozen BK434.out 0) | ((with_reducible refine Sh.d 12 ?_); refine Sh.bx (N := 12) (cs := #[.int .i64 0]) (t := 3) (h := ?_); intro gb443 hg w47 hbox hb; replace HO_427000 := am_ (Kd.R_below (Kd.R_elderB (Sh.rl HO_427000.out) gb443 (Nat.le_of_eq hg.symm)) hb); replace HO442 := am_ (Kd.R_below (Kd.R_elderB (Sh.rl HO442.out) gb443 (Nat.le_of_eq hg.symm)) hb); have BK443 := am_ hbox; have GE443 := Sh.ag w hg; replace HB := Sh.hb hb; have NB426_443 := am_ (Sh.nl hg BK426.out); have NB443_426 := am_ (Sh.ng hg BK426.out); replace BK426 := Sh.ab BK426 hb; have NB434_443 := am_ (Sh.nl hg BK434.out); have NB443_434 := am_ (Sh.ng hg BK434.out); replace BK434 := Sh.ab BK434 hb; clear hb hbox hg; have hnb48 := NB443_426.out; have hnc48 := NB426_443.out; have hnb49 := NB443_434.out; have hnc49 := NB434_443.out; have hcz50_0 := Sh.bc BK443.out 0; have hfz50_0 := blk_frozen BK443.out 0)); try go_wp2_with (first | (go_at_call 74; (with_reducible refine (slices_IndexFunc_int_int_74_by_impl_leastWay_1.calls _ _ (rd_L1 l0 x8_1) gb426 (some ad435) co10 t423 gb434 x8_1 t437 _ (Sh.cB HR436_0.out) HC436_0.out (Sh.cR (Kd.R_reads' HO_427000.out).2.2) (Kd.R_reads' HO_427000.out).2.1 ?side5 ?side6 ?side7 A36.out).mono ?_); (case side5 => refine Sh.pl ?_; exact BK426.out); (case side6 => refine Sh.pl ?_; exact BK434.out); (case side7 => exact NB426_434.out); rintro e w43 ⟨rfl, hb⟩; replace HO_11 := am_ (Kd.R_below (Sh.rl HO_11.out) hb); replace HO_427000 := am_ (Kd.R_below (Sh.rl HO_427000.out) hb); replace BK426 := Sh.ab BK426 hb; replace BK434 := Sh.ab BK434 hb; replace HB := Sh.hb hb; (try clear hb); (try clear hk); have hcz44_0 := Sh.bc BK434.out 0; have hfz44_0 := blk_frozen BK434.out 0; have p438 : 0 ≤ (x8_1 : Int) := Sh.od; have q438 : x8_1 < (l0.length : Int) := Sh.od; obtain ⟨ad438, A438_0, c438_0, e438, hx438_0, hl438_0, hi438_0⟩ := at_L1 HR0.out x8_1 p438 q438; obtain rfl : ad436 = ad438 := (by injection e438); replace hx438_0 := (HB.out.cell (World.block_lt_of_cell? w _ hx438_0)).trans hx438_0; have HR438_0 := am_ hi438_0; have HC438_0 := am_ hl438_0; clear hi438_0 hl438_0; replace p438 := eq_true p438; replace q438 := eq_true q438; have p439 : 0 ≤ (t437 : Int) := Sh.od; have q439 : t437 < ((rd_L1 l0 x8_1).length : Int) := Sh.od; obtain ⟨ad439, e439, hx439_0⟩ := Kd.at_int HR438_0.out t437 p439 q439; cases e439; replace hx439_0 := (HB.out.cell (World.block_lt_of_cell? w _ hx439_0)).trans hx439_0; replace p439 := eq_true p439; replace q439 := eq_true q439) | ((with_reducible refine gate_builtin (b := .append) (xs := #[.tmp 69, .tmp 71]) rfl ?_); at_builtin; refine Kd.R_append (Kd.int .i64) (w0 := w) w.heap.size rfl (.tmp 69) (.tmp 71) 26 3 (.int .i64 0) 8 rfl Try.underlying26 info3 rfl (by decide) (by omega) u11 x11_2 (rd (rd_L1 l0 x8_1) t437) [.int .i64 (rd (rd_L1 l0 x8_1) t437)] (fun k_ => some k_ ≠ (.slice (some ad435) t423.length co10 : Value).ownBlock ∧ k_ ≠ gb434) (fun _ => False) rfl (by first | (go_simp; done) | (go_simp; rfl) | (refine Eq.trans (b := Value.slice (some ⟨_, 0, none⟩) 1 1) rfl ?_; simp [World.setCell])) ?aP (fun _ hk => hk.elim) ?aF ?aO ?aB ?aS ?aL ?_; (case aP => exact rfl); (case aB => exact Sh.bw); (case aF => exact (fun k_ hk => ⟨Kd.fresh' (Kd.R_lt (Sh.rl (Kd.R_mono (Kd.R_far (p := ⟨gb434, 0, none⟩) (Kd.R_mono HO_427000.out (fun k_ hk => (⟨hk, hk.2⟩ : _ ∧ k_ ≠ gb434))) (fun _ hk => hk.2) (.int .i64 (rd (rd_L1 l0 x8_1) t437))) (fun _ h_ => h_.1)))) k_ hk, Kd.freshB (g := gb434) (o := .cells #[.int .i64 (rd (rd_L1 l0 x8_1) t437)] 3 (0, 0)) (by refine Sh.pl ?_; refine blk_put (cs := #[.int .i64 x8_1]) ?_ 0 _ rfl; refine Sh.pl ?_; exact BK434.out) k_ hk⟩)); (case aO => exact (Sh.rl (Kd.R_mono (Kd.R_far (p := ⟨gb434, 0, none⟩) (Kd.R_mono HO_11.out (fun k_ hk => (⟨hk, hk.2⟩ : _ ∧ k_ ≠ gb434))) (fun _ hk => hk.2) (.int .i64 (rd (rd_L1 l0 x8_1) t437))) (fun _ h => ⟨h.1.1, h.1.2⟩)))); (case aS => exact (below_size Sh.bw)); (case aL => have := LMc39.out; omega); intro v441 w45 ho hb hg hat; rw [← Ny440.out] at ho; have n0_ := am_ (Kd.R_after (ok := (fun k_ => k_ ≠ gb434)) (Sh.rl (Kd.R_mono (Kd.R_far (p := ⟨gb434, 0, none⟩) (Kd.R_mono HO_427000.out (fun k_ hk => (⟨hk, hk.2⟩ : _ ∧ k_ ≠ gb434))) (fun _ hk => hk.2) (.int .i64 (rd (rd_L1 l0 x8_1) t437))) (fun _ h => ⟨h.1.2, h.1.1⟩))) hg hat); have n1_ := am_ (blk_grown (g := gb426) (o := .cells #[.slice (some ad435) t423.length co10] 26 (0, 0)) (by refine Sh.pl ?_; refine blk_far ?_ NB426_434.out _; refine Sh.pl ?_; exact BK426.out) hg (Kd.R_ne HO_11.out BK426.out (by decide))); have n2_ := am_ (blk_grown (g := gb434) (o := .cells #[.int .i64 (rd (rd_L1 l0 x8_1) t437)] 3 (0, 0)) (by refine Sh.pl ?_; refine blk_put (cs := #[.int .i64 x8_1]) ?_ 0 _ rfl; refine Sh.pl ?_; exact BK434.out) hg (Kd.R_away HO_11.out (fun _ hk => hk.2))); have n3_ := am_ hb; have n4_ := am_ ho; clear HO_427000; clear BK426; clear BK434; clear HB; clear HO_11; have HO_427000 := n0_; have BK426 := n1_; have BK434 := n2_; have HB := n3_; have HO442 := n4_; clear n0_ n1_ n2_ n3_ n4_; clear ho hb hg hat; have hcz46_0 := Sh.bc BK434.out 0; have hfz46_0 := blk_frozen BK434.out 0) | ((with_reducible refine Sh.d 12 ?_); refine Sh.bx (N := 12) (cs := #[.int .i64 0]) (t := 3) (h := ?_); intro gb443 hg w47 hbox hb; replace HO_427000 := am_ (Kd.R_below (Kd.R_elderB (Sh.rl HO_427000.out) gb443 (Nat.le_of_eq hg.symm)) hb); replace HO442 := am_ (Kd.R_below (Kd.R_elderB (Sh.rl HO442.out) gb443 (Nat.le_of_eq hg.symm)) hb); have BK443 := am_ hbox; have GE443 := Sh.ag w hg; replace HB := Sh.hb hb; have NB426_443 := am_ (Sh.nl hg BK426.out); have NB443_426 := am_ (Sh.ng hg BK426.out); replace BK426 := Sh.ab BK426 hb; have NB434_443 := am_ (Sh.nl hg BK434.out); have NB443_434 := am_ (Sh.ng hg BK434.out); replace BK434 := Sh.ab BK434 hb; clear hb hbox hg; have hnb48 := NB443_426.out; have hnc48 := NB426_443.out; have hnb49 := NB443_434.out; have hnc49 := NB434_443.out; have hcz50_0 := Sh.bc BK443.out 0; have hfz50_0 := blk_frozen BK443.out 0)))
              go_roundg k2
              case measure => have := HK1.out; have := HK2.out; omega
              case rel => exact ⟨gb443, (rd (rd_L1 l0 x8_1) t437), (y440), rfl, H', ⟨by have := HK1.out; have := HK2.out; omega⟩, ⟨Sh.rl (Kd.R_mono (Kd.R_far (p := ⟨gb443, 0, none⟩) (Kd.R_mono HO442.out (fun k_ hk => (⟨hk, hk.2⟩ : _ ∧ k_ ≠ gb443))) (fun _ hk => hk.2) (.int .i64 (rd (rd_L1 l0 x8_1) t437))) (fun _ h => ⟨h.1.1.1, h.2⟩))⟩, ⟨Sh.rl (Kd.R_mono (Kd.R_far (p := ⟨gb443, 0, none⟩) (Kd.R_mono HO_427000.out (fun k_ hk => (⟨hk, hk.2⟩ : _ ∧ k_ ≠ gb443))) (fun _ hk => hk.2) (.int .i64 (rd (rd_L1 l0 x8_1) t437))) (fun _ h => ⟨h.1.1.2, h.2⟩))⟩, ⟨by refine Sh.pl ?_; refine blk_far ?_ NB426_443.out _; refine Sh.pl ?_; exact BK426.out⟩, ⟨by refine Sh.pl ?_; refine blk_put (cs := #[.int .i64 0]) ?_ 0 _ rfl; refine Sh.pl ?_; exact BK443.out⟩, ⟨Sh.bw⟩, NB426_443, NB443_426, GE443, ⟨by rw [Ny440.out]; simp⟩⟩
             ·rw [if_neg c39] at H
              cases H
            ·rw [if_neg c38] at H
             cases H
           ·rw [if_neg c37] at H
            cases H
          ·rw [if_neg c35] at H
           cases H
         ·rw [if_neg c34] at H
          have c34b0 : decide (0 < (rd t423 x8_1)) = false := decide_eq_false c34
          clear c34
          obtain rfl := Option.some.inj H
          have hnb51 := NB426_434.out
          have hnc51 := NB434_426.out
          have hcz52_0 := Sh.bc BK426.out 0
          have hfz52_0 := blk_frozen BK426.out 0
          have hcz53_0 := Sh.bc BK434.out 0
          have hfz53_0 := blk_frozen BK434.out 0
          have p435 : 0 ≤ (x8_1 : Int) := Sh.od
          have q435 : x8_1 < (t423.length : Int) := Sh.od
          obtain ⟨ad435, e435, hx435_0⟩ := Kd.at_int (Kd.R_reads' HO_427000.out).2.2 x8_1 p435 q435
          cases e435
          replace p435 := eq_true p435
          replace q435 := eq_true q435
          go_wp2
          repeat (go_quiet (fail); try go_wp2)
          go_ret
          exact ⟨_, Sh.eR, fun h_ => by have h1_ := LE11.out; rw [h_] at h1_; exact absurd h1_ (by simp), Sh.rl (Kd.R_mono HO_11.out (fun _ hk => trivial)), Sh.bw⟩
        ·rw [if_neg c33] at H
         cases H
       ·rw [if_neg c32] at H
        cases H

theorem impl_leastWay.calls (k : Nat) (A0 : Option Addr) (c0 : Nat) (l0 : List (List Int)) (A1 : Option Addr) (c1 : Nat) (l1 : List Int) (A2 : Option Addr) (c2 : Nat) (l2 : List Int) (r : List Int) (w : World) (hr0 : Kd.C (Kd.slice 3 (Kd.int .i64)) w A0 l0.length l0) (hc0 : l0.length ≤ c0) (hr1 : Kd.C (Kd.int .i64) w A1 l1.length l1) (hc1 : l1.length ≤ c1) (hr2 : Kd.C (Kd.int .i64) w A2 l2.length l2) (hc2 : l2.length ≤ c2) (h : impl_leastWay.f k l0 l1 l2 = some r) :
  Calls Try.prog 61 #[.slice A0 l0.length c0, .slice A1 l1.length c1, .slice A2 l2.length c2] w fun e w' => ∃ v0_ : Value, e = .returned (v0_) ∧ Kd.R (Kd.int .i64) 3 w' w.heap.size (fun _ => True) v0_ r ∧ Below w.heap.size w w' := by
 refine (impl_leastWay.calls2 k A0 c0 l0 A1 c1 l1 A2 c2 l2 r w hr0 hc0 hr1 hc1 hr2 hc2 h).mono fun e w' h_ => ?_
 obtain ⟨v, h1, _, h2⟩ := h_
 exact ⟨v, h1, h2⟩
mutual
def impl_inside.l0 : Nat → List Int → Int → List (List Int) → List (List Int) → Int → Int → Option ((List (List Int)))
 | 0, _, _, _, _, _, _ => none
 | k + 1, x1, x2, x7, x15, x16, x17 => if x17 < x16 then (if 0 ≤ x17 then (if x17 < (x15.length : Int) then (impl_inside.l1 k x1 x2 x7 x17 x15 x16 x17 (rd_L1 x15 x17) ((rd_L1 x15 x17).length : Int) 0) else (none)) else (none)) else (some x7)
def impl_inside.l1 : Nat → List Int → Int → List (List Int) → Int → List (List Int) → Int → Int → List Int → Int → Int → Option ((List (List Int)))
 | 0, _, _, _, _, _, _, _, _, _, _ => none
 | k + 1, x1, x2, x7, x8, x15, x16, x17, x22, x23, x24 => if x24 < x23 then (if 0 ≤ x24 then (if x24 < (x22.length : Int) then (if 0 ≤ x8 then (if x8 < (x1.length : Int) then (if (rd x1 x8) = x2 then (if 0 ≤ (rd x22 x24) then (if (rd x22 x24) < (x1.length : Int) then (if (rd x1 (rd x22 x24)) = x2 then (if x8 < (x7.length : Int) then (if (rd_L1 x7 x8).length < 17592186044416 then (impl_inside.l1 k x1 x2 (x7.set (x8 : Int).toNat ((rd_L1 x7 x8) ++ [rd x22 x24])) x8 x15 x16 x17 x22 x23 (wrap64 (x24 + 1))) else (none)) else (none)) else (impl_inside.l1 k x1 x2 x7 x8 x15 x16 x17 x22 x23 (wrap64 (x24 + 1)))) else (none)) else (none)) else (impl_inside.l1 k x1 x2 x7 x8 x15 x16 x17 x22 x23 (wrap64 (x24 + 1)))) else (none)) else (none)) else (none)) else (none)) else (impl_inside.l0 k x1 x2 x7 x15 x16 (wrap64 (x17 + 1)))
end
def impl_inside.f (k : Nat) (l0 : List (List Int)) (l1 : List Int) (a2 : Int) : Option ((List (List Int))) := if 0 ≤ (l0.length : Int) then (if ((l0.length : Int) : Int).toNat ≤ 11728124029610 then (impl_inside.l0 k l1 a2 (List.replicate ((l0.length : Int) : Int).toNat []) l0 (l0.length : Int) 0) else (none)) else (none)
theorem impl_inside.mono_l : ∀ k, (∀ y0 y1 y2 y3 y4 y5, LeO (impl_inside.l0 k y0 y1 y2 y3 y4 y5) (impl_inside.l0 (k + 1) y0 y1 y2 y3 y4 y5)) ∧ (∀ y0 y1 y2 y3 y4 y5 y6 y7 y8 y9, LeO (impl_inside.l1 k y0 y1 y2 y3 y4 y5 y6 y7 y8 y9) (impl_inside.l1 (k + 1) y0 y1 y2 y3 y4 y5 y6 y7 y8 y9))
 | 0 => ⟨fun _ _ _ _ _ _ r h => by simp [impl_inside.l0] at h, fun _ _ _ _ _ _ _ _ _ _ r h => by simp [impl_inside.l1] at h⟩
 | k + 1 => by
  obtain ⟨ih0, ih1⟩ := impl_inside.mono_l k
  and_intros <;> intros
  all_goals (first | unfold impl_inside.l0 | unfold impl_inside.l1)
  all_goals repeat' with_reducible first | apply ih0 | apply ih1 | exact LeO.refl _ | exact LeO.none _ | apply LeO.ite | refine LeO.bind ?_ fun _ => ?_
theorem impl_inside.mono : ∀ a0 a1 a2 k, LeO (impl_inside.f k a0 a1 a2) (impl_inside.f (k + 1) a0 a1 a2) := by
 intro a0 a1 a2 k
 obtain ⟨ih0, ih1⟩ := impl_inside.mono_l k
 unfold impl_inside.f
 repeat' with_reducible first | apply ih0 | apply ih1 | exact LeO.refl _ | exact LeO.none _ | apply LeO.ite | refine LeO.bind ?_ fun _ => ?_
theorem impl_inside.calls (k : Nat) (A0 : Option Addr) (c0 : Nat) (l0 : List (List Int)) (A1 : Option Addr) (c1 : Nat) (l1 : List Int) (a2 : Int) (r : List (List Int)) (w : World) (hr0 : Kd.C (Kd.slice 3 (Kd.int .i64)) w A0 l0.length l0) (hc0 : l0.length ≤ c0) (hr1 : Kd.C (Kd.int .i64) w A1 l1.length l1) (hc1 : l1.length ≤ c1) (h : impl_inside.f k l0 l1 a2 = some r) :
  Calls Try.prog 62 #[.slice A0 l0.length c0, .slice A1 l1.length c1, .int .i64 a2] w fun e w' => ∃ v0_ : Value, e = .returned (v0_) ∧ Kd.S (Kd.slice 3 (Kd.int .i64)) 26 w' w.heap.size (fun _ => True) v0_ r ∧ Below w.heap.size w w' := by
 have HR0 := am_ hr0
 have HC0 := am_ hc0
 clear hr0 hc0
 have HR1 := am_ hr1
 have HC1 := am_ hc1
 clear hr1 hc1
 have HB := am_ (Below.refl w.heap.size w)
 have H := h
 clear h
 unfold impl_inside.f at H
 by_cases c4 : 0 ≤ (l0.length : Int)
 ·rw [if_pos c4] at H
  have c4b0 := eq_true c4
  have c4b1 := decide_eq_true c4
  clear c4
  by_cases c5 : ((l0.length : Int) : Int).toNat ≤ 11728124029610
  ·rw [if_pos c5] at H
   have c5b0 := eq_true c5
   have c5b1 := decide_eq_true c5
   clear c5
   obtain ⟨y444, hy444⟩ : ∃ y_ : List (List Int), y_ = (List.replicate ((l0.length : Int) : Int).toNat []) := ⟨_, rfl⟩
   replace H : (impl_inside.l0 k l1 a2 y444 l0 (l0.length : Int) 0) = some r := by first | (rw [hy444]; with_reducible exact H) | (have H2_ := (Option.bind_some _ _).symm.trans H; rw [hy444]; with_reducible exact H2_) | (have H2_ := (Option.bind_some _ _).symm.trans H; with_reducible exact H2_) | with_reducible exact H | (rw [hy444]; exact H) | exact H
   have Ny444 := am_ hy444
   clear hy444
   have H' := am_ H
   clear H
   go_enter Try.func62, Try.ntmps62
   go_wp2_with (first | ((with_reducible refine Sh.d 14 ?_); refine Kd.S_make (Kd.slice 3 (Kd.int .i64)) _ 26 rfl (N := 14) rfl 22 _ _ rfl (l0.length : Int) rfl rfl Try.underlying22 (.slice none 0 0) 24 info26 rfl (by decide) (by omega) [] (ok := fun _ => True) (okp := fun _ => True) ⟨_, rfl, Kd.R_nil _ _ _ _ _⟩ (fun _ hk => hk) trivial (of_decide_eq_true (by first | (with_reducible assumption) | assumption)) (Nat.le_trans (Nat.mul_le_mul_right _ (of_decide_eq_true (by first | (with_reducible assumption) | assumption) : (l0.length : Int).toNat ≤ 11728124029610)) (by omega)) (Below.refl _ _) (Nat.le_refl _) ?_; intro v445 w6 ho7 hb hg_ hnew_; clear hg_ hnew_; (first | rw [← Ny444.out] at ho7 | (simp only [Int.reduceToNat] at ho7; rw [← Ny444.out] at ho7)); have HO446 := am_ (Kd.S_lower ho7 (below_size Sh.bw)); replace HB := Sh.hb hb; clear hb ho7))
   go_loopg [17] k (fun kq v17 w' => ∃ (x7_1 : List (List Int)) (x17_1 : Int), v17 = .int .i64 x17_1 ∧ Aside0 (impl_inside.l0 kq l1 a2 x7_1 l0 (l0.length : Int) x17_1 = some r) ∧ Aside0 (kq ≤ k) ∧ Aside0 (Kd.S (Kd.slice 3 (Kd.int .i64)) 26 w' w.heap.size (fun _ => True) v445 x7_1) ∧ Aside0 (Below w.heap.size w w'))
   case atStart => exact ⟨(y444), (0), (Sh.es), H', ⟨Nat.le_refl _⟩, ⟨by (with_reducible repeat (first | apply Kd.S_alloc | apply Kd.S_drewN | apply Kd.S_drew)); exact HO446.out⟩, ⟨Sh.bw⟩⟩
   case round =>
    clear H'
    obtain ⟨x7_1, x17_1, rfl, HA, HK1, HO_7, HB⟩ := hrel
    cases gk with
    | zero => exact absurd HA.out (by simp [impl_inside.l0])
    | succ k1 =>
     have H := HA.out
     clear HA
     simp only [impl_inside.l0] at H
     by_cases c8 : x17_1 < (l0.length : Int)
     ·rw [if_pos c8] at H
      replace c8 := decide_eq_true c8
      by_cases c9 : 0 ≤ x17_1
      ·rw [if_pos c9] at H
       replace c9 := decide_eq_true c9
       by_cases c10 : x17_1 < (l0.length : Int)
       ·rw [if_pos c10] at H
        replace c10 := decide_eq_true c10
        have H' := am_ H
        clear H
        have p447 : 0 ≤ (x17_1 : Int) := Sh.od
        have q447 : x17_1 < (l0.length : Int) := Sh.od
        obtain ⟨ad447, A447_0, c447_0, e447, hx447_0, hl447_0, hi447_0⟩ := at_L1 HR0.out x17_1 p447 q447
        cases e447
        try replace hx447_0 := Sh.cw hx447_0
        have HR447_0 := am_ hi447_0
        have HC447_0 := am_ hl447_0
        clear hi447_0 hl447_0
        replace p447 := eq_true p447
        replace q447 := eq_true q447
        go_wp2
        go_loopg [24] k1 (fun kq v24 w' => ∃ (x7_2 : List (List Int)) (x24_2 : Int), v24 = .int .i64 x24_2 ∧ Aside0 (impl_inside.l1 kq l1 a2 x7_2 x17_1 l0 (l0.length : Int) x17_1 (rd_L1 l0 x17_1) ((rd_L1 l0 x17_1).length : Int) x24_2 = some r) ∧ Aside0 (kq ≤ k1) ∧ Aside0 (Kd.S (Kd.slice 3 (Kd.int .i64)) 26 w' w.heap.size (fun _ => True) v445 x7_2) ∧ Aside0 (Below w.heap.size w w'))
        case atStart => exact ⟨(x7_1), (0), (Sh.es), H', ⟨Nat.le_refl _⟩, ⟨by (with_reducible repeat (first | apply Kd.S_alloc | apply Kd.S_drewN | apply Kd.S_drew)); exact HO_7.out⟩, ⟨Sh.bw⟩⟩
        case round =>
         clear H'
         try clear hx4
         try clear hx447_0
         obtain ⟨x7_2, x24_2, rfl, HA, HK2, HO_7, HB⟩ := hrel
         cases gk with
         | zero => exact absurd HA.out (by simp [impl_inside.l1])
         | succ k2 =>
          have H := HA.out
          clear HA
          simp only [impl_inside.l1] at H
          by_cases c11 : x24_2 < ((rd_L1 l0 x17_1).length : Int)
          ·rw [if_pos c11] at H
           replace c11 := decide_eq_true c11
           by_cases c12 : 0 ≤ x24_2
           ·rw [if_pos c12] at H
            replace c12 := decide_eq_true c12
            by_cases c13 : x24_2 < ((rd_L1 l0 x17_1).length : Int)
            ·rw [if_pos c13] at H
             replace c13 := decide_eq_true c13
             by_cases c14 : 0 ≤ x17_1
             ·rw [if_pos c14] at H
              replace c14 := decide_eq_true c14
              by_cases c15 : x17_1 < (l1.length : Int)
              ·rw [if_pos c15] at H
               replace c15 := decide_eq_true c15
               by_cases c16 : (rd l1 x17_1) = a2
               ·rw [if_pos c16] at H
                have c16b0 : ((rd l1 x17_1) == a2) = true := beq_iff_eq.mpr c16
                have c16b1 : ((rd l1 x17_1) != a2) = false := bne_eq_false_iff_eq.mpr c16
                clear c16
                by_cases c17 : 0 ≤ (rd (rd_L1 l0 x17_1) x24_2)
                ·rw [if_pos c17] at H
                 replace c17 := decide_eq_true c17
                 by_cases c18 : (rd (rd_L1 l0 x17_1) x24_2) < (l1.length : Int)
                 ·rw [if_pos c18] at H
                  replace c18 := decide_eq_true c18
                  by_cases c19 : (rd l1 (rd (rd_L1 l0 x17_1) x24_2)) = a2
                  ·rw [if_pos c19] at H
                   have c19b0 : ((rd l1 (rd (rd_L1 l0 x17_1) x24_2)) == a2) = true := beq_iff_eq.mpr c19
                   have c19b1 : ((rd l1 (rd (rd_L1 l0 x17_1) x24_2)) != a2) = false := bne_eq_false_iff_eq.mpr c19
                   clear c19
                   by_cases c20 : x17_1 < (x7_2.length : Int)
                   ·rw [if_pos c20] at H
                    replace c20 := decide_eq_true c20
                    by_cases c21 : (rd_L1 x7_2 x17_1).length < 17592186044416
                    ·rw [if_pos c21] at H
                     have LMc21 := am_ c21
                     clear c21
                     obtain ⟨y452, hy452⟩ : ∃ y_ : List Int, y_ = ((rd_L1 x7_2 x17_1) ++ [rd (rd_L1 l0 x17_1) x24_2]) := ⟨_, rfl⟩
                     replace H : (impl_inside.l1 k2 l1 a2 (x7_2.set (x17_1 : Int).toNat y452) x17_1 l0 (l0.length : Int) x17_1 (rd_L1 l0 x17_1) ((rd_L1 l0 x17_1).length : Int) (wrap64 (x24_2 + 1))) = some r := by first | (rw [hy452]; with_reducible exact H) | (have H2_ := (Option.bind_some _ _).symm.trans H; rw [hy452]; with_reducible exact H2_) | (have H2_ := (Option.bind_some _ _).symm.trans H; with_reducible exact H2_) | with_reducible exact H | (rw [hy452]; exact H) | exact H
                     have Ny452 := am_ hy452
                     clear hy452
                     obtain ⟨y455, hy455⟩ : ∃ y_ : List (List Int), y_ = (x7_2.set (x17_1 : Int).toNat y452) := ⟨_, rfl⟩
                     replace H : (impl_inside.l1 k2 l1 a2 y455 x17_1 l0 (l0.length : Int) x17_1 (rd_L1 l0 x17_1) ((rd_L1 l0 x17_1).length : Int) (wrap64 (x24_2 + 1))) = some r := by first | (rw [hy455]; with_reducible exact H) | (have H2_ := (Option.bind_some _ _).symm.trans H; rw [hy455]; with_reducible exact H2_) | (have H2_ := (Option.bind_some _ _).symm.trans H; with_reducible exact H2_) | with_reducible exact H | (rw [hy455]; exact H) | exact H
                     have Ny455 := am_ hy455
                     clear hy455
                     have H' := am_ H
                     clear H
                     have p448 : 0 ≤ (x24_2 : Int) := Sh.od
                     have q448 : x24_2 < ((rd_L1 l0 x17_1).length : Int) := Sh.od
                     obtain ⟨ad448, e448, hx448_0⟩ := Kd.at_int HR447_0.out x24_2 p448 q448
                     cases e448
                     try replace hx448_0 := Sh.cw hx448_0
                     replace p448 := eq_true p448
                     replace q448 := eq_true q448
                     have p449 : 0 ≤ (x17_1 : Int) := Sh.od
                     have q449 : x17_1 < (l1.length : Int) := Sh.od
                     obtain ⟨ad449, e449, hx449_0⟩ := Kd.at_int HR1.out x17_1 p449 q449
                     cases e449
                     try replace hx449_0 := Sh.cw hx449_0
                     replace p449 := eq_true p449
                     replace q449 := eq_true q449
                     have p450 : 0 ≤ ((rd (rd_L1 l0 x17_1) x24_2) : Int) := Sh.od
                     have q450 : (rd (rd_L1 l0 x17_1) x24_2) < (l1.length : Int) := Sh.od
                     obtain ⟨ad450, e450, hx450_0⟩ := Kd.at_int HR1.out (rd (rd_L1 l0 x17_1) x24_2) p450 q450
                     obtain rfl : ad449 = ad450 := (by injection e450)
                     try replace hx450_0 := Sh.cw hx450_0
                     replace p450 := eq_true p450
                     replace q450 := eq_true q450
                     obtain ⟨Ao23, co23, eo23⟩ := Kd.S_slice HO_7.out
                     subst eo23
                     have p451 : 0 ≤ (x17_1 : Int) := Sh.od
                     have q451 : x17_1 < (x7_2.length : Int) := Sh.od
                     obtain ⟨ad451, A451_0, c451_0, e451, hx451_0, hl451_0, hi451_0⟩ := at_L1 (Kd.S_reads' HO_7.out).2.2 x17_1 p451 q451
                     cases e451
                     obtain ⟨ce451, hce451, hMe451, hcc451⟩ := Kd.S_get HO_7.out [] x17_1 p451 (by first | exact q451 | exact of_decide_eq_true (by first | (with_reducible assumption) | assumption) | (have e_ := (Kd.S_reads' HO_7.out).1; omega))
                     obtain ⟨ve451_0, rfl, ge451_0⟩ := hMe451
                     have hv451_0 := hcc451 0 _ rfl
                     rw [Nat.add_zero, show ((Kd.slice 3 (Kd.int .i64))).sz = 1 from rfl, Nat.mul_one] at hv451_0
                     replace hv451_0 := Option.some.inj (hv451_0.symm.trans hx451_0)
                     rw [hv451_0] at ge451_0
                     have HL451_0 := am_ (show Kd.R (Kd.int .i64) 3 _ _ _ _ (rd_L1 x7_2 x17_1) from ge451_0)
                     clear hv451_0 ge451_0
                     have HX451_0 := am_ hx451_0
                     clear hcc451 hce451
                     have HR451_0 := am_ hi451_0
                     have HC451_0 := am_ hl451_0
                     clear hi451_0 hl451_0
                     replace p451 := eq_true p451
                     replace q451 := eq_true q451
                     obtain ⟨go24, co24, eo24, gb24, gl24, cl24, HG24⟩ := Kd.S_form HO_7.out (by have h_ : (x17_1 : Int) < ((x7_2.length : Int) : Int) := Sh.od; have h2_ : 0 ≤ (x17_1 : Int) := (of_decide_eq_true (by first | (with_reducible assumption) | assumption)); omega)
                     (first | cases eo24 | (injection eo24 with ea_ en_ ec_; (first | subst ea_ | (injection ea_ with ea_; subst ea_)); subst ec_; clear en_))
                     have GB24 := am_ gb24
                     have GG24 := am_ HG24
                     clear gb24 gl24 HG24
                     (first | simp only [add_plain] at hx451_0 | skip)
                     obtain ⟨oki24, ce24, hcl24, hM24, hcc24, _, _, hH24⟩ := Kd.S_elem HO_7.out [] (x17_1 : Int) (of_decide_eq_true (by first | (with_reducible assumption) | assumption)) (by have h_ : (x17_1 : Int) < ((x7_2.length : Int) : Int) := Sh.od; first | exact h_ | (have e_ := (Kd.S_reads' HO_7.out).1; omega) | simpa using h_)
                     obtain ⟨ve24_0, rfl, ge24_0⟩ := hM24
                     have hv24 := hcc24 0 _ rfl
                     have hX24 := HX451_0.out
                     (try simp only [add_plain] at hX24)
                     (try simp only [Nat.add_zero] at hv24)
                     (try rw [show ((Kd.slice 3 (Kd.int .i64))).sz = 1 from rfl, Nat.mul_one] at hv24)
                     replace hv24 := Option.some.inj (hv24.symm.trans hX24)
                     subst hv24
                     clear hX24 hcc24 hcl24
                     have UU24 := am_ (show Kd.R (Kd.int .i64) 3 _ w.heap.size oki24 (.slice A451_0 (rd_L1 x7_2 x17_1).length c451_0) (rd_L1 x7_2 x17_1) from ge24_0)
                     have HH24 := am_ hH24
                     have HN24 := am_ (Kd.S_reads' HO_7.out).1
                     clear hH24 ge24_0
                     go_wp2_with (first | ((with_reducible refine gate_builtin (b := .append) (xs := #[.tmp 47, .tmp 49]) rfl ?_); at_builtin; refine Kd.R_append (Kd.int .i64) (w0 := w) w.heap.size rfl (.tmp 47) (.tmp 49) 26 3 (.int .i64 0) 8 rfl Try.underlying26 info3 rfl (by decide) (by omega) (.slice A451_0 (rd_L1 x7_2 x17_1).length c451_0) (rd_L1 x7_2 x17_1) (rd (rd_L1 l0 x17_1) x24_2) [.int .i64 (rd (rd_L1 l0 x17_1) x24_2)] (fun k_ => oki24 k_ ∨ ((fun _ => True)) k_ ∧ wr.heap.size ≤ k_) (fun _ => False) rfl rfl ?aP (fun _ hk => hk.elim) ?aF ?aO ?aB ?aS ?aL ?_; (case aP => exact rfl); (case aB => exact Sh.bw); (case aF => exact (fun k_ hk => .inr ⟨trivial, hk⟩)); (case aO => exact (Sh.rl (Kd.R_mono UU24.out (fun _ hk => .inl hk)))); (case aS => exact (below_size Sh.bw)); (case aL => have := LMc21.out; omega); intro v453 w25 ho hb hg hat; rw [← Ny452.out] at ho; have n0_ := am_ hb; have n1_ := am_ (Kd.H_grown (Kd.H_widen (by repeat (first | exact HH24.out | refine Kd.H_alloc ?_ _ | refine Kd.H_drewN ?_ _ | refine Kd.H_drew ?_))) hg (fun k_ e_ => .inl (UU24.out.1 k_ e_))); have n2_ := am_ ho; clear HB; clear HH24; clear HO_7; clear UU24; clear HL451_0; have HB := n0_; have HH24 := n1_; have HO454 := n2_; clear n0_ n1_ n2_; clear ho hb hg hat; have p22 : 0 ≤ (x17_1 : Int) := Sh.od; have q22 : (x17_1 : Int) < ((x7_2.length : Int) : Int) := Sh.od; replace p22 := eq_true p22; replace q22 := eq_true q22; obtain ⟨Ao28, co28, eo28⟩ := Kd.R_slice HO454.out; subst eo28; obtain ⟨_, _, hraw26, _, _, hcc26, _⟩ := Kd.H_raw HH24.out (of_decide_eq_true (by first | (with_reducible assumption) | assumption)) (by have h_ : (x17_1 : Int) < ((x7_2.length : Int) : Int) := Sh.od; first | exact h_ | (have e_ := (HN24.out); omega) | simpa using h_); obtain ⟨_, hfr26⟩ := Kd.H_at HH24.out (of_decide_eq_true (by first | (with_reducible assumption) | assumption)) (by have h_ : (x17_1 : Int) < ((x7_2.length : Int) : Int) := Sh.od; first | exact h_ | (have e_ := (HN24.out); omega) | simpa using h_); have hx26_0 := hcc26 0 _ rfl; have hf26_0 := hfr26 0; (try simp only [Nat.add_zero] at hx26_0 hf26_0); (try rw [show ((Kd.slice 3 (Kd.int .i64))).sz = 1 from rfl, Nat.mul_one] at hx26_0); (try rw [show ((Kd.slice 3 (Kd.int .i64))).sz = 1 from rfl, Nat.mul_one] at hf26_0); have HP26 := Kd.S_seg0 HH24.out (of_decide_eq_true (by first | (with_reducible assumption) | assumption)) (by have h_ : (x17_1 : Int) < ((x7_2.length : Int) : Int) := Sh.od; first | exact h_ | (have e_ := (HN24.out); omega) | simpa using h_) (seg := [.slice Ao28 y452.length co28]) (j := 0) (show 1 ≤ 1 from by decide) (x' := y452) (Kd.M_row HO454.out) (fun _ hk => hk); (try simp only [show ((Kd.slice 3 (Kd.int .i64))).sz = 1 from rfl, Nat.mul_one, Nat.add_zero] at HP26); clear hcc26 hfr26) | ((with_reducible refine gate_store (t := 26) (p := 51) rfl ?_); refine store_event (t := 26) (p := 51) (v := ?vo_w27) (w1 := (w25.setCell ⟨go24, (x17_1 : Int).toNat, none⟩ (.slice Ao28 y452.length co28))) ?hg ?ho ?hn ?hr ?_; (case ho => rfl); (case hg => rfl); (case hn => rfl); (case hr => first | (go_simp; done) | (go_simp; rfl)); intro w27 hw; have hg : w25.grownBy w27 (some go24) := (by rw [hw]; exact HP26.2); have hp_ : Kd.S (Kd.slice 3 (Kd.int .i64)) 26 w27 w.heap.size (fun _ => True) (.slice (some ⟨go24, 0, none⟩) x7_2.length co23) y455 := (by rw [hw, Ny455.out]; exact HP26.1); clear HP26; have n0_ := am_ ((by rw [hw]; exact below_set HB.out GB24.out : Below w.heap.size w w27)); have n1_ := am_ hp_; clear HB; clear HO454; clear HH24; have HB := n0_; have HO_7 := n1_; clear n0_ n1_; clear hg hw hp_ hraw26))
                     go_roundg k2
                     case measure => have := HK1.out; have := HK2.out; omega
                     case rel => exact ⟨(y455), (wrap64 (x24_2 + 1)), (Sh.es), H', ⟨by have := HK1.out; have := HK2.out; omega⟩, ⟨by (with_reducible repeat (first | apply Kd.S_alloc | apply Kd.S_drewN | apply Kd.S_drew)); exact HO_7.out⟩, ⟨Sh.bw⟩⟩
                    ·rw [if_neg c21] at H
                     cases H
                   ·rw [if_neg c20] at H
                    cases H
                  ·rw [if_neg c19] at H
                   have c19b0 : ((rd l1 (rd (rd_L1 l0 x17_1) x24_2)) == a2) = false := beq_eq_false_iff_ne.mpr c19
                   have c19b1 : ((rd l1 (rd (rd_L1 l0 x17_1) x24_2)) != a2) = true := bne_iff_ne.mpr c19
                   have H' := am_ H
                   clear H
                   have p448 : 0 ≤ (x24_2 : Int) := Sh.od
                   have q448 : x24_2 < ((rd_L1 l0 x17_1).length : Int) := Sh.od
                   obtain ⟨ad448, e448, hx448_0⟩ := Kd.at_int HR447_0.out x24_2 p448 q448
                   cases e448
                   try replace hx448_0 := Sh.cw hx448_0
                   replace p448 := eq_true p448
                   replace q448 := eq_true q448
                   have p449 : 0 ≤ (x17_1 : Int) := Sh.od
                   have q449 : x17_1 < (l1.length : Int) := Sh.od
                   obtain ⟨ad449, e449, hx449_0⟩ := Kd.at_int HR1.out x17_1 p449 q449
                   cases e449
                   try replace hx449_0 := Sh.cw hx449_0
                   replace p449 := eq_true p449
                   replace q449 := eq_true q449
                   have p450 : 0 ≤ ((rd (rd_L1 l0 x17_1) x24_2) : Int) := Sh.od
                   have q450 : (rd (rd_L1 l0 x17_1) x24_2) < (l1.length : Int) := Sh.od
                   obtain ⟨ad450, e450, hx450_0⟩ := Kd.at_int HR1.out (rd (rd_L1 l0 x17_1) x24_2) p450 q450
                   obtain rfl : ad449 = ad450 := (by injection e450)
                   try replace hx450_0 := Sh.cw hx450_0
                   replace p450 := eq_true p450
                   replace q450 := eq_true q450
                   go_wp2
                   go_roundg k2
                   case measure => have := HK1.out; have := HK2.out; omega
                   case rel => exact ⟨(x7_2), (wrap64 (x24_2 + 1)), (Sh.es), H', ⟨by have := HK1.out; have := HK2.out; omega⟩, ⟨by (with_reducible repeat (first | apply Kd.S_alloc | apply Kd.S_drewN | apply Kd.S_drew)); exact HO_7.out⟩, ⟨Sh.bw⟩⟩
                 ·rw [if_neg c18] at H
                  cases H
                ·rw [if_neg c17] at H
                 cases H
               ·rw [if_neg c16] at H
                have c16b0 : ((rd l1 x17_1) == a2) = false := beq_eq_false_iff_ne.mpr c16
                have c16b1 : ((rd l1 x17_1) != a2) = true := bne_iff_ne.mpr c16
                have H' := am_ H
                clear H
                have p448 : 0 ≤ (x24_2 : Int) := Sh.od
                have q448 : x24_2 < ((rd_L1 l0 x17_1).length : Int) := Sh.od
                obtain ⟨ad448, e448, hx448_0⟩ := Kd.at_int HR447_0.out x24_2 p448 q448
                cases e448
                try replace hx448_0 := Sh.cw hx448_0
                replace p448 := eq_true p448
                replace q448 := eq_true q448
                have p449 : 0 ≤ (x17_1 : Int) := Sh.od
                have q449 : x17_1 < (l1.length : Int) := Sh.od
                obtain ⟨ad449, e449, hx449_0⟩ := Kd.at_int HR1.out x17_1 p449 q449
                cases e449
                try replace hx449_0 := Sh.cw hx449_0
                replace p449 := eq_true p449
                replace q449 := eq_true q449
                go_wp2
                go_roundg k2
                case measure => have := HK1.out; have := HK2.out; omega
                case rel => exact ⟨(x7_2), (wrap64 (x24_2 + 1)), (Sh.es), H', ⟨by have := HK1.out; have := HK2.out; omega⟩, ⟨by (with_reducible repeat (first | apply Kd.S_alloc | apply Kd.S_drewN | apply Kd.S_drew)); exact HO_7.out⟩, ⟨Sh.bw⟩⟩
              ·rw [if_neg c15] at H
               cases H
             ·rw [if_neg c14] at H
              cases H
            ·rw [if_neg c13] at H
             cases H
           ·rw [if_neg c12] at H
            cases H
          ·rw [if_neg c11] at H
           replace c11 := decide_eq_false c11
           have H' := am_ H
           clear H
           go_wp2
           go_roundg k2
           case measure => have := HK1.out; have := HK2.out; omega
           case rel => exact ⟨(x7_2), (wrap64 (x17_1 + 1)), (Sh.es), H', ⟨by have := HK1.out; have := HK2.out; omega⟩, ⟨by (with_reducible repeat (first | apply Kd.S_alloc | apply Kd.S_drewN | apply Kd.S_drew)); exact HO_7.out⟩, ⟨Sh.bw⟩⟩
       ·rw [if_neg c10] at H
        cases H
      ·rw [if_neg c9] at H
       cases H
     ·rw [if_neg c8] at H
      replace c8 := decide_eq_false c8
      obtain rfl := Option.some.inj H
      go_wp2
      go_ret
      exact ⟨_, Sh.eR, by (with_reducible repeat (first | apply Kd.S_alloc | apply Kd.S_drewN | apply Kd.S_drew)); exact HO_7.out, Sh.bw⟩
  ·rw [if_neg c5] at H
   cases H
 ·rw [if_neg c4] at H
  cases H
end Go.Proofs.Ytnfpolhpanpeiaa.P
