/- Go functions of this seat as Lean functions, and the proofs that the calls come to what these say; printed by a program of this session. No condition. -/
import Derived.Test.YtjnolbjaagmooaaP0
import Derived.Test.YtjnolbjaagmooaaMFnExactStepBy1
set_option linter.unusedVariables false
set_option linter.unusedSimpArgs false
namespace Go.Proofs.Ytjnolbjaagmooaa.P
open Go.RowKit Go.Proofs.YtjnolbjaagmooaaW.PrintWords Go.Proofs.YtjnolbjaagmooaaW.PrintLast Go.Proofs.YtjnolbjaagmooaaW.PrintMore Go.Proofs.Ytjnolbjaagmooaa.Hof
attribute [local go_sem] max2_int min2_int max_two min_two max_three min_three max_four min_four
mutual
def spec_l2Kind.j0 : Nat → Int → Int → List (S80) → Bool → Option (Int)
 | 0, _, _, _, _ => none
 | k + 1, x0, x1, x2, x26 => if x26 = true then (some 0) else (spec_l2Kind.l0 k x0 x1 ([] : List Int) x2 (x2.length : Int) 0)
def spec_l2Kind.l0 : Nat → Int → Int → List Int → List (S80) → Int → Int → Option (Int)
 | 0, _, _, _, _, _, _ => none
 | k + 1, x0, x1, x7, x27, x28, x29 => if x29 < x28 then (if 0 ≤ x29 then (if x29 < (x27.length : Int) then ((spec_l2Need.f k ((rd_T80 x27 x29).f0)).bind fun bt216 => (if bt216.2.2 = 0 then (spec_l2Kind.j2 k x0 x1 x7 bt216.1 bt216.2.1 bt216.2.2 x27 x28 x29 true) else ((spec_l2N.f k x0 x1 ((rd_T80 x27 x29).f0) ((rd_T80 x27 x29).f1)).bind fun t219 => (if t219 = true then (spec_l2Kind.j2 k x0 x1 x7 bt216.1 bt216.2.1 bt216.2.2 x27 x28 x29 (decide ((x7.length : Int) < bt216.1))) else (spec_l2Kind.j2 k x0 x1 x7 bt216.1 bt216.2.1 bt216.2.2 x27 x28 x29 true))))) else (none)) else (none)) else (if (x7.length : Int) = 1 then (if 0 < (x7.length : Int) then (some (rd x7 0)) else (none)) else (some 0))
def spec_l2Kind.j2 : Nat → Int → Int → List Int → Int → Int → Int → List (S80) → Int → Int → Bool → Option (Int)
 | 0, _, _, _, _, _, _, _, _, _, _ => none
 | k + 1, x0, x1, x7, x10, x11, x12, x27, x28, x29, x54 => if x54 = true then (some 0) else (spec_l2Kind.l1 k x0 x1 x7 x10 x11 x12 x27 x28 x29)
def spec_l2Kind.l1 : Nat → Int → Int → List Int → Int → Int → Int → List (S80) → Int → Int → Option (Int)
 | 0, _, _, _, _, _, _, _, _, _ => none
 | k + 1, x0, x1, x7, x10, x11, x12, x27, x28, x29 => if x10 > 0 then (if 0 ≤ (wrap64 ((x7.length : Int) - 1)) then (if (wrap64 ((x7.length : Int) - 1)) < (x7.length : Int) then (if (rd x7 (wrap64 ((x7.length : Int) - 1))) = x11 then (if (wrap64 ((x7.length : Int) - 1)) ≤ (x7.length : Int) then (spec_l2Kind.l1 k x0 x1 (x7.take ((wrap64 ((x7.length : Int) - 1)) : Int).toNat) (wrap64 (x10 - 1)) x11 x12 x27 x28 x29) else (none)) else (some 0)) else (none)) else (none)) else (if x7.length < 17592186044416 then (spec_l2Kind.l0 k x0 x1 (x7 ++ [x12]) x27 x28 (wrap64 (x29 + 1))) else (none))
end
def spec_l2Kind.f (k : Nat) (a0 : Int) (a1 : Int) (l2 : List (S80)) : Option (Int) := (spec_l1Wide.f a0).bind fun t210 => (if t210 = true then ((spec_l1In.f a1 1 4).bind fun t211 => (if t211 = true then ((spec_l1In.f (l2.length : Int) 1 48).bind fun t212 => (spec_l2Kind.j0 k a0 a1 l2 (!t212))) else (spec_l2Kind.j0 k a0 a1 l2 true))) else (spec_l2Kind.j0 k a0 a1 l2 true))
theorem spec_l2Kind.mono_l : ∀ k, (∀ y0 y1 y2 y3, LeO (spec_l2Kind.j0 k y0 y1 y2 y3) (spec_l2Kind.j0 (k + 1) y0 y1 y2 y3)) ∧ (∀ y0 y1 y2 y3 y4 y5, LeO (spec_l2Kind.l0 k y0 y1 y2 y3 y4 y5) (spec_l2Kind.l0 (k + 1) y0 y1 y2 y3 y4 y5)) ∧ (∀ y0 y1 y2 y3 y4 y5 y6 y7 y8 y9, LeO (spec_l2Kind.j2 k y0 y1 y2 y3 y4 y5 y6 y7 y8 y9) (spec_l2Kind.j2 (k + 1) y0 y1 y2 y3 y4 y5 y6 y7 y8 y9)) ∧ (∀ y0 y1 y2 y3 y4 y5 y6 y7 y8, LeO (spec_l2Kind.l1 k y0 y1 y2 y3 y4 y5 y6 y7 y8) (spec_l2Kind.l1 (k + 1) y0 y1 y2 y3 y4 y5 y6 y7 y8))
 | 0 => ⟨fun _ _ _ _ r h => by simp [spec_l2Kind.j0] at h, fun _ _ _ _ _ _ r h => by simp [spec_l2Kind.l0] at h, fun _ _ _ _ _ _ _ _ _ _ r h => by simp [spec_l2Kind.j2] at h, fun _ _ _ _ _ _ _ _ _ r h => by simp [spec_l2Kind.l1] at h⟩
 | k + 1 => by
  obtain ⟨ih0, ih1, ih2, ih3⟩ := spec_l2Kind.mono_l k
  and_intros <;> intros
  all_goals (first | unfold spec_l2Kind.j0 | unfold spec_l2Kind.l0 | unfold spec_l2Kind.j2 | unfold spec_l2Kind.l1)
  all_goals repeat' with_reducible first | apply ih0 | apply ih1 | apply ih2 | apply ih3 | apply spec_l2N.mono | apply spec_l2Need.mono | exact LeO.refl _ | exact LeO.none _ | apply LeO.ite | refine LeO.bind ?_ fun _ => ?_
theorem spec_l2Kind.mono : ∀ a0 a1 a2 k, LeO (spec_l2Kind.f k a0 a1 a2) (spec_l2Kind.f (k + 1) a0 a1 a2) := by
 intro a0 a1 a2 k
 obtain ⟨ih0, ih1, ih2, ih3⟩ := spec_l2Kind.mono_l k
 unfold spec_l2Kind.f
 repeat' with_reducible first | apply ih0 | apply ih1 | apply ih2 | apply ih3 | apply spec_l2N.mono | apply spec_l2Need.mono | exact LeO.refl _ | exact LeO.none _ | apply LeO.ite | refine LeO.bind ?_ fun _ => ?_
set_option maxHeartbeats 8000000 in
set_option maxRecDepth 100000 in
theorem spec_l2Kind.calls (k : Nat) (a0 : Int) (a1 : Int) (A2 : Option Addr) (c2 : Nat) (l2 : List (S80)) (r : Int) (w : World) (hr2 : Kd.C k80 w A2 l2.length l2) (hc2 : l2.length ≤ c2) (h : spec_l2Kind.f k a0 a1 l2 = some r) :
  Calls Try.prog 73 #[.int .i64 a0, .int .i64 a1, .slice A2 l2.length c2] w fun e w' => e = .returned (.int .i64 r) ∧ Below w.heap.size w w' := by
 have hu80 := Try.underlying80
 have HR2 := am_ hr2
 have HC2 := am_ hc2
 clear hr2 hc2
 have HB := am_ (Below.refl w.heap.size w)
 have H := h
 clear h
 unfold spec_l2Kind.f at H
 have HC4 := am_ H
 clear H
 go_enter Try.func73, Try.ntmps73
 go_upto_region 1 with (fail)
 go_cut [26] (fun v26 wc => ∃ (kq : Nat) (x26_3 : Bool), v26 = .bool x26_3 ∧ Aside0 (spec_l2Kind.j0 kq a0 a1 l2 x26_3 = some r) ∧ Aside0 (kq ≤ k) ∧ Aside0 (Below w.heap.size w wc))
 case first =>
  have H := HC4.out
  clear HC4
  obtain ⟨t210, A50, H⟩ := Sh.bd H
  have A5 := am_ A50
  clear A50
  by_cases c6 : t210 = true
  ·subst c6
   rw [if_pos rfl] at H
   obtain ⟨t211, A70, H⟩ := Sh.bd H
   have A7 := am_ A70
   clear A70
   by_cases c8 : t211 = true
   ·subst c8
    rw [if_pos rfl] at H
    obtain ⟨t212, A90, H⟩ := Sh.bd H
    have A9 := am_ A90
    clear A90
    have H' := am_ H
    clear H
    go_wp2_with (first | ((with_reducible refine gate_callee (f := 93) rfl ?_); refine Sh.gL (some 14) Try.func93 #[.int .i64 a0] (h := ?_); (with_reducible refine (spec_l1Wide.calls a0 true _ A5.out).mono ?_); rintro e w' ⟨rfl, ⟨nd, rfl⟩⟩; refine ⟨_, rfl, ?_⟩) | (go_at_call 60; (with_reducible refine (spec_l1In.calls a1 1 4 true _ A7.out).mono ?_); rintro e w' ⟨rfl, ⟨nd, rfl⟩⟩) | (go_at_call 60; (with_reducible refine (spec_l1In.calls (l2.length : Int) 1 48 t212 _ A9.out).mono ?_); rintro e w' ⟨rfl, ⟨nd, rfl⟩⟩))
    go_meet
    case rel => exact ⟨_, (!t212), (Sh.es), H', ⟨Sh.om⟩, ⟨Sh.bw⟩⟩
   ·replace c8 := Bool.eq_false_iff.mpr c8
    subst c8
    rw [Sh.nf] at H
    have H' := am_ H
    clear H
    go_wp2_with (first | ((with_reducible refine gate_callee (f := 93) rfl ?_); refine Sh.gL (some 14) Try.func93 #[.int .i64 a0] (h := ?_); (with_reducible refine (spec_l1Wide.calls a0 true _ A5.out).mono ?_); rintro e w' ⟨rfl, ⟨nd, rfl⟩⟩; refine ⟨_, rfl, ?_⟩) | (go_at_call 60; (with_reducible refine (spec_l1In.calls a1 1 4 false _ A7.out).mono ?_); rintro e w' ⟨rfl, ⟨nd, rfl⟩⟩))
    go_meet
    case rel => exact ⟨_, (true), (Sh.es), H', ⟨Sh.om⟩, ⟨Sh.bw⟩⟩
  ·replace c6 := Bool.eq_false_iff.mpr c6
   subst c6
   rw [Sh.nf] at H
   have H' := am_ H
   clear H
   go_wp2_with (first | ((with_reducible refine gate_callee (f := 93) rfl ?_); refine Sh.gL (some 14) Try.func93 #[.int .i64 a0] (h := ?_); (with_reducible refine (spec_l1Wide.calls a0 false _ A5.out).mono ?_); rintro e w' ⟨rfl, ⟨nd, rfl⟩⟩; refine ⟨_, rfl, ?_⟩))
   go_meet
   case rel => exact ⟨_, (true), (Sh.es), H', ⟨Sh.om⟩, ⟨Sh.bw⟩⟩
 case rest =>
  clear HC4
  try clear c2
  try clear p2
  try clear c6
  try clear c7
  try clear c8
  try clear c9
  obtain ⟨kq, x26_3, rfl, HA, HJ3, HB⟩ := hcut
  cases kq with
  | zero => exact absurd HA.out (by simp [spec_l2Kind.j0])
  | succ kj3 =>
   have H := HA.out
   clear HA
   simp only [spec_l2Kind.j0] at H
   by_cases c10 : x26_3 = true
   ·subst c10
    rw [if_pos rfl] at H
    obtain rfl := Option.some.inj H
    go_wp2
    go_ret
    exact ⟨Sh.eR, Sh.bw⟩
   ·replace c10 := Bool.eq_false_iff.mpr c10
    subst c10
    rw [Sh.nf] at H
    have H' := am_ H
    clear H
    go_wp2
    go_loopg [7, 29] kj3 (fun kq v7 v29 w' => ∃ (x7_2 : List Int) (x29_2 : Int), v29 = .int .i64 x29_2 ∧ Aside0 (spec_l2Kind.l0 kq a0 a1 x7_2 l2 (l2.length : Int) x29_2 = some r) ∧ Aside0 (kq ≤ kj3) ∧ Aside0 (Kd.R (Kd.int .i64) 3 w' w.heap.size (fun _ => True) v7 x7_2) ∧ Aside0 (Below w.heap.size w w'))
    case atStart => exact ⟨(([] : List Int)), (0), (Sh.es), H', ⟨Nat.le_refl _⟩, ⟨by first | exact Kd.R_nil _ _ _ _ _ | exact Kd.N_nil _ _ _ _ _ | exact Kd.V_nil _ _ _ _ _ | exact Kd.Q_nil _ _ _ _ _ | exact Kd.S_nil _ _ _ _ _⟩, ⟨Sh.bw⟩⟩
    case round =>
     clear H'
     try clear c1
     try clear c2
     try clear p2
     try clear c6
     try clear c7
     try clear c8
     try clear c9
     try clear c10
     try clear p2
     obtain ⟨x7_2, x29_2, rfl, HA, HK2, HO_7, HB⟩ := hrel
     cases gk with
     | zero => exact absurd HA.out (by simp [spec_l2Kind.l0])
     | succ k2 =>
      have H := HA.out
      clear HA
      simp only [spec_l2Kind.l0] at H
      by_cases c11 : x29_2 < (l2.length : Int)
      ·rw [if_pos c11] at H
       have c11b0 : decide (x29_2 < (l2.length : Int)) = true := decide_eq_true c11
       clear c11
       by_cases c12 : 0 ≤ x29_2
       ·rw [if_pos c12] at H
        have c12b0 : decide (0 ≤ x29_2) = true := decide_eq_true c12
        clear c12
        by_cases c13 : x29_2 < (l2.length : Int)
        ·rw [if_pos c13] at H
         have c13b0 : decide (x29_2 < (l2.length : Int)) = true := decide_eq_true c13
         clear c13
         obtain ⟨⟨t216, t217, t218⟩, A140, H⟩ := Sh.bd H
         have A14 := am_ A140
         clear A140
         have HC15 := am_ H
         clear H
         have p214 : 0 ≤ (x29_2 : Int) := Sh.od
         have q214 : x29_2 < (l2.length : Int) := Sh.od
         obtain ⟨ad214, e214, hx214_0, hx214_1⟩ := at_T80 HR2.out x29_2 p214 q214
         cases e214
         (try replace hx214_0 := (HB.out.cell (World.block_lt_of_cell? w _ hx214_0)).trans hx214_0)
         (try replace hx214_1 := (HB.out.cell (World.block_lt_of_cell? w _ hx214_1)).trans hx214_1)
         replace p214 := eq_true p214
         replace q214 := eq_true q214
         go_upto_region 8 with (first | ((with_reducible refine gate_dst (N := 9) rfl ?_); (try (refine gate_guard (by rfl) ?_; dsimp only)); refine Sh.bx (N := 9) (cs := #[.int .i64 0, .int .u64 0]) (t := 80) (h := ?_); intro gb215 hg w16 hbox hb; replace HO_7 := am_ (Kd.R_below (by (with_reducible repeat (first | apply Kd.R_alloc | apply Kd.R_drewN | apply Kd.R_drew)); exact HO_7.out) hb); have BK215 := am_ hbox; have GW215 := am_ (Sh.gw (w := w) hg); have GE215 := am_ (Sh.gw (w := w) hg); replace HB := am_ (below_step Sh.bw hb); clear hb hbox hg; obtain ⟨hcz17_0, hcz17_1, hfz17_0, hfz17_1⟩ := Sh.b2 BK215.out) | ((with_reducible refine gate_callee (f := 78) rfl ?_); refine Sh.gL (some 36) Try.func78 #[.int .i64 ((rd_T80 l2 x29_2).f0)] (h := ?_); (with_reducible refine (spec_l2Need.calls k2 ((rd_T80 l2 x29_2).f0) t216 t217 t218 _ A14.out).mono ?_); rintro e w' ⟨rfl, ⟨nd, rfl⟩⟩; refine ⟨_, rfl, ?_⟩))
         (try simp only [Act.put, List.setIfInBounds_toArray, List.set_cons_zero, List.set_cons_succ])
         go_cut [54] (fun v54 wc => ∃ (kq : Nat) (x54_14 : Bool), v54 = .bool x54_14 ∧ Aside0 (spec_l2Kind.j2 kq a0 a1 x7_2 t216 t217 t218 l2 (l2.length : Int) x29_2 x54_14 = some r) ∧ Aside0 (kq ≤ k2) ∧ Aside0 (Kd.R (Kd.int .i64) 3 wc w.heap.size (fun _ => True) u7 x7_2) ∧ Aside0 (wc.heap[gb215]? = some (.cells #[.int .i64 ((rd_T80 l2 x29_2).f0), .int .u64 ((rd_T80 l2 x29_2).f1)] 80 (0, 0))) ∧ Aside0 (Below w.heap.size w wc))
         case first =>
          have H := HC15.out
          clear HC15
          by_cases c18 : t218 = 0
          ·rw [if_pos c18] at H
           have c18b0 : (t218 == 0) = true := beq_iff_eq.mpr c18
           have c18b1 : (t218 != 0) = false := bne_eq_false_iff_eq.mpr c18
           clear c18
           first | rw [c18b0] | (simp only [i64_w, i32_w]; rw [c18b0]) | skip
           have H' := am_ H
           clear H
           go_wp2
           go_meet
           case rel => exact ⟨_, (true), (Sh.es), H', ⟨by have := HJ3.out; have := HK2.out; first | omega | exact Nat.le_refl _⟩, ⟨by (with_reducible repeat (first | apply Kd.R_alloc | apply Kd.R_drewN | apply Kd.R_drew)); exact Kd.R_mono (Kd.R_far (p := ⟨gb215, 1, none⟩) (Kd.R_far (p := ⟨gb215, 0, none⟩) (Kd.R_types HO_7.out BK215.out (by decide)) (fun _ hk => hk.2) (.int .i64 ((rd_T80 l2 x29_2).f0))) (fun _ hk => hk.2) (.int .u64 ((rd_T80 l2 x29_2).f1))) (fun _ hk => trivial)⟩, ⟨by (with_reducible repeat (first | refine blk_drewN ?_ _ | refine blk_drew ?_ | refine blk_alloc ?_ _)); refine blk_put (cs := #[.int .i64 ((rd_T80 l2 x29_2).f0), .int .u64 0]) ?_ 1 _ rfl; (with_reducible repeat (first | refine blk_drewN ?_ _ | refine blk_drew ?_ | refine blk_alloc ?_ _)); refine blk_put (cs := #[.int .i64 0, .int .u64 0]) ?_ 0 _ rfl; (with_reducible repeat (first | refine blk_drewN ?_ _ | refine blk_drew ?_ | refine blk_alloc ?_ _)); exact BK215.out⟩, ⟨Sh.bw⟩⟩
          ·rw [if_neg c18] at H
           have c18b0 : (t218 == 0) = false := beq_eq_false_iff_ne.mpr c18
           have c18b1 : (t218 != 0) = true := bne_iff_ne.mpr c18
           first | rw [c18b0] | (simp only [i64_w, i32_w]; rw [c18b0]) | skip
           obtain ⟨t219, A190, H⟩ := Sh.bd H
           have A19 := am_ A190
           clear A190
           by_cases c20 : t219 = true
           ·subst c20
            rw [if_pos rfl] at H
            have H' := am_ H
            clear H
            have hcz21_0 := Sh.bc BK215.out 0
            have hcz21_1 := Sh.bc BK215.out 1
            have hfz21_0 := blk_frozen BK215.out 0
            have hfz21_1 := blk_frozen BK215.out 1
            go_wp2_with (first | (go_at_call 94; (with_reducible refine (spec_l2N.calls k2 a0 a1 ((rd_T80 l2 x29_2).f0) ((rd_T80 l2 x29_2).f1) true _ A19.out).mono ?_); rintro e w22 ⟨rfl, hb⟩; have n0_ := am_ (Kd.R_below (by (with_reducible repeat (first | apply Kd.R_alloc | apply Kd.R_drewN | apply Kd.R_drew)); exact (Kd.R_mono (Kd.R_far (p := ⟨gb215, 1, none⟩) (Kd.R_far (p := ⟨gb215, 0, none⟩) (Kd.R_types HO_7.out BK215.out (by decide)) (fun _ hk => hk.2) (.int .i64 ((rd_T80 l2 x29_2).f0))) (fun _ hk => hk.2) (.int .u64 ((rd_T80 l2 x29_2).f1))) (fun _ h_ => h_.1))) hb); have n1_ := am_ (blk_below (g := gb215) (o := .cells #[.int .i64 ((rd_T80 l2 x29_2).f0), .int .u64 ((rd_T80 l2 x29_2).f1)] 80 (0, 0)) (by (with_reducible repeat (first | refine blk_drewN ?_ _ | refine blk_drew ?_ | refine blk_alloc ?_ _)); refine blk_put (cs := #[.int .i64 ((rd_T80 l2 x29_2).f0), .int .u64 0]) ?_ 1 _ rfl; (with_reducible repeat (first | refine blk_drewN ?_ _ | refine blk_drew ?_ | refine blk_alloc ?_ _)); refine blk_put (cs := #[.int .i64 0, .int .u64 0]) ?_ 0 _ rfl; (with_reducible repeat (first | refine blk_drewN ?_ _ | refine blk_drew ?_ | refine blk_alloc ?_ _)); exact BK215.out) hb); have n2_ := am_ (below_step Sh.bw hb); clear HO_7; clear BK215; clear HB; have HO_7 := n0_; have BK215 := n1_; have HB := n2_; clear n0_ n1_ n2_; (try clear hb); (try clear hb2); (try clear hk); (try clear hi); obtain ⟨Ao23, co23, eo23⟩ := Kd.R_slice HO_7.out; subst eo23))
            go_meet
            case rel => exact ⟨_, (decide ((x7_2.length : Int) < t216)), (Sh.es), H', ⟨by have := HJ3.out; have := HK2.out; first | omega | exact Nat.le_refl _⟩, ⟨by (with_reducible repeat (first | apply Kd.R_alloc | apply Kd.R_drewN | apply Kd.R_drew)); exact HO_7.out⟩, ⟨by (with_reducible repeat (first | refine blk_drewN ?_ _ | refine blk_drew ?_ | refine blk_alloc ?_ _)); exact BK215.out⟩, ⟨Sh.bw⟩⟩
           ·replace c20 := Bool.eq_false_iff.mpr c20
            subst c20
            rw [Sh.nf] at H
            have H' := am_ H
            clear H
            have hcz24_0 := Sh.bc BK215.out 0
            have hcz24_1 := Sh.bc BK215.out 1
            have hfz24_0 := blk_frozen BK215.out 0
            have hfz24_1 := blk_frozen BK215.out 1
            go_wp2_with (first | (go_at_call 94; (with_reducible refine (spec_l2N.calls k2 a0 a1 ((rd_T80 l2 x29_2).f0) ((rd_T80 l2 x29_2).f1) false _ A19.out).mono ?_); rintro e w25 ⟨rfl, hb⟩; have n0_ := am_ (Kd.R_below (by (with_reducible repeat (first | apply Kd.R_alloc | apply Kd.R_drewN | apply Kd.R_drew)); exact (Kd.R_mono (Kd.R_far (p := ⟨gb215, 1, none⟩) (Kd.R_far (p := ⟨gb215, 0, none⟩) (Kd.R_types HO_7.out BK215.out (by decide)) (fun _ hk => hk.2) (.int .i64 ((rd_T80 l2 x29_2).f0))) (fun _ hk => hk.2) (.int .u64 ((rd_T80 l2 x29_2).f1))) (fun _ h_ => h_.1))) hb); have n1_ := am_ (blk_below (g := gb215) (o := .cells #[.int .i64 ((rd_T80 l2 x29_2).f0), .int .u64 ((rd_T80 l2 x29_2).f1)] 80 (0, 0)) (by (with_reducible repeat (first | refine blk_drewN ?_ _ | refine blk_drew ?_ | refine blk_alloc ?_ _)); refine blk_put (cs := #[.int .i64 ((rd_T80 l2 x29_2).f0), .int .u64 0]) ?_ 1 _ rfl; (with_reducible repeat (first | refine blk_drewN ?_ _ | refine blk_drew ?_ | refine blk_alloc ?_ _)); refine blk_put (cs := #[.int .i64 0, .int .u64 0]) ?_ 0 _ rfl; (with_reducible repeat (first | refine blk_drewN ?_ _ | refine blk_drew ?_ | refine blk_alloc ?_ _)); exact BK215.out) hb); have n2_ := am_ (below_step Sh.bw hb); clear HO_7; clear BK215; clear HB; have HO_7 := n0_; have BK215 := n1_; have HB := n2_; clear n0_ n1_ n2_; (try clear hb); (try clear hb2); (try clear hk); (try clear hi)))
            go_meet
            case rel => exact ⟨_, (true), (Sh.es), H', ⟨by have := HJ3.out; have := HK2.out; first | omega | exact Nat.le_refl _⟩, ⟨by (with_reducible repeat (first | apply Kd.R_alloc | apply Kd.R_drewN | apply Kd.R_drew)); exact HO_7.out⟩, ⟨by (with_reducible repeat (first | refine blk_drewN ?_ _ | refine blk_drew ?_ | refine blk_alloc ?_ _)); exact BK215.out⟩, ⟨Sh.bw⟩⟩
         case rest =>
          clear HC15
          try clear c1
          try clear c2
          try clear p2
          try clear q2
          try clear hx2
          try clear c6
          try clear c7
          try clear c8
          try clear c9
          try clear c10
          try clear c11
          try clear c11b0
          try clear c12
          try clear c12b0
          try clear c13
          try clear c13b0
          try clear c18
          try clear c18b0
          try clear c18b1
          try clear c20
          try clear p21
          try clear q21
          try clear hx21
          try clear hcz17_0
          try clear hcz17_1
          try clear hcz21_0
          try clear hcz21_1
          try clear hcz24_0
          try clear hcz24_1
          try clear hfz17_0
          try clear hfz17_1
          try clear hfz21_0
          try clear hfz21_1
          try clear hfz24_0
          try clear hfz24_1
          try clear hx214_0
          try clear hx214_1
          try clear p2
          try clear p214
          try clear q214
          obtain ⟨kq, x54_14, rfl, HA, HJ14, HO_7, BK215, HB⟩ := hcut
          cases kq with
          | zero => exact absurd HA.out (by simp [spec_l2Kind.j2])
          | succ kj14 =>
           have H := HA.out
           clear HA
           simp only [spec_l2Kind.j2] at H
           by_cases c26 : x54_14 = true
           ·subst c26
            rw [if_pos rfl] at H
            obtain rfl := Option.some.inj H
            go_wp2
            go_ret
            exact ⟨Sh.eR, Sh.bw⟩
           ·replace c26 := Bool.eq_false_iff.mpr c26
            subst c26
            rw [Sh.nf] at H
            have H' := am_ H
            clear H
            go_wp2
            go_loopg [7, 10] kj14 (fun kq v7 v10 w' => ∃ (x7_4 : List Int) (x10_4 : Int), v10 = .int .i64 x10_4 ∧ Aside0 (spec_l2Kind.l1 kq a0 a1 x7_4 x10_4 t217 t218 l2 (l2.length : Int) x29_2 = some r) ∧ Aside0 (kq ≤ kj14) ∧ Aside0 (Kd.R (Kd.int .i64) 3 w' w.heap.size (fun _ => True) v7 x7_4) ∧ Aside0 (w'.heap[gb215]? = some (.cells #[.int .i64 ((rd_T80 l2 x29_2).f0), .int .u64 ((rd_T80 l2 x29_2).f1)] 80 (0, 0))) ∧ Aside0 (Below w.heap.size w w'))
            case atStart => exact ⟨(x7_2), (t216), (Sh.es), H', ⟨Nat.le_refl _⟩, ⟨by (with_reducible repeat (first | apply Kd.R_alloc | apply Kd.R_drewN | apply Kd.R_drew)); exact HO_7.out⟩, ⟨by (with_reducible repeat (first | refine blk_drewN ?_ _ | refine blk_drew ?_ | refine blk_alloc ?_ _)); exact BK215.out⟩, ⟨Sh.bw⟩⟩
            case round =>
             clear H'
             try clear c1
             try clear c2
             try clear p2
             try clear q2
             try clear hx2
             try clear c6
             try clear c7
             try clear c8
             try clear c9
             try clear c10
             try clear c11
             try clear c11b0
             try clear c12
             try clear c12b0
             try clear c13
             try clear c13b0
             try clear c18
             try clear c18b0
             try clear c18b1
             try clear c20
             try clear p21
             try clear q21
             try clear hx21
             try clear c26
             try clear hcz17_0
             try clear hcz17_1
             try clear hcz21_0
             try clear hcz21_1
             try clear hcz24_0
             try clear hcz24_1
             try clear hfz17_0
             try clear hfz17_1
             try clear hfz21_0
             try clear hfz21_1
             try clear hfz24_0
             try clear hfz24_1
             try clear hx214_0
             try clear hx214_1
             try clear p2
             try clear p21
             try clear p214
             try clear q2
             try clear q21
             try clear q214
             obtain ⟨x7_4, x10_4, rfl, HA, HK4, HO_7, BK215, HB⟩ := hrel
             cases gk with
             | zero => exact absurd HA.out (by simp [spec_l2Kind.l1])
             | succ k4 =>
              have H := HA.out
              clear HA
              simp only [spec_l2Kind.l1] at H
              by_cases c27 : x10_4 > 0
              ·rw [if_pos c27] at H
               have c27b0 : decide (0 < x10_4) = true := decide_eq_true c27
               clear c27
               obtain ⟨ji28, hj1⟩ : ∃ j_ : Int, (wrap64 ((x7_4.length : Int) - 1)) = j_ := ⟨_, rfl⟩
               replace H : (if 0 ≤ (ji28) then (if (ji28) < (x7_4.length : Int) then (if (rd x7_4 (ji28)) = t217 then (if (ji28) ≤ (x7_4.length : Int) then (spec_l2Kind.l1 k4 a0 a1 (x7_4.take ((ji28) : Int).toNat) (wrap64 (x10_4 - 1)) t217 t218 l2 (l2.length : Int) x29_2) else (none)) else (some 0)) else (none)) else (none)) = some r := by first | (rw [hj1] at H; exact H) | (simp only [hj1] at H ⊢; exact H)
               have hji28w : (IntKind.i64.wrap ((x7_4.length : Int) - 1)) = ji28 := (i64_w _).trans hj1
               by_cases c29 : 0 ≤ (ji28)
               ·rw [if_pos c29] at H
                have c29b0 : decide (0 ≤ (ji28)) = true := decide_eq_true c29
                clear c29
                by_cases c30 : (ji28) < (x7_4.length : Int)
                ·rw [if_pos c30] at H
                 have c30b0 : decide ((ji28) < (x7_4.length : Int)) = true := decide_eq_true c30
                 clear c30
                 by_cases c31 : (rd x7_4 (ji28)) = t217
                 ·rw [if_pos c31] at H
                  have c31b0 : ((rd x7_4 (ji28)) == t217) = true := beq_iff_eq.mpr c31
                  have c31b1 : ((rd x7_4 (ji28)) != t217) = false := bne_eq_false_iff_eq.mpr c31
                  clear c31
                  by_cases c32 : (ji28) ≤ (x7_4.length : Int)
                  ·rw [if_pos c32] at H
                   have c32b0 := eq_true c32
                   have c32b1 : decide ((ji28) ≤ (x7_4.length : Int)) = true := decide_eq_true c32
                   clear c32
                   obtain ⟨y221, hy221⟩ : ∃ y_ : List Int, y_ = (x7_4.take ((ji28) : Int).toNat) := ⟨_, rfl⟩
                   replace H : (spec_l2Kind.l1 k4 a0 a1 y221 (wrap64 (x10_4 - 1)) t217 t218 l2 (l2.length : Int) x29_2) = some r := by first | (rw [hy221]; with_reducible exact H) | (have H2_ := (Option.bind_some _ _).symm.trans H; rw [hy221]; with_reducible exact H2_) | (have H2_ := (Option.bind_some _ _).symm.trans H; with_reducible exact H2_) | with_reducible exact H | (rw [hy221]; exact H) | exact H
                   have Ny221 := am_ hy221
                   clear hy221
                   have H' := am_ H
                   clear H
                   obtain ⟨Ao33, co33, eo33⟩ := Kd.R_slice HO_7.out
                   subst eo33
                   have p220 : 0 ≤ ((ji28) : Int) := Sh.od
                   have q220 : (ji28) < (x7_4.length : Int) := Sh.od
                   obtain ⟨ad220, e220, hx220_0⟩ := Kd.at_int (Kd.R_reads' HO_7.out).2.2 (ji28) p220 q220
                   cases e220
                   replace p220 := eq_true p220
                   replace q220 := eq_true q220
                   have q34 : ((ji28) : Int) ≤ ((x7_4.length : Int) : Int) := Sh.od
                   obtain ⟨i034, hi034, _, hsz34, _⟩ := info_parts info3
                   have hcut34 := cut_to (P := Try.prog) 39 3 .i64 Try.underlying39 hi034 (some ad220) x7_4.length co33 (ji28) (of_decide_eq_true (by first | (with_reducible assumption) | assumption)) q34 (Kd.R_reads' HO_7.out).2.1
                   have hr34 := Kd.R_take (m := ((ji28) : Int).toNat) HO_7.out (by omega)
                   have hy34 : y221.length = ((ji28) : Int).toNat := (by rw [Ny221.out, List.length_take]; omega)
                   rw [← Ny221.out] at hr34
                   rw [← hy34] at hr34 hcut34
                   clear hy34 hi034 hsz34 HO_7
                   have HO223 := am_ hr34
                   clear hr34
                   replace q34 := eq_true q34
                   go_wp2
                   go_roundg k4
                   case measure => have := HJ3.out; have := HK2.out; have := HJ14.out; have := HK4.out; omega
                   case rel => exact ⟨(y221), (wrap64 (x10_4 - 1)), (Sh.es), H', ⟨by have := HJ3.out; have := HK2.out; have := HJ14.out; have := HK4.out; omega⟩, ⟨by (with_reducible repeat (first | apply Kd.R_alloc | apply Kd.R_drewN | apply Kd.R_drew)); exact HO223.out⟩, ⟨by (with_reducible repeat (first | refine blk_drewN ?_ _ | refine blk_drew ?_ | refine blk_alloc ?_ _)); exact BK215.out⟩, ⟨Sh.bw⟩⟩
                  ·rw [if_neg c32] at H
                   exact absurd H (by simp)
                 ·rw [if_neg c31] at H
                  have c31b0 : ((rd x7_4 (ji28)) == t217) = false := beq_eq_false_iff_ne.mpr c31
                  have c31b1 : ((rd x7_4 (ji28)) != t217) = true := bne_iff_ne.mpr c31
                  obtain rfl := Option.some.inj H
                  obtain ⟨Ao35, co35, eo35⟩ := Kd.R_slice HO_7.out
                  subst eo35
                  have p220 : 0 ≤ ((ji28) : Int) := Sh.od
                  have q220 : (ji28) < (x7_4.length : Int) := Sh.od
                  obtain ⟨ad220, e220, hx220_0⟩ := Kd.at_int (Kd.R_reads' HO_7.out).2.2 (ji28) p220 q220
                  cases e220
                  replace p220 := eq_true p220
                  replace q220 := eq_true q220
                  go_wp2
                  go_ret
                  exact ⟨by first | rfl | (simp [errW_none, errW_some] <;> rfl) | (simp only [← hj1]; first | rfl | (simp [errW_none, errW_some] <;> rfl)) | (simp [*, errW_none, errW_some] <;> rfl), Sh.bw⟩
                ·rw [if_neg c30] at H
                 exact absurd H (by simp)
               ·rw [if_neg c29] at H
                exact absurd H (by simp)
              ·rw [if_neg c27] at H
               have c27b0 : decide (0 < x10_4) = false := decide_eq_false c27
               clear c27
               by_cases c36 : x7_4.length < 17592186044416
               ·rw [if_pos c36] at H
                have LMc36 := am_ c36
                clear c36
                obtain ⟨y224, hy224⟩ : ∃ y_ : List Int, y_ = (x7_4 ++ [t218]) := ⟨_, rfl⟩
                replace H : (spec_l2Kind.l0 k4 a0 a1 y224 l2 (l2.length : Int) (wrap64 (x29_2 + 1))) = some r := by first | (rw [hy224]; with_reducible exact H) | (have H2_ := (Option.bind_some _ _).symm.trans H; rw [hy224]; with_reducible exact H2_) | (have H2_ := (Option.bind_some _ _).symm.trans H; with_reducible exact H2_) | with_reducible exact H | (rw [hy224]; exact H) | exact H
                have Ny224 := am_ hy224
                clear hy224
                have H' := am_ H
                clear H
                go_wp2_with (first | ((with_reducible refine gate_builtin (b := .append) (xs := #[.tmp 72, .tmp 74]) rfl ?_); (try (refine gate_guard (by rfl) ?_; dsimp only)); at_builtin; refine Kd.R_append (Kd.int .i64) (w0 := w) w.heap.size rfl (.tmp 72) (.tmp 74) 39 3 (.int .i64 0) 8 rfl Try.underlying39 info3 rfl (by decide) (by omega) u7 x7_4 t218 [.int .i64 t218] (fun _ => True) (fun _ => False) rfl rfl ?aP (fun _ hk => hk.elim) ?aF ?aO ?aB ?aS ?aL ?_; (case aP => exact rfl); (case aB => exact Sh.bw); (case aF => exact (fun _ _ => trivial)); (case aO => exact (by (with_reducible repeat (first | apply Kd.R_alloc | apply Kd.R_drewN | apply Kd.R_drew)); exact HO_7.out)); (case aS => exact (below_size Sh.bw)); (case aL => have := LMc36.out; omega); intro v225 w37 ho hb hg hat; rw [← Ny224.out] at ho; have n0_ := am_ (blk_grown (g := gb215) (o := .cells #[.int .i64 ((rd_T80 l2 x29_2).f0), .int .u64 ((rd_T80 l2 x29_2).f1)] 80 (0, 0)) (by (with_reducible repeat (first | refine blk_drewN ?_ _ | refine blk_drew ?_ | refine blk_alloc ?_ _)); exact BK215.out) hg (Kd.R_ne HO_7.out BK215.out (by decide))); have n1_ := am_ hb; have n2_ := am_ ho; clear BK215; clear HB; clear HO_7; have BK215 := n0_; have HB := n1_; have HO226 := n2_; clear n0_ n1_ n2_; clear ho hb hg hat))
                go_roundg k4
                case measure => have := HJ3.out; have := HK2.out; have := HJ14.out; have := HK4.out; omega
                case rel => exact ⟨(y224), (wrap64 (x29_2 + 1)), (Sh.es), H', ⟨by have := HJ3.out; have := HK2.out; have := HJ14.out; have := HK4.out; omega⟩, ⟨by (with_reducible repeat (first | apply Kd.R_alloc | apply Kd.R_drewN | apply Kd.R_drew)); exact HO226.out⟩, ⟨Sh.bw⟩⟩
               ·rw [if_neg c36] at H
                exact absurd H (by simp)
        ·rw [if_neg c13] at H
         exact absurd H (by simp)
       ·rw [if_neg c12] at H
        exact absurd H (by simp)
      ·rw [if_neg c11] at H
       have c11b0 : decide (x29_2 < (l2.length : Int)) = false := decide_eq_false c11
       clear c11
       by_cases c38 : (x7_2.length : Int) = 1
       ·rw [if_pos c38] at H
        have c38b0 : ((x7_2.length : Int) == 1) = true := beq_iff_eq.mpr c38
        have c38b1 : ((x7_2.length : Int) != 1) = false := bne_eq_false_iff_eq.mpr c38
        clear c38
        by_cases c39 : 0 < (x7_2.length : Int)
        ·rw [if_pos c39] at H
         have c39b0 : decide (0 < (x7_2.length : Int)) = true := decide_eq_true c39
         have c39b1 : decide (0 < x7_2.length) = true := decide_eq_true (by omega)
         clear c39
         obtain rfl := Option.some.inj H
         obtain ⟨Ao40, co40, eo40⟩ := Kd.R_slice HO_7.out
         subst eo40
         have p213 : 0 ≤ (0 : Int) := (by omega)
         have q213 : 0 < (x7_2.length : Int) := Sh.od
         obtain ⟨ad213, e213, hx213_0⟩ := Kd.at_int (Kd.R_reads' HO_7.out).2.2 0 p213 q213
         cases e213
         have qi213 : (0 < x7_2.length) = True := eq_true (by omega)
         (try rw [show ((0 : Int)).toNat = 0 from rfl] at hx213_0)
         (try rw [Addr.add_zero'] at hx213_0)
         replace p213 := eq_true p213
         replace q213 := eq_true q213
         go_wp2
         go_ret
         exact ⟨Sh.eR, Sh.bw⟩
        ·rw [if_neg c39] at H
         exact absurd H (by simp)
       ·rw [if_neg c38] at H
        have c38b0 : ((x7_2.length : Int) == 1) = false := beq_eq_false_iff_ne.mpr c38
        have c38b1 : ((x7_2.length : Int) != 1) = true := bne_iff_ne.mpr c38
        obtain rfl := Option.some.inj H
        obtain ⟨Ao41, co41, eo41⟩ := Kd.R_slice HO_7.out
        subst eo41
        go_wp2
        go_ret
        exact ⟨Sh.eR, Sh.bw⟩
def spec_l7Asks.f (k : Nat) (a0_0 : Int) (a0_1 : Int) (l0_2 : List (S80)) (l0_3 : List (S71)) (l1 : List (S80)) : Option (Bool) := (spec_l2Kind.f k a0_0 a0_1 l1).bind fun t228 => (some (t228 == 2))
theorem spec_l7Asks.mono : ∀ a0 a1 a2 a3 a4 k, LeO (spec_l7Asks.f k a0 a1 a2 a3 a4) (spec_l7Asks.f (k + 1) a0 a1 a2 a3 a4) := by
 intro a0 a1 a2 a3 a4 k
 unfold spec_l7Asks.f
 repeat' with_reducible first | apply spec_l2Kind.mono | exact LeO.refl _ | exact LeO.none _ | apply LeO.ite | refine LeO.bind ?_ fun _ => ?_
set_option maxHeartbeats 8000000 in
set_option maxRecDepth 100000 in
theorem spec_l7Asks.calls (k : Nat) (a0_0 : Int) (a0_1 : Int) (A0_2 : Option Addr) (c0_2 : Nat) (l0_2 : List (S80)) (A0_3 : Option Addr) (c0_3 : Nat) (l0_3 : List (S71)) (A1 : Option Addr) (c1 : Nat) (l1 : List (S80)) (r : Bool) (w : World) (hr0_2 : Kd.C k80 w A0_2 l0_2.length l0_2) (hc0_2 : l0_2.length ≤ c0_2) (hr0_3 : Kd.C k71 w A0_3 l0_3.length l0_3) (hc0_3 : l0_3.length ≤ c0_3) (hr1 : Kd.C k80 w A1 l1.length l1) (hc1 : l1.length ≤ c1) (h : spec_l7Asks.f k a0_0 a0_1 l0_2 l0_3 l1 = some r) :
  Calls Try.prog 52 #[.agg #[.int .i64 a0_0, .int .i64 a0_1, .slice A0_2 l0_2.length c0_2, .slice A0_3 l0_3.length c0_3], .slice A1 l1.length c1] w fun e w' => e = .returned (.bool r) ∧ Below w.heap.size w w' := by
 have hu33 := Try.underlying33
 have HR0_2 := am_ hr0_2
 have HC0_2 := am_ hc0_2
 clear hr0_2 hc0_2
 have HR0_3 := am_ hr0_3
 have HC0_3 := am_ hc0_3
 clear hr0_3 hc0_3
 have HR1 := am_ hr1
 have HC1 := am_ hc1
 clear hr1 hc1
 have HB := am_ (Below.refl w.heap.size w)
 have H := h
 clear h
 unfold spec_l7Asks.f at H
 obtain ⟨t228, A30, H⟩ := Sh.bd H
 have A3 := am_ A30
 clear A30
 obtain rfl := Option.some.inj H
 go_enter Try.func52, Try.ntmps52
 go_wp2_with (first | ((with_reducible refine gate_dst (N := 2) rfl ?_); refine Sh.bx (N := 2) (cs := #[.int .i64 a0_0, .int .i64 a0_1, .slice A0_2 l0_2.length c0_2, .slice A0_3 l0_3.length c0_3]) (t := 33) (h := ?_); intro gb227 hg w4 hbox hb; have BK227 := am_ hbox; have GW227 := am_ (Sh.gw (w := w) hg); have GE227 := am_ (Sh.gw (w := w) hg); replace HB := am_ (below_step Sh.bw hb); clear hb hbox hg; obtain ⟨hcz5_0, hcz5_1, hcz5_2, hcz5_3, hfz5_0, hfz5_1, hfz5_2, hfz5_3⟩ := Sh.b4 BK227.out) | ((with_reducible refine gate_callee (f := 73) rfl ?_); refine Sh.gL (some 10) Try.func73 #[.int .i64 a0_0, .int .i64 a0_1, .slice A1 l1.length c1] (h := ?_); (with_reducible refine (spec_l2Kind.calls k a0_0 a0_1 _ _ l1 t228 _ (Sh.cB HR1.out) HC1.out A3.out).mono ?_); rintro e w6 ⟨rfl, hb⟩; refine ⟨_, rfl, ?_⟩; replace BK227 := am_ (Sh.bb BK227.out hb); replace HB := am_ (below_step Sh.bw hb); (try clear hb); (try clear hb2); (try clear hk); (try clear hi)))
 go_ret
 exact ⟨Sh.eR, Sh.bw⟩
mutual
def spec_l7Command.j0 : Nat → Bool → Int → Int → List (S80) → List (S71) → List (S80) → List (S102) → Option (Bool)
 | 0, _, _, _, _, _, _, _ => none
 | k + 1, x19, x230000, x230001, x230002, x230003, x231000, x231001 => if x19 = true then (some false) else (spec_l7Command.l0 k x231001 (x231001.length : Int) 0 x230000 x230001 x230002 x230003 x231000 x231001)
def spec_l7Command.l0 : Nat → List (S102) → Int → Int → Int → Int → List (S80) → List (S71) → List (S80) → List (S102) → Option (Bool)
 | 0, _, _, _, _, _, _, _, _, _ => none
 | k + 1, x21, x22, x23, x230000, x230001, x230002, x230003, x231000, x231001 => if x23 < x22 then (if 0 ≤ x23 then (if x23 < (x21.length : Int) then ((spec_l1In.f ((rd_T102 x21 x23).f0) 0 (wrap64 (x230001 - 1))).bind fun t234 => (if t234 = true then (if x23 > 0 then (if 0 ≤ (wrap64 (x23 - 1)) then (if (wrap64 (x23 - 1)) < (x231001.length : Int) then (if ((rd_T102 x231001 (wrap64 (x23 - 1))).f0) ≥ ((rd_T102 x21 x23).f0) then (some false) else ((spec_l2Kind.f k x230000 x230001 ((rd_T102 x21 x23).f1)).bind fun t236 => (if t236 = 1 then (spec_l7Command.l0 k x21 x22 (wrap64 (x23 + 1)) x230000 x230001 x230002 x230003 x231000 x231001) else (some false)))) else (none)) else (none)) else ((spec_l2Kind.f k x230000 x230001 ((rd_T102 x21 x23).f1)).bind fun t237 => (if t237 = 1 then (spec_l7Command.l0 k x21 x22 (wrap64 (x23 + 1)) x230000 x230001 x230002 x230003 x231000 x231001) else (some false)))) else (some false))) else (none)) else (none)) else (some true)
end
def spec_l7Command.f (k : Nat) (a0_0 : Int) (a0_1 : Int) (l0_2 : List (S80)) (l0_3 : List (S71)) (l1_0 : List (S80)) (l1_1 : List (S102)) : Option (Bool) := (spec_l7Asks.f k a0_0 a0_1 l0_2 l0_3 l1_0).bind fun t231 => (if t231 = true then (spec_l7Command.j0 k (decide ((l1_1.length : Int) > a0_1)) a0_0 a0_1 l0_2 l0_3 l1_0 l1_1) else (spec_l7Command.j0 k true a0_0 a0_1 l0_2 l0_3 l1_0 l1_1))
theorem spec_l7Command.mono_l : ∀ k, (∀ y0 y1 y2 y3 y4 y5 y6, LeO (spec_l7Command.j0 k y0 y1 y2 y3 y4 y5 y6) (spec_l7Command.j0 (k + 1) y0 y1 y2 y3 y4 y5 y6)) ∧ (∀ y0 y1 y2 y3 y4 y5 y6 y7 y8, LeO (spec_l7Command.l0 k y0 y1 y2 y3 y4 y5 y6 y7 y8) (spec_l7Command.l0 (k + 1) y0 y1 y2 y3 y4 y5 y6 y7 y8))
 | 0 => ⟨fun _ _ _ _ _ _ _ r h => by simp [spec_l7Command.j0] at h, fun _ _ _ _ _ _ _ _ _ r h => by simp [spec_l7Command.l0] at h⟩
 | k + 1 => by
  obtain ⟨ih0, ih1⟩ := spec_l7Command.mono_l k
  and_intros <;> intros
  all_goals (first | unfold spec_l7Command.j0 | unfold spec_l7Command.l0)
  all_goals repeat' with_reducible first | apply ih0 | apply ih1 | apply spec_l2Kind.mono | apply spec_l7Asks.mono | exact LeO.refl _ | exact LeO.none _ | apply LeO.ite | refine LeO.bind ?_ fun _ => ?_
theorem spec_l7Command.mono : ∀ a0 a1 a2 a3 a4 a5 k, LeO (spec_l7Command.f k a0 a1 a2 a3 a4 a5) (spec_l7Command.f (k + 1) a0 a1 a2 a3 a4 a5) := by
 intro a0 a1 a2 a3 a4 a5 k
 obtain ⟨ih0, ih1⟩ := spec_l7Command.mono_l k
 unfold spec_l7Command.f
 repeat' with_reducible first | apply ih0 | apply ih1 | apply spec_l2Kind.mono | apply spec_l7Asks.mono | exact LeO.refl _ | exact LeO.none _ | apply LeO.ite | refine LeO.bind ?_ fun _ => ?_
def spec_l7Command.T6 : Bool × List (List Nat × List Nat) := (true, [([], []), ([0], [0]), ([], []), ([2], [2]), ([3], [3]), ([1, 4], [1, 4]), ([5], [5]), ([6, 5], [6]), ([7], [7]), ([8, 7], [7, 8]), ([9, 7, 7], [7, 9]), ([10], [10]), ([11, 10], [10, 11]), ([10], [10]), ([13, 10], [10, 13]), ([12, 14, 10], [10, 12, 14]), ([15, 10], [10, 15]), ([16, 10], [10, 16]), ([10], [10]), ([18, 10], [10, 18]), ([17, 19, 10], [10, 17, 19]), ([10, 20, 7], [7, 10, 20]), ([7, 21], [7, 21]), ([22, 10], [22]), ([23], [23]), ([24, 23], [23, 24]), ([23], [23]), ([26, 23], [23, 26]), ([23], [23]), ([28, 23], [23, 28]), ([25, 27, 29, 23, 23], [23, 25, 27, 29]), ([30, 23], [23, 30]), ([23, 31], [23, 31])])
def spec_l7Command.B6 : List Nat := [0, 1, 0, 4, 12, 31, 63, 127, 255, 511, 1023, 2047, 4095, 2047, 10239, 32767, 65535, 131071, 2047, 264191, 1048575, 2097151, 4194303, 8388607, 16777215, 33554431, 16777215, 83886079, 16777215, 285212671, 1073741823, 2147483647, 4294967295]
theorem spec_l7Command.tab6 : rtab .any (opsOf Try.f61 6) = spec_l7Command.T6 := by kernel_rfl
theorem spec_l7Command.bits6 : waitsOk spec_l7Command.T6.2 spec_l7Command.B6 = true := by kernel_rfl
set_option maxHeartbeats 8000000 in
set_option maxRecDepth 100000 in
theorem spec_l7Command.calls (k : Nat) (a0_0 : Int) (a0_1 : Int) (A0_2 : Option Addr) (c0_2 : Nat) (l0_2 : List (S80)) (A0_3 : Option Addr) (c0_3 : Nat) (l0_3 : List (S71)) (A1_0 : Option Addr) (c1_0 : Nat) (l1_0 : List (S80)) (A1_1 : Option Addr) (c1_1 : Nat) (l1_1 : List (S102)) (r : Bool) (w : World) (hr0_2 : Kd.C k80 w A0_2 l0_2.length l0_2) (hc0_2 : l0_2.length ≤ c0_2) (hr0_3 : Kd.C k71 w A0_3 l0_3.length l0_3) (hc0_3 : l0_3.length ≤ c0_3) (hr1_0 : Kd.C k80 w A1_0 l1_0.length l1_0) (hc1_0 : l1_0.length ≤ c1_0) (hr1_1 : Kd.C k102 w A1_1 l1_1.length l1_1) (hc1_1 : l1_1.length ≤ c1_1) (h : spec_l7Command.f k a0_0 a0_1 l0_2 l0_3 l1_0 l1_1 = some r) :
  Calls Try.prog 61 #[.agg #[.int .i64 a0_0, .int .i64 a0_1, .slice A0_2 l0_2.length c0_2, .slice A0_3 l0_3.length c0_3], .agg #[.slice A1_0 l1_0.length c1_0, .slice A1_1 l1_1.length c1_1]] w fun e w' => e = .returned (.bool r) ∧ Below w.heap.size w w' := by
 have hu33 := Try.underlying33
 have hu71 := Try.underlying71
 have hu102 := Try.underlying102
 have HR0_2 := am_ hr0_2
 have HC0_2 := am_ hc0_2
 clear hr0_2 hc0_2
 have HR0_3 := am_ hr0_3
 have HC0_3 := am_ hc0_3
 clear hr0_3 hc0_3
 have HR1_0 := am_ hr1_0
 have HC1_0 := am_ hc1_0
 clear hr1_0 hc1_0
 have HR1_1 := am_ hr1_1
 have HC1_1 := am_ hc1_1
 clear hr1_1 hc1_1
 have HB := am_ (Below.refl w.heap.size w)
 have H := h
 clear h
 unfold spec_l7Command.f at H
 have HC3 := am_ H
 clear H
 go_enter Try.func61, Try.ntmps61
 go_upto_region 1 with (first | ((with_reducible refine gate_dst (N := 2) rfl ?_); (try (refine gate_guard (by rfl) ?_; dsimp only)); refine Sh.bx (N := 2) (cs := #[.int .i64 a0_0, .int .i64 a0_1, .slice A0_2 l0_2.length c0_2, .slice A0_3 l0_3.length c0_3]) (t := 33) (h := ?_); intro gb229 hg w4 hbox hb; have BK229 := am_ hbox; have GW229 := am_ (Sh.gw (w := w) hg); have GE229 := am_ (Sh.gw (w := w) hg); replace HB := am_ (below_step Sh.bw hb); clear hb hbox hg) | ((with_reducible refine gate_dst (N := 3) rfl ?_); (try (refine gate_guard (by rfl) ?_; dsimp only)); refine Sh.bx (N := 3) (cs := #[.slice A1_0 l1_0.length c1_0, .slice A1_1 l1_1.length c1_1]) (t := 71) (h := ?_); intro gb230 hg w5 hbox hb; have BK230 := am_ hbox; have GW230 := am_ (Sh.gw (w := w) hg); have GE230 := am_ (Sh.gw (w := w) hg); replace HB := am_ (below_step Sh.bw hb); have NB229_230 := am_ (Sh.nl hg BK229.out); have NB230_229 := am_ (Sh.ng hg BK229.out); replace BK229 := am_ (Sh.bb BK229.out hb); clear hb hbox hg))
 (try simp only [Act.put, List.setIfInBounds_toArray, List.set_cons_zero, List.set_cons_succ])
 go_cut [19] (fun v19 wc => ∃ (kq : Nat) (x19_2 : Bool), v19 = .bool x19_2 ∧ Aside0 (spec_l7Command.j0 kq x19_2 a0_0 a0_1 l0_2 l0_3 l1_0 l1_1 = some r) ∧ Aside0 (kq ≤ k) ∧ Aside0 (wc.heap[gb229]? = some (.cells #[.int .i64 a0_0, .int .i64 a0_1, (.slice A0_2 l0_2.length c0_2), (.slice A0_3 l0_3.length c0_3)] 33 (0, 0))) ∧ Aside0 (wc.heap[gb230]? = some (.cells #[(.slice A1_0 l1_0.length c1_0), (.slice A1_1 l1_1.length c1_1)] 71 (0, 0))) ∧ Aside0 (Below w.heap.size w wc))
 case first =>
  have H := HC3.out
  clear HC3
  obtain ⟨t231, A60, H⟩ := Sh.bd H
  have A6 := am_ A60
  clear A60
  by_cases c7 : t231 = true
  ·subst c7
   rw [if_pos rfl] at H
   have H' := am_ H
   clear H
   have hnb8 := NB229_230.out
   have hnc8 := NB230_229.out
   have hcz9_0 := Sh.bc BK229.out 0
   have hcz9_1 := Sh.bc BK229.out 1
   have hcz9_2 := Sh.bc BK229.out 2
   have hcz9_3 := Sh.bc BK229.out 3
   have hfz9_0 := blk_frozen BK229.out 0
   have hfz9_1 := blk_frozen BK229.out 1
   have hfz9_2 := blk_frozen BK229.out 2
   have hfz9_3 := blk_frozen BK229.out 3
   have hcz10_0 := Sh.bc BK230.out 0
   have hcz10_1 := Sh.bc BK230.out 1
   have hfz10_0 := blk_frozen BK230.out 0
   have hfz10_1 := blk_frozen BK230.out 1
   go_wp2_with (first | ((with_reducible refine gate_callee (f := 52) rfl ?_); refine Sh.gL (some 10) Try.func52 #[.agg #[.int .i64 a0_0, .int .i64 a0_1, .slice A0_2 l0_2.length c0_2, .slice A0_3 l0_3.length c0_3], .slice A1_0 l1_0.length c1_0] (h := ?_); (with_reducible refine (spec_l7Asks.calls k a0_0 a0_1 _ _ l0_2 _ _ l0_3 _ _ l1_0 true _ (Sh.cB HR0_2.out) HC0_2.out (Sh.cB HR0_3.out) HC0_3.out (Sh.cB HR1_0.out) HC1_0.out A6.out).mono ?_); rintro e w11 ⟨rfl, hb⟩; refine ⟨_, rfl, ?_⟩; replace BK229 := am_ (Sh.bb BK229.out hb); replace BK230 := am_ (Sh.bb BK230.out hb); replace HB := am_ (below_step Sh.bw hb); (try clear hb); (try clear hb2); (try clear hk); (try clear hi); obtain ⟨hcz12_0, hcz12_1, hfz12_0, hfz12_1⟩ := Sh.b2 BK230.out; obtain ⟨hcz13_0, hcz13_1, hcz13_2, hcz13_3, hfz13_0, hfz13_1, hfz13_2, hfz13_3⟩ := Sh.b4 BK229.out))
   go_meet
   case rel => exact ⟨_, (decide ((l1_1.length : Int) > a0_1)), (Sh.es), H', ⟨Sh.om⟩, ⟨by (with_reducible repeat (first | refine blk_drewN ?_ _ | refine blk_drew ?_ | refine blk_alloc ?_ _)); exact BK229.out⟩, ⟨by (with_reducible repeat (first | refine blk_drewN ?_ _ | refine blk_drew ?_ | refine blk_alloc ?_ _)); exact BK230.out⟩, ⟨Sh.bw⟩⟩
  ·replace c7 := Bool.eq_false_iff.mpr c7
   subst c7
   rw [Sh.nf] at H
   have H' := am_ H
   clear H
   have hnb14 := NB229_230.out
   have hnc14 := NB230_229.out
   have hcz15_0 := Sh.bc BK229.out 0
   have hcz15_1 := Sh.bc BK229.out 1
   have hcz15_2 := Sh.bc BK229.out 2
   have hcz15_3 := Sh.bc BK229.out 3
   have hfz15_0 := blk_frozen BK229.out 0
   have hfz15_1 := blk_frozen BK229.out 1
   have hfz15_2 := blk_frozen BK229.out 2
   have hfz15_3 := blk_frozen BK229.out 3
   have hcz16_0 := Sh.bc BK230.out 0
   have hcz16_1 := Sh.bc BK230.out 1
   have hfz16_0 := blk_frozen BK230.out 0
   have hfz16_1 := blk_frozen BK230.out 1
   go_wp2_with (first | ((with_reducible refine gate_callee (f := 52) rfl ?_); refine Sh.gL (some 10) Try.func52 #[.agg #[.int .i64 a0_0, .int .i64 a0_1, .slice A0_2 l0_2.length c0_2, .slice A0_3 l0_3.length c0_3], .slice A1_0 l1_0.length c1_0] (h := ?_); (with_reducible refine (spec_l7Asks.calls k a0_0 a0_1 _ _ l0_2 _ _ l0_3 _ _ l1_0 false _ (Sh.cB HR0_2.out) HC0_2.out (Sh.cB HR0_3.out) HC0_3.out (Sh.cB HR1_0.out) HC1_0.out A6.out).mono ?_); rintro e w17 ⟨rfl, hb⟩; refine ⟨_, rfl, ?_⟩; replace BK229 := am_ (Sh.bb BK229.out hb); replace BK230 := am_ (Sh.bb BK230.out hb); replace HB := am_ (below_step Sh.bw hb); (try clear hb); (try clear hb2); (try clear hk); (try clear hi)))
   go_meet
   case rel => exact ⟨_, (true), (Sh.es), H', ⟨Sh.om⟩, ⟨by (with_reducible repeat (first | refine blk_drewN ?_ _ | refine blk_drew ?_ | refine blk_alloc ?_ _)); exact BK229.out⟩, ⟨by (with_reducible repeat (first | refine blk_drewN ?_ _ | refine blk_drew ?_ | refine blk_alloc ?_ _)); exact BK230.out⟩, ⟨Sh.bw⟩⟩
 case rest =>
  clear HC3
  try clear c1
  try clear p2
  try clear c5
  try clear c6
  try clear c7
  try clear c8
  try clear c14
  try clear hcz10_0
  try clear hcz10_1
  try clear hcz12_0
  try clear hcz12_1
  try clear hcz13_0
  try clear hcz13_1
  try clear hcz13_2
  try clear hcz13_3
  try clear hcz15_0
  try clear hcz15_1
  try clear hcz15_2
  try clear hcz15_3
  try clear hcz16_0
  try clear hcz16_1
  try clear hcz9_0
  try clear hcz9_1
  try clear hcz9_2
  try clear hcz9_3
  try clear hfz10_0
  try clear hfz10_1
  try clear hfz12_0
  try clear hfz12_1
  try clear hfz13_0
  try clear hfz13_1
  try clear hfz13_2
  try clear hfz13_3
  try clear hfz15_0
  try clear hfz15_1
  try clear hfz15_2
  try clear hfz15_3
  try clear hfz16_0
  try clear hfz16_1
  try clear hfz9_0
  try clear hfz9_1
  try clear hfz9_2
  try clear hfz9_3
  obtain ⟨kq, x19_2, rfl, HA, HJ2, BK229, BK230, HB⟩ := hcut
  cases kq with
  | zero => exact absurd HA.out (by simp [spec_l7Command.j0])
  | succ kj2 =>
   have H := HA.out
   clear HA
   simp only [spec_l7Command.j0] at H
   by_cases c18 : x19_2 = true
   ·subst c18
    rw [if_pos rfl] at H
    obtain rfl := Option.some.inj H
    go_wp2
    go_ret
    exact ⟨Sh.eR, Sh.bw⟩
   ·replace c18 := Bool.eq_false_iff.mpr c18
    subst c18
    rw [Sh.nf] at H
    have H' := am_ H
    clear H
    have hnb19 := NB230_229.out
    have hnc19 := NB229_230.out
    have hcz20_0 := Sh.bc BK230.out 0
    have hcz20_1 := Sh.bc BK230.out 1
    have hfz20_0 := blk_frozen BK230.out 0
    have hfz20_1 := blk_frozen BK230.out 1
    go_wp2
    go_loopg [23] kj2 (fun kq v23 w' => ∃ (x23_2 : Int), v23 = .int .i64 x23_2 ∧ Aside0 (spec_l7Command.l0 kq l1_1 (l1_1.length : Int) x23_2 a0_0 a0_1 l0_2 l0_3 l1_0 l1_1 = some r) ∧ Aside0 (kq ≤ kj2) ∧ Aside0 (w'.heap[gb229]? = some (.cells #[.int .i64 a0_0, .int .i64 a0_1, (.slice A0_2 l0_2.length c0_2), (.slice A0_3 l0_3.length c0_3)] 33 (0, 0))) ∧ Aside0 (w'.heap[gb230]? = some (.cells #[(.slice A1_0 l1_0.length c1_0), (.slice A1_1 l1_1.length c1_1)] 71 (0, 0))) ∧ Aside0 (Below w.heap.size w w'))
    case atStart => exact ⟨(0), (Sh.es), H', ⟨Nat.le_refl _⟩, ⟨by (with_reducible repeat (first | refine blk_drewN ?_ _ | refine blk_drew ?_ | refine blk_alloc ?_ _)); exact BK229.out⟩, ⟨by (with_reducible repeat (first | refine blk_drewN ?_ _ | refine blk_drew ?_ | refine blk_alloc ?_ _)); exact BK230.out⟩, ⟨Sh.bw⟩⟩
    case round =>
     clear H'
     try clear c1
     try clear p2
     try clear c5
     try clear c6
     try clear c7
     try clear c8
     try clear c14
     try clear c18
     try clear c19
     try clear hcz10_0
     try clear hcz10_1
     try clear hcz12_0
     try clear hcz12_1
     try clear hcz13_0
     try clear hcz13_1
     try clear hcz13_2
     try clear hcz13_3
     try clear hcz15_0
     try clear hcz15_1
     try clear hcz15_2
     try clear hcz15_3
     try clear hcz16_0
     try clear hcz16_1
     try clear hcz20_0
     try clear hcz20_1
     try clear hcz9_0
     try clear hcz9_1
     try clear hcz9_2
     try clear hcz9_3
     try clear hfz10_0
     try clear hfz10_1
     try clear hfz12_0
     try clear hfz12_1
     try clear hfz13_0
     try clear hfz13_1
     try clear hfz13_2
     try clear hfz13_3
     try clear hfz15_0
     try clear hfz15_1
     try clear hfz15_2
     try clear hfz15_3
     try clear hfz16_0
     try clear hfz16_1
     try clear hfz20_0
     try clear hfz20_1
     try clear hfz9_0
     try clear hfz9_1
     try clear hfz9_2
     try clear hfz9_3
     try clear p2
     obtain ⟨x23_2, rfl, HA, HK2, BK229, BK230, HB⟩ := hrel
     cases gk with
     | zero => exact absurd HA.out (by simp [spec_l7Command.l0])
     | succ k2 =>
      have H := HA.out
      clear HA
      simp only [spec_l7Command.l0] at H
      by_cases c21 : x23_2 < (l1_1.length : Int)
      ·rw [if_pos c21] at H
       have c21b0 : decide (x23_2 < (l1_1.length : Int)) = true := decide_eq_true c21
       clear c21
       by_cases c22 : 0 ≤ x23_2
       ·rw [if_pos c22] at H
        have c22b0 : decide (0 ≤ x23_2) = true := decide_eq_true c22
        clear c22
        by_cases c23 : x23_2 < (l1_1.length : Int)
        ·rw [if_pos c23] at H
         have c23b0 : decide (x23_2 < (l1_1.length : Int)) = true := decide_eq_true c23
         clear c23
         obtain ⟨t234, A240, H⟩ := Sh.bd H
         have A24 := am_ A240
         clear A240
         by_cases c25 : t234 = true
         ·subst c25
          rw [if_pos rfl] at H
          by_cases c26 : x23_2 > 0
          ·rw [if_pos c26] at H
           have c26b0 : decide (0 < x23_2) = true := decide_eq_true c26
           clear c26
           obtain ⟨ji27, hj1⟩ : ∃ j_ : Int, (wrap64 (x23_2 - 1)) = j_ := ⟨_, rfl⟩
           replace H : (if 0 ≤ (ji27) then (if (ji27) < (l1_1.length : Int) then (if ((rd_T102 l1_1 (ji27)).f0) ≥ ((rd_T102 l1_1 x23_2).f0) then (some false) else ((spec_l2Kind.f k2 a0_0 a0_1 ((rd_T102 l1_1 x23_2).f1)).bind fun t236 => (if t236 = 1 then (spec_l7Command.l0 k2 l1_1 (l1_1.length : Int) (wrap64 (x23_2 + 1)) a0_0 a0_1 l0_2 l0_3 l1_0 l1_1) else (some false)))) else (none)) else (none)) = some r := by first | (rw [hj1] at H; exact H) | (simp only [hj1] at H ⊢; exact H)
           (try rw [hj1] at A24)
           have hji27w : (IntKind.i64.wrap (x23_2 - 1)) = ji27 := (i64_w _).trans hj1
           by_cases c28 : 0 ≤ (ji27)
           ·rw [if_pos c28] at H
            have c28b0 : decide (0 ≤ (ji27)) = true := decide_eq_true c28
            clear c28
            by_cases c29 : (ji27) < (l1_1.length : Int)
            ·rw [if_pos c29] at H
             have c29b0 : decide ((ji27) < (l1_1.length : Int)) = true := decide_eq_true c29
             clear c29
             by_cases c30 : ((rd_T102 l1_1 (ji27)).f0) ≥ ((rd_T102 l1_1 x23_2).f0)
             ·rw [if_pos c30] at H
              have c30b0 : decide (((rd_T102 l1_1 x23_2).f0) ≤ ((rd_T102 l1_1 (ji27)).f0)) = true := decide_eq_true c30
              clear c30
              obtain rfl := Option.some.inj H
              have p232 : 0 ≤ (x23_2 : Int) := Sh.od
              have q232 : x23_2 < (l1_1.length : Int) := Sh.od
              obtain ⟨ad232, A232_1, c232_1, e232, hx232_0, hx232_1, hl232_1, hi232_1⟩ := at_T102 HR1_1.out x23_2 p232 q232
              cases e232
              (try replace hx232_0 := (HB.out.cell (World.block_lt_of_cell? w _ hx232_0)).trans hx232_0)
              (try replace hx232_1 := (HB.out.cell (World.block_lt_of_cell? w _ hx232_1)).trans hx232_1)
              have HR232_1 := am_ hi232_1
              have HC232_1 := am_ hl232_1
              clear hi232_1 hl232_1
              replace p232 := eq_true p232
              replace q232 := eq_true q232
              try go_wp2_with (first | ((with_reducible refine gate_dst (N := 6) rfl ?_); (try (refine gate_guard (by rfl) ?_; dsimp only)); refine Sh.bx (N := 6) (cs := #[.int .i64 0, .slice none 0 0]) (t := 102) (h := ?_); intro gb233 hg w31 hbox hb; have BK233 := am_ hbox; have GW233 := am_ (Sh.gw (w := w) hg); have GE233 := am_ (Sh.gw (w := w) hg); replace HB := am_ (below_step Sh.bw hb); have NB229_233 := am_ (Sh.nl hg BK229.out); have NB233_229 := am_ (Sh.ng hg BK229.out); replace BK229 := am_ (Sh.bb BK229.out hb); have NB230_233 := am_ (Sh.nl hg BK230.out); have NB233_230 := am_ (Sh.ng hg BK230.out); replace BK230 := am_ (Sh.bb BK230.out hb); clear hb hbox hg; have hnb32 := NB233_229.out; have hnc32 := NB229_233.out; have hnb33 := NB233_230.out; have hnc33 := NB230_233.out; obtain ⟨hcz34_0, hcz34_1, hfz34_0, hfz34_1⟩ := Sh.b2 BK233.out))
              have n0_ : Aside0 (((w31.setCell ⟨gb233, 0, none⟩ (.int .i64 ((rd_T102 l1_1 x23_2).f0))).setCell ⟨gb233, 1, none⟩ (.slice A232_1 ((rd_T102 l1_1 x23_2).f1).length c232_1)).heap[gb229]? = some (.cells #[.int .i64 a0_0, .int .i64 a0_1, .slice A0_2 l0_2.length c0_2, .slice A0_3 l0_3.length c0_3] 33 (0, 0))) := ⟨by (with_reducible repeat (first | refine blk_drewN ?_ _ | refine blk_drew ?_ | refine blk_alloc ?_ _)); refine blk_far ?_ NB229_233.out _; (with_reducible repeat (first | refine blk_drewN ?_ _ | refine blk_drew ?_ | refine blk_alloc ?_ _)); refine blk_far ?_ NB229_233.out _; (with_reducible repeat (first | refine blk_drewN ?_ _ | refine blk_drew ?_ | refine blk_alloc ?_ _)); exact BK229.out⟩
              have n1_ : Aside0 (((w31.setCell ⟨gb233, 0, none⟩ (.int .i64 ((rd_T102 l1_1 x23_2).f0))).setCell ⟨gb233, 1, none⟩ (.slice A232_1 ((rd_T102 l1_1 x23_2).f1).length c232_1)).heap[gb230]? = some (.cells #[.slice A1_0 l1_0.length c1_0, .slice (some ad232) l1_1.length c1_1] 71 (0, 0))) := ⟨by (with_reducible repeat (first | refine blk_drewN ?_ _ | refine blk_drew ?_ | refine blk_alloc ?_ _)); refine blk_far ?_ NB230_233.out _; (with_reducible repeat (first | refine blk_drewN ?_ _ | refine blk_drew ?_ | refine blk_alloc ?_ _)); refine blk_far ?_ NB230_233.out _; (with_reducible repeat (first | refine blk_drewN ?_ _ | refine blk_drew ?_ | refine blk_alloc ?_ _)); exact BK230.out⟩
              have n2_ : Aside0 (((w31.setCell ⟨gb233, 0, none⟩ (.int .i64 ((rd_T102 l1_1 x23_2).f0))).setCell ⟨gb233, 1, none⟩ (.slice A232_1 ((rd_T102 l1_1 x23_2).f1).length c232_1)).heap[gb233]? = some (.cells #[.int .i64 ((rd_T102 l1_1 x23_2).f0), .slice A232_1 ((rd_T102 l1_1 x23_2).f1).length c232_1] 102 (0, 0))) := ⟨by (with_reducible repeat (first | refine blk_drewN ?_ _ | refine blk_drew ?_ | refine blk_alloc ?_ _)); refine blk_put (cs := #[.int .i64 ((rd_T102 l1_1 x23_2).f0), .slice none 0 0]) ?_ 1 _ rfl; (with_reducible repeat (first | refine blk_drewN ?_ _ | refine blk_drew ?_ | refine blk_alloc ?_ _)); refine blk_put (cs := #[.int .i64 0, .slice none 0 0]) ?_ 0 _ rfl; (with_reducible repeat (first | refine blk_drewN ?_ _ | refine blk_drew ?_ | refine blk_alloc ?_ _)); exact BK233.out⟩
              have n3_ : Aside0 (Below w.heap.size w ((w31.setCell ⟨gb233, 0, none⟩ (.int .i64 ((rd_T102 l1_1 x23_2).f0))).setCell ⟨gb233, 1, none⟩ (.slice A232_1 ((rd_T102 l1_1 x23_2).f1).length c232_1))) := ⟨Sh.bw⟩
              (try clear BK229)
              (try clear BK230)
              (try clear BK233)
              (try clear HB)
              generalize ((w31.setCell ⟨gb233, 0, none⟩ (.int .i64 ((rd_T102 l1_1 x23_2).f0))).setCell ⟨gb233, 1, none⟩ (.slice A232_1 ((rd_T102 l1_1 x23_2).f1).length c232_1)) = w35 at n0_ n1_ n2_ n3_ ⊢
              have BK229 := n0_
              have BK230 := n1_
              have BK233 := n2_
              have HB := n3_
              clear n0_ n1_ n2_ n3_
              replace BK229 := am_ (blk_drew BK229.out)
              replace BK230 := am_ (blk_drew BK230.out)
              replace BK233 := am_ (blk_drew BK233.out)
              replace HB := am_ (below_drew1 HB.out)
              have p235 : 0 ≤ ((ji27) : Int) := Sh.od
              have q235 : (ji27) < (l1_1.length : Int) := Sh.od
              obtain ⟨ad235, A235_1, c235_1, e235, hx235_0, hx235_1, hl235_1, hi235_1⟩ := at_T102 HR1_1.out (ji27) p235 q235
              have hw235_1 := hx235_1
              have hw235_0 := hx235_0
              obtain rfl : ad232 = ad235 := (by injection e235)
              (try replace hx235_0 := (HB.out.cell (World.block_lt_of_cell? w _ hx235_0)).trans hx235_0)
              (try replace hx235_1 := (HB.out.cell (World.block_lt_of_cell? w _ hx235_1)).trans hx235_1)
              have HR235_1 := am_ hi235_1
              have HC235_1 := am_ hl235_1
              clear hi235_1 hl235_1
              replace p235 := eq_true p235
              replace q235 := eq_true q235
              refine start_ (n := 33) (S := fun w' => w'.cell? ⟨gb233, 0, none⟩ = some (.int .i64 ((rd_T102 l1_1 x23_2).f0)) ∧ w'.cell? ⟨gb233, 1, none⟩ = some (.slice A232_1 ((rd_T102 l1_1 x23_2).f1).length c232_1) ∧ w'.cell? ⟨gb229, 0, none⟩ = some (.int .i64 a0_0) ∧ w'.cell? ⟨gb229, 1, none⟩ = some (.int .i64 a0_1) ∧ w'.cell? ⟨gb229, 2, none⟩ = some (.slice A0_2 l0_2.length c0_2) ∧ w'.cell? ⟨gb229, 3, none⟩ = some (.slice A0_3 l0_3.length c0_3) ∧ w'.cell? ⟨gb230, 0, none⟩ = some (.slice A1_0 l1_0.length c1_0) ∧ w'.cell? ⟨gb230, 1, none⟩ = some (.slice (some ad232) l1_1.length c1_1) ∧ w'.cell? (ad232.add (((ji27)).toNat * 2)) = some (.int .i64 ((rd_T102 l1_1 (ji27)).f0)) ∧ w'.cell? ⟨(ad232.add (((ji27)).toNat * 2)).block, (ad232.add (((ji27)).toNat * 2)).off + 1, none⟩ = some (.slice A235_1 ((rd_T102 l1_1 (ji27)).f1).length c235_1)) (ds := []) (Sh.nm 33 0) (by kernel_rfl) rfl rfl Sh.cs (fun hHeld => ?_); refine with_tabW spec_l7Command.tab6 spec_l7Command.bits6 (fun HT_ HW_ => ?_)
              generalize w35.drew = w36 at BK229 BK230 BK233 HB HR235_1 hx235_0 hx235_1 hHeld ⊢
              refine Sh.qA 0 ?_; refine Sh.qA 2 ?_; refine Sh.qT 1 hHeld ?_; refine Sh.qT 3 hHeld ?_; refine Sh.qA 4 ?_
              refine Sh.oC 5 Try.func60 #[.int .i64 ((rd_T102 l1_1 x23_2).f0), .int .i64 0, .int .i64 (wrap64 (a0_1 - 1))] fun K hK => ?_
              with_reducible refine (spec_l1In.calls ((rd_T102 l1_1 x23_2).f0) 0 (wrap64 (a0_1 - 1)) true _ A24.out).mono ?_
              rintro e w' ⟨rfl, ⟨nd, rfl⟩⟩
              refine ⟨_, rfl, ?_⟩
              refine Sh.kN hK Sh.cs fun hHeld => ?_
              clear hK K
              refine Sh.qA 6 ?_; refine Sh.qA 7 ?_; refine Sh.qA 8 ?_; refine Sh.qA 9 ?_; refine Sh.qA 10 ?_; refine Sh.qA 11 ?_; refine Sh.qA 13 ?_; refine Sh.qA 14 ?_; refine Sh.qA 18 ?_; refine Sh.qT 12 hHeld ?_; refine Sh.qA 15 ?_; refine Sh.qA 16 ?_; refine Sh.qT 17 hHeld ?_; refine Sh.qT 19 hHeld ?_; refine Sh.qA 20 ?_; refine Sh.qA 21 ?_; refine Sh.qA 22 ?_; refine Sh.qA 23 ?_; refine Sh.qU 24 ?_; refine Sh.qU 25 ?_; refine Sh.qU 26 ?_; refine Sh.qU 27 ?_; refine Sh.qU 28 ?_; refine Sh.qU 29 ?_; refine Sh.qU 30 ?_; refine Sh.qU 31 ?_; refine Sh.qA 32 ?_
              refine done_ (done_of HT_.out (by kernel_rfl)) ?_
              try go_wp2
              go_ret
              exact ⟨by first | rfl | (simp [errW_none, errW_some] <;> rfl) | (simp only [← hj1]; first | rfl | (simp [errW_none, errW_some] <;> rfl)) | (simp [*, errW_none, errW_some] <;> rfl), Sh.bw⟩
             ·rw [if_neg c30] at H
              have c30b0 : decide (((rd_T102 l1_1 x23_2).f0) ≤ ((rd_T102 l1_1 (ji27)).f0)) = false := decide_eq_false c30
              clear c30
              obtain ⟨t236, A370, H⟩ := Sh.bd H
              have A37 := am_ A370
              clear A370
              by_cases c38 : t236 = 1
              ·rw [if_pos c38] at H
               have c38b0 : (t236 == 1) = true := beq_iff_eq.mpr c38
               have c38b1 : (t236 != 1) = false := bne_eq_false_iff_eq.mpr c38
               clear c38
               have H' := am_ H
               clear H
               have p232 : 0 ≤ (x23_2 : Int) := Sh.od
               have q232 : x23_2 < (l1_1.length : Int) := Sh.od
               obtain ⟨ad232, A232_1, c232_1, e232, hx232_0, hx232_1, hl232_1, hi232_1⟩ := at_T102 HR1_1.out x23_2 p232 q232
               cases e232
               (try replace hx232_0 := (HB.out.cell (World.block_lt_of_cell? w _ hx232_0)).trans hx232_0)
               (try replace hx232_1 := (HB.out.cell (World.block_lt_of_cell? w _ hx232_1)).trans hx232_1)
               have HR232_1 := am_ hi232_1
               have HC232_1 := am_ hl232_1
               clear hi232_1 hl232_1
               replace p232 := eq_true p232
               replace q232 := eq_true q232
               try go_wp2_with (first | ((with_reducible refine gate_dst (N := 6) rfl ?_); (try (refine gate_guard (by rfl) ?_; dsimp only)); refine Sh.bx (N := 6) (cs := #[.int .i64 0, .slice none 0 0]) (t := 102) (h := ?_); intro gb233 hg w39 hbox hb; have BK233 := am_ hbox; have GW233 := am_ (Sh.gw (w := w) hg); have GE233 := am_ (Sh.gw (w := w) hg); replace HB := am_ (below_step Sh.bw hb); have NB229_233 := am_ (Sh.nl hg BK229.out); have NB233_229 := am_ (Sh.ng hg BK229.out); replace BK229 := am_ (Sh.bb BK229.out hb); have NB230_233 := am_ (Sh.nl hg BK230.out); have NB233_230 := am_ (Sh.ng hg BK230.out); replace BK230 := am_ (Sh.bb BK230.out hb); clear hb hbox hg; have hnb40 := NB233_229.out; have hnc40 := NB229_233.out; have hnb41 := NB233_230.out; have hnc41 := NB230_233.out; obtain ⟨hcz42_0, hcz42_1, hfz42_0, hfz42_1⟩ := Sh.b2 BK233.out))
               have n0_ : Aside0 (((w39.setCell ⟨gb233, 0, none⟩ (.int .i64 ((rd_T102 l1_1 x23_2).f0))).setCell ⟨gb233, 1, none⟩ (.slice A232_1 ((rd_T102 l1_1 x23_2).f1).length c232_1)).heap[gb229]? = some (.cells #[.int .i64 a0_0, .int .i64 a0_1, .slice A0_2 l0_2.length c0_2, .slice A0_3 l0_3.length c0_3] 33 (0, 0))) := ⟨by (with_reducible repeat (first | refine blk_drewN ?_ _ | refine blk_drew ?_ | refine blk_alloc ?_ _)); refine blk_far ?_ NB229_233.out _; (with_reducible repeat (first | refine blk_drewN ?_ _ | refine blk_drew ?_ | refine blk_alloc ?_ _)); refine blk_far ?_ NB229_233.out _; (with_reducible repeat (first | refine blk_drewN ?_ _ | refine blk_drew ?_ | refine blk_alloc ?_ _)); exact BK229.out⟩
               have n1_ : Aside0 (((w39.setCell ⟨gb233, 0, none⟩ (.int .i64 ((rd_T102 l1_1 x23_2).f0))).setCell ⟨gb233, 1, none⟩ (.slice A232_1 ((rd_T102 l1_1 x23_2).f1).length c232_1)).heap[gb230]? = some (.cells #[.slice A1_0 l1_0.length c1_0, .slice (some ad232) l1_1.length c1_1] 71 (0, 0))) := ⟨by (with_reducible repeat (first | refine blk_drewN ?_ _ | refine blk_drew ?_ | refine blk_alloc ?_ _)); refine blk_far ?_ NB230_233.out _; (with_reducible repeat (first | refine blk_drewN ?_ _ | refine blk_drew ?_ | refine blk_alloc ?_ _)); refine blk_far ?_ NB230_233.out _; (with_reducible repeat (first | refine blk_drewN ?_ _ | refine blk_drew ?_ | refine blk_alloc ?_ _)); exact BK230.out⟩
               have n2_ : Aside0 (((w39.setCell ⟨gb233, 0, none⟩ (.int .i64 ((rd_T102 l1_1 x23_2).f0))).setCell ⟨gb233, 1, none⟩ (.slice A232_1 ((rd_T102 l1_1 x23_2).f1).length c232_1)).heap[gb233]? = some (.cells #[.int .i64 ((rd_T102 l1_1 x23_2).f0), .slice A232_1 ((rd_T102 l1_1 x23_2).f1).length c232_1] 102 (0, 0))) := ⟨by (with_reducible repeat (first | refine blk_drewN ?_ _ | refine blk_drew ?_ | refine blk_alloc ?_ _)); refine blk_put (cs := #[.int .i64 ((rd_T102 l1_1 x23_2).f0), .slice none 0 0]) ?_ 1 _ rfl; (with_reducible repeat (first | refine blk_drewN ?_ _ | refine blk_drew ?_ | refine blk_alloc ?_ _)); refine blk_put (cs := #[.int .i64 0, .slice none 0 0]) ?_ 0 _ rfl; (with_reducible repeat (first | refine blk_drewN ?_ _ | refine blk_drew ?_ | refine blk_alloc ?_ _)); exact BK233.out⟩
               have n3_ : Aside0 (Below w.heap.size w ((w39.setCell ⟨gb233, 0, none⟩ (.int .i64 ((rd_T102 l1_1 x23_2).f0))).setCell ⟨gb233, 1, none⟩ (.slice A232_1 ((rd_T102 l1_1 x23_2).f1).length c232_1))) := ⟨Sh.bw⟩
               (try clear BK229)
               (try clear BK230)
               (try clear BK233)
               (try clear HB)
               generalize ((w39.setCell ⟨gb233, 0, none⟩ (.int .i64 ((rd_T102 l1_1 x23_2).f0))).setCell ⟨gb233, 1, none⟩ (.slice A232_1 ((rd_T102 l1_1 x23_2).f1).length c232_1)) = w43 at n0_ n1_ n2_ n3_ ⊢
               have BK229 := n0_
               have BK230 := n1_
               have BK233 := n2_
               have HB := n3_
               clear n0_ n1_ n2_ n3_
               replace BK229 := am_ (blk_drew BK229.out)
               replace BK230 := am_ (blk_drew BK230.out)
               replace BK233 := am_ (blk_drew BK233.out)
               replace HB := am_ (below_drew1 HB.out)
               have p235 : 0 ≤ ((ji27) : Int) := Sh.od
               have q235 : (ji27) < (l1_1.length : Int) := Sh.od
               obtain ⟨ad235, A235_1, c235_1, e235, hx235_0, hx235_1, hl235_1, hi235_1⟩ := at_T102 HR1_1.out (ji27) p235 q235
               have hw235_1 := hx235_1
               have hw235_0 := hx235_0
               obtain rfl : ad232 = ad235 := (by injection e235)
               (try replace hx235_0 := (HB.out.cell (World.block_lt_of_cell? w _ hx235_0)).trans hx235_0)
               (try replace hx235_1 := (HB.out.cell (World.block_lt_of_cell? w _ hx235_1)).trans hx235_1)
               have HR235_1 := am_ hi235_1
               have HC235_1 := am_ hl235_1
               clear hi235_1 hl235_1
               replace p235 := eq_true p235
               replace q235 := eq_true q235
               refine start_ (n := 33) (S := fun w' => w'.cell? ⟨gb233, 0, none⟩ = some (.int .i64 ((rd_T102 l1_1 x23_2).f0)) ∧ w'.cell? ⟨gb233, 1, none⟩ = some (.slice A232_1 ((rd_T102 l1_1 x23_2).f1).length c232_1) ∧ w'.cell? ⟨gb229, 0, none⟩ = some (.int .i64 a0_0) ∧ w'.cell? ⟨gb229, 1, none⟩ = some (.int .i64 a0_1) ∧ w'.cell? ⟨gb229, 2, none⟩ = some (.slice A0_2 l0_2.length c0_2) ∧ w'.cell? ⟨gb229, 3, none⟩ = some (.slice A0_3 l0_3.length c0_3) ∧ w'.cell? ⟨gb230, 0, none⟩ = some (.slice A1_0 l1_0.length c1_0) ∧ w'.cell? ⟨gb230, 1, none⟩ = some (.slice (some ad232) l1_1.length c1_1) ∧ w'.cell? (ad232.add (((ji27)).toNat * 2)) = some (.int .i64 ((rd_T102 l1_1 (ji27)).f0)) ∧ w'.cell? ⟨(ad232.add (((ji27)).toNat * 2)).block, (ad232.add (((ji27)).toNat * 2)).off + 1, none⟩ = some (.slice A235_1 ((rd_T102 l1_1 (ji27)).f1).length c235_1)) (ds := []) (Sh.nm 33 0) (by kernel_rfl) rfl rfl Sh.cs (fun hHeld => ?_); refine with_tabW spec_l7Command.tab6 spec_l7Command.bits6 (fun HT_ HW_ => ?_)
               generalize w43.drew = w44 at BK229 BK230 BK233 HB HR235_1 hx235_0 hx235_1 hHeld ⊢
               refine Sh.qA 0 ?_; refine Sh.qA 2 ?_; refine Sh.qT 1 hHeld ?_; refine Sh.qT 3 hHeld ?_; refine Sh.qA 4 ?_
               refine Sh.oC 5 Try.func60 #[.int .i64 ((rd_T102 l1_1 x23_2).f0), .int .i64 0, .int .i64 (wrap64 (a0_1 - 1))] fun K hK => ?_
               with_reducible refine (spec_l1In.calls ((rd_T102 l1_1 x23_2).f0) 0 (wrap64 (a0_1 - 1)) true _ A24.out).mono ?_
               rintro e w' ⟨rfl, ⟨nd, rfl⟩⟩
               refine ⟨_, rfl, ?_⟩
               refine Sh.kN hK Sh.cs fun hHeld => ?_
               clear hK K
               refine Sh.qA 6 ?_; refine Sh.qA 7 ?_; refine Sh.qA 8 ?_; refine Sh.qA 9 ?_; refine Sh.qA 10 ?_; refine Sh.qA 11 ?_; refine Sh.qA 13 ?_; refine Sh.qA 14 ?_; refine Sh.qA 18 ?_; refine Sh.qT 12 hHeld ?_; refine Sh.qA 15 ?_; refine Sh.qA 16 ?_; refine Sh.qT 17 hHeld ?_; refine Sh.qT 19 hHeld ?_; refine Sh.qA 20 ?_; refine Sh.qA 21 ?_; refine Sh.qA 22 ?_; refine Sh.qA 23 ?_; refine Sh.qA 24 ?_; refine Sh.qA 26 ?_; refine Sh.qA 28 ?_; refine Sh.qT 25 hHeld ?_; refine Sh.qT 27 hHeld ?_; refine Sh.qT 29 hHeld ?_
               refine Sh.oC 30 Try.func73 #[.int .i64 a0_0, .int .i64 a0_1, .slice A232_1 ((rd_T102 l1_1 x23_2).f1).length c232_1] fun K hK => ?_
               with_reducible refine (spec_l2Kind.calls k2 a0_0 a0_1 _ _ ((rd_T102 l1_1 x23_2).f1) t236 _ ?side1 ?side2 A37.out).mono ?_
               (case side1 => repeat (first | exact (Kd.C_below HR232_1.out Sh.bw) | (with_reducible first | refine Kd.C_alloc ?_ _ | refine Kd.C_drewN ?_ _ | refine Kd.C_drew ?_)))
               (case side2 => exact HC232_1.out)
               rintro e w45 ⟨rfl, hb⟩
               refine ⟨_, rfl, ?_⟩
               replace BK229 := am_ (Sh.bb BK229.out hb)
               replace BK230 := am_ (Sh.bb BK230.out hb)
               replace BK233 := am_ (Sh.bb BK233.out hb)
               replace HB := am_ (below_step Sh.bw hb)
               (try clear hb)
               (try clear hb2)
               (try clear hk)
               (try clear hi)
               refine Sh.kN hK Sh.cs fun hHeld => ?_
               clear hK K
               refine Sh.qA 31 ?_; refine Sh.qA 32 ?_
               refine done_ (done_of HT_.out (by kernel_rfl)) ?_
               try go_wp2
               go_roundg k2
               case measure => have := HJ2.out; have := HK2.out; omega
               case rel => exact ⟨(wrap64 (x23_2 + 1)), (Sh.es), H', ⟨by have := HJ2.out; have := HK2.out; omega⟩, ⟨by (with_reducible repeat (first | refine blk_drewN ?_ _ | refine blk_drew ?_ | refine blk_alloc ?_ _)); exact BK229.out⟩, ⟨by (with_reducible repeat (first | refine blk_drewN ?_ _ | refine blk_drew ?_ | refine blk_alloc ?_ _)); exact BK230.out⟩, ⟨Sh.bw⟩⟩
              ·rw [if_neg c38] at H
               have c38b0 : (t236 == 1) = false := beq_eq_false_iff_ne.mpr c38
               have c38b1 : (t236 != 1) = true := bne_iff_ne.mpr c38
               obtain rfl := Option.some.inj H
               have p232 : 0 ≤ (x23_2 : Int) := Sh.od
               have q232 : x23_2 < (l1_1.length : Int) := Sh.od
               obtain ⟨ad232, A232_1, c232_1, e232, hx232_0, hx232_1, hl232_1, hi232_1⟩ := at_T102 HR1_1.out x23_2 p232 q232
               cases e232
               (try replace hx232_0 := (HB.out.cell (World.block_lt_of_cell? w _ hx232_0)).trans hx232_0)
               (try replace hx232_1 := (HB.out.cell (World.block_lt_of_cell? w _ hx232_1)).trans hx232_1)
               have HR232_1 := am_ hi232_1
               have HC232_1 := am_ hl232_1
               clear hi232_1 hl232_1
               replace p232 := eq_true p232
               replace q232 := eq_true q232
               try go_wp2_with (first | ((with_reducible refine gate_dst (N := 6) rfl ?_); (try (refine gate_guard (by rfl) ?_; dsimp only)); refine Sh.bx (N := 6) (cs := #[.int .i64 0, .slice none 0 0]) (t := 102) (h := ?_); intro gb233 hg w46 hbox hb; have BK233 := am_ hbox; have GW233 := am_ (Sh.gw (w := w) hg); have GE233 := am_ (Sh.gw (w := w) hg); replace HB := am_ (below_step Sh.bw hb); have NB229_233 := am_ (Sh.nl hg BK229.out); have NB233_229 := am_ (Sh.ng hg BK229.out); replace BK229 := am_ (Sh.bb BK229.out hb); have NB230_233 := am_ (Sh.nl hg BK230.out); have NB233_230 := am_ (Sh.ng hg BK230.out); replace BK230 := am_ (Sh.bb BK230.out hb); clear hb hbox hg; have hnb47 := NB233_229.out; have hnc47 := NB229_233.out; have hnb48 := NB233_230.out; have hnc48 := NB230_233.out; obtain ⟨hcz49_0, hcz49_1, hfz49_0, hfz49_1⟩ := Sh.b2 BK233.out))
               have n0_ : Aside0 (((w46.setCell ⟨gb233, 0, none⟩ (.int .i64 ((rd_T102 l1_1 x23_2).f0))).setCell ⟨gb233, 1, none⟩ (.slice A232_1 ((rd_T102 l1_1 x23_2).f1).length c232_1)).heap[gb229]? = some (.cells #[.int .i64 a0_0, .int .i64 a0_1, .slice A0_2 l0_2.length c0_2, .slice A0_3 l0_3.length c0_3] 33 (0, 0))) := ⟨by (with_reducible repeat (first | refine blk_drewN ?_ _ | refine blk_drew ?_ | refine blk_alloc ?_ _)); refine blk_far ?_ NB229_233.out _; (with_reducible repeat (first | refine blk_drewN ?_ _ | refine blk_drew ?_ | refine blk_alloc ?_ _)); refine blk_far ?_ NB229_233.out _; (with_reducible repeat (first | refine blk_drewN ?_ _ | refine blk_drew ?_ | refine blk_alloc ?_ _)); exact BK229.out⟩
               have n1_ : Aside0 (((w46.setCell ⟨gb233, 0, none⟩ (.int .i64 ((rd_T102 l1_1 x23_2).f0))).setCell ⟨gb233, 1, none⟩ (.slice A232_1 ((rd_T102 l1_1 x23_2).f1).length c232_1)).heap[gb230]? = some (.cells #[.slice A1_0 l1_0.length c1_0, .slice (some ad232) l1_1.length c1_1] 71 (0, 0))) := ⟨by (with_reducible repeat (first | refine blk_drewN ?_ _ | refine blk_drew ?_ | refine blk_alloc ?_ _)); refine blk_far ?_ NB230_233.out _; (with_reducible repeat (first | refine blk_drewN ?_ _ | refine blk_drew ?_ | refine blk_alloc ?_ _)); refine blk_far ?_ NB230_233.out _; (with_reducible repeat (first | refine blk_drewN ?_ _ | refine blk_drew ?_ | refine blk_alloc ?_ _)); exact BK230.out⟩
               have n2_ : Aside0 (((w46.setCell ⟨gb233, 0, none⟩ (.int .i64 ((rd_T102 l1_1 x23_2).f0))).setCell ⟨gb233, 1, none⟩ (.slice A232_1 ((rd_T102 l1_1 x23_2).f1).length c232_1)).heap[gb233]? = some (.cells #[.int .i64 ((rd_T102 l1_1 x23_2).f0), .slice A232_1 ((rd_T102 l1_1 x23_2).f1).length c232_1] 102 (0, 0))) := ⟨by (with_reducible repeat (first | refine blk_drewN ?_ _ | refine blk_drew ?_ | refine blk_alloc ?_ _)); refine blk_put (cs := #[.int .i64 ((rd_T102 l1_1 x23_2).f0), .slice none 0 0]) ?_ 1 _ rfl; (with_reducible repeat (first | refine blk_drewN ?_ _ | refine blk_drew ?_ | refine blk_alloc ?_ _)); refine blk_put (cs := #[.int .i64 0, .slice none 0 0]) ?_ 0 _ rfl; (with_reducible repeat (first | refine blk_drewN ?_ _ | refine blk_drew ?_ | refine blk_alloc ?_ _)); exact BK233.out⟩
               have n3_ : Aside0 (Below w.heap.size w ((w46.setCell ⟨gb233, 0, none⟩ (.int .i64 ((rd_T102 l1_1 x23_2).f0))).setCell ⟨gb233, 1, none⟩ (.slice A232_1 ((rd_T102 l1_1 x23_2).f1).length c232_1))) := ⟨Sh.bw⟩
               (try clear BK229)
               (try clear BK230)
               (try clear BK233)
               (try clear HB)
               generalize ((w46.setCell ⟨gb233, 0, none⟩ (.int .i64 ((rd_T102 l1_1 x23_2).f0))).setCell ⟨gb233, 1, none⟩ (.slice A232_1 ((rd_T102 l1_1 x23_2).f1).length c232_1)) = w50 at n0_ n1_ n2_ n3_ ⊢
               have BK229 := n0_
               have BK230 := n1_
               have BK233 := n2_
               have HB := n3_
               clear n0_ n1_ n2_ n3_
               replace BK229 := am_ (blk_drew BK229.out)
               replace BK230 := am_ (blk_drew BK230.out)
               replace BK233 := am_ (blk_drew BK233.out)
               replace HB := am_ (below_drew1 HB.out)
               have p235 : 0 ≤ ((ji27) : Int) := Sh.od
               have q235 : (ji27) < (l1_1.length : Int) := Sh.od
               obtain ⟨ad235, A235_1, c235_1, e235, hx235_0, hx235_1, hl235_1, hi235_1⟩ := at_T102 HR1_1.out (ji27) p235 q235
               have hw235_1 := hx235_1
               have hw235_0 := hx235_0
               obtain rfl : ad232 = ad235 := (by injection e235)
               (try replace hx235_0 := (HB.out.cell (World.block_lt_of_cell? w _ hx235_0)).trans hx235_0)
               (try replace hx235_1 := (HB.out.cell (World.block_lt_of_cell? w _ hx235_1)).trans hx235_1)
               have HR235_1 := am_ hi235_1
               have HC235_1 := am_ hl235_1
               clear hi235_1 hl235_1
               replace p235 := eq_true p235
               replace q235 := eq_true q235
               refine start_ (n := 33) (S := fun w' => w'.cell? ⟨gb233, 0, none⟩ = some (.int .i64 ((rd_T102 l1_1 x23_2).f0)) ∧ w'.cell? ⟨gb233, 1, none⟩ = some (.slice A232_1 ((rd_T102 l1_1 x23_2).f1).length c232_1) ∧ w'.cell? ⟨gb229, 0, none⟩ = some (.int .i64 a0_0) ∧ w'.cell? ⟨gb229, 1, none⟩ = some (.int .i64 a0_1) ∧ w'.cell? ⟨gb229, 2, none⟩ = some (.slice A0_2 l0_2.length c0_2) ∧ w'.cell? ⟨gb229, 3, none⟩ = some (.slice A0_3 l0_3.length c0_3) ∧ w'.cell? ⟨gb230, 0, none⟩ = some (.slice A1_0 l1_0.length c1_0) ∧ w'.cell? ⟨gb230, 1, none⟩ = some (.slice (some ad232) l1_1.length c1_1) ∧ w'.cell? (ad232.add (((ji27)).toNat * 2)) = some (.int .i64 ((rd_T102 l1_1 (ji27)).f0)) ∧ w'.cell? ⟨(ad232.add (((ji27)).toNat * 2)).block, (ad232.add (((ji27)).toNat * 2)).off + 1, none⟩ = some (.slice A235_1 ((rd_T102 l1_1 (ji27)).f1).length c235_1)) (ds := []) (Sh.nm 33 0) (by kernel_rfl) rfl rfl Sh.cs (fun hHeld => ?_); refine with_tabW spec_l7Command.tab6 spec_l7Command.bits6 (fun HT_ HW_ => ?_)
               generalize w50.drew = w51 at BK229 BK230 BK233 HB HR235_1 hx235_0 hx235_1 hHeld ⊢
               refine Sh.qA 0 ?_; refine Sh.qA 2 ?_; refine Sh.qT 1 hHeld ?_; refine Sh.qT 3 hHeld ?_; refine Sh.qA 4 ?_
               refine Sh.oC 5 Try.func60 #[.int .i64 ((rd_T102 l1_1 x23_2).f0), .int .i64 0, .int .i64 (wrap64 (a0_1 - 1))] fun K hK => ?_
               with_reducible refine (spec_l1In.calls ((rd_T102 l1_1 x23_2).f0) 0 (wrap64 (a0_1 - 1)) true _ A24.out).mono ?_
               rintro e w' ⟨rfl, ⟨nd, rfl⟩⟩
               refine ⟨_, rfl, ?_⟩
               refine Sh.kN hK Sh.cs fun hHeld => ?_
               clear hK K
               refine Sh.qA 6 ?_; refine Sh.qA 7 ?_; refine Sh.qA 8 ?_; refine Sh.qA 9 ?_; refine Sh.qA 10 ?_; refine Sh.qA 11 ?_; refine Sh.qA 13 ?_; refine Sh.qA 14 ?_; refine Sh.qA 18 ?_; refine Sh.qT 12 hHeld ?_; refine Sh.qA 15 ?_; refine Sh.qA 16 ?_; refine Sh.qT 17 hHeld ?_; refine Sh.qT 19 hHeld ?_; refine Sh.qA 20 ?_; refine Sh.qA 21 ?_; refine Sh.qA 22 ?_; refine Sh.qA 23 ?_; refine Sh.qA 24 ?_; refine Sh.qA 26 ?_; refine Sh.qA 28 ?_; refine Sh.qT 25 hHeld ?_; refine Sh.qT 27 hHeld ?_; refine Sh.qT 29 hHeld ?_
               refine Sh.oC 30 Try.func73 #[.int .i64 a0_0, .int .i64 a0_1, .slice A232_1 ((rd_T102 l1_1 x23_2).f1).length c232_1] fun K hK => ?_
               with_reducible refine (spec_l2Kind.calls k2 a0_0 a0_1 _ _ ((rd_T102 l1_1 x23_2).f1) t236 _ ?side1 ?side2 A37.out).mono ?_
               (case side1 => repeat (first | exact (Kd.C_below HR232_1.out Sh.bw) | (with_reducible first | refine Kd.C_alloc ?_ _ | refine Kd.C_drewN ?_ _ | refine Kd.C_drew ?_)))
               (case side2 => exact HC232_1.out)
               rintro e w52 ⟨rfl, hb⟩
               refine ⟨_, rfl, ?_⟩
               replace BK229 := am_ (Sh.bb BK229.out hb)
               replace BK230 := am_ (Sh.bb BK230.out hb)
               replace BK233 := am_ (Sh.bb BK233.out hb)
               replace HB := am_ (below_step Sh.bw hb)
               (try clear hb)
               (try clear hb2)
               (try clear hk)
               (try clear hi)
               refine Sh.kN hK Sh.cs fun hHeld => ?_
               clear hK K
               refine Sh.qA 31 ?_; refine Sh.qA 32 ?_
               refine done_ (done_of HT_.out (by kernel_rfl)) ?_
               try go_wp2
               go_ret
               exact ⟨by first | rfl | (simp [errW_none, errW_some] <;> rfl) | (simp only [← hj1]; first | rfl | (simp [errW_none, errW_some] <;> rfl)) | (simp [*, errW_none, errW_some] <;> rfl), Sh.bw⟩
            ·rw [if_neg c29] at H
             exact absurd H (by simp)
           ·rw [if_neg c28] at H
            exact absurd H (by simp)
          ·rw [if_neg c26] at H
           have c26b0 : decide (0 < x23_2) = false := decide_eq_false c26
           clear c26
           obtain ⟨t237, A530, H⟩ := Sh.bd H
           have A53 := am_ A530
           clear A530
           by_cases c54 : t237 = 1
           ·rw [if_pos c54] at H
            have c54b0 : (t237 == 1) = true := beq_iff_eq.mpr c54
            have c54b1 : (t237 != 1) = false := bne_eq_false_iff_eq.mpr c54
            clear c54
            have H' := am_ H
            clear H
            have p232 : 0 ≤ (x23_2 : Int) := Sh.od
            have q232 : x23_2 < (l1_1.length : Int) := Sh.od
            obtain ⟨ad232, A232_1, c232_1, e232, hx232_0, hx232_1, hl232_1, hi232_1⟩ := at_T102 HR1_1.out x23_2 p232 q232
            cases e232
            (try replace hx232_0 := (HB.out.cell (World.block_lt_of_cell? w _ hx232_0)).trans hx232_0)
            (try replace hx232_1 := (HB.out.cell (World.block_lt_of_cell? w _ hx232_1)).trans hx232_1)
            have HR232_1 := am_ hi232_1
            have HC232_1 := am_ hl232_1
            clear hi232_1 hl232_1
            replace p232 := eq_true p232
            replace q232 := eq_true q232
            try go_wp2_with (first | ((with_reducible refine gate_dst (N := 6) rfl ?_); (try (refine gate_guard (by rfl) ?_; dsimp only)); refine Sh.bx (N := 6) (cs := #[.int .i64 0, .slice none 0 0]) (t := 102) (h := ?_); intro gb233 hg w55 hbox hb; have BK233 := am_ hbox; have GW233 := am_ (Sh.gw (w := w) hg); have GE233 := am_ (Sh.gw (w := w) hg); replace HB := am_ (below_step Sh.bw hb); have NB229_233 := am_ (Sh.nl hg BK229.out); have NB233_229 := am_ (Sh.ng hg BK229.out); replace BK229 := am_ (Sh.bb BK229.out hb); have NB230_233 := am_ (Sh.nl hg BK230.out); have NB233_230 := am_ (Sh.ng hg BK230.out); replace BK230 := am_ (Sh.bb BK230.out hb); clear hb hbox hg; have hnb56 := NB233_229.out; have hnc56 := NB229_233.out; have hnb57 := NB233_230.out; have hnc57 := NB230_233.out; obtain ⟨hcz58_0, hcz58_1, hfz58_0, hfz58_1⟩ := Sh.b2 BK233.out))
            have n0_ : Aside0 (((w55.setCell ⟨gb233, 0, none⟩ (.int .i64 ((rd_T102 l1_1 x23_2).f0))).setCell ⟨gb233, 1, none⟩ (.slice A232_1 ((rd_T102 l1_1 x23_2).f1).length c232_1)).heap[gb229]? = some (.cells #[.int .i64 a0_0, .int .i64 a0_1, .slice A0_2 l0_2.length c0_2, .slice A0_3 l0_3.length c0_3] 33 (0, 0))) := ⟨by (with_reducible repeat (first | refine blk_drewN ?_ _ | refine blk_drew ?_ | refine blk_alloc ?_ _)); refine blk_far ?_ NB229_233.out _; (with_reducible repeat (first | refine blk_drewN ?_ _ | refine blk_drew ?_ | refine blk_alloc ?_ _)); refine blk_far ?_ NB229_233.out _; (with_reducible repeat (first | refine blk_drewN ?_ _ | refine blk_drew ?_ | refine blk_alloc ?_ _)); exact BK229.out⟩
            have n1_ : Aside0 (((w55.setCell ⟨gb233, 0, none⟩ (.int .i64 ((rd_T102 l1_1 x23_2).f0))).setCell ⟨gb233, 1, none⟩ (.slice A232_1 ((rd_T102 l1_1 x23_2).f1).length c232_1)).heap[gb230]? = some (.cells #[.slice A1_0 l1_0.length c1_0, .slice (some ad232) l1_1.length c1_1] 71 (0, 0))) := ⟨by (with_reducible repeat (first | refine blk_drewN ?_ _ | refine blk_drew ?_ | refine blk_alloc ?_ _)); refine blk_far ?_ NB230_233.out _; (with_reducible repeat (first | refine blk_drewN ?_ _ | refine blk_drew ?_ | refine blk_alloc ?_ _)); refine blk_far ?_ NB230_233.out _; (with_reducible repeat (first | refine blk_drewN ?_ _ | refine blk_drew ?_ | refine blk_alloc ?_ _)); exact BK230.out⟩
            have n2_ : Aside0 (((w55.setCell ⟨gb233, 0, none⟩ (.int .i64 ((rd_T102 l1_1 x23_2).f0))).setCell ⟨gb233, 1, none⟩ (.slice A232_1 ((rd_T102 l1_1 x23_2).f1).length c232_1)).heap[gb233]? = some (.cells #[.int .i64 ((rd_T102 l1_1 x23_2).f0), .slice A232_1 ((rd_T102 l1_1 x23_2).f1).length c232_1] 102 (0, 0))) := ⟨by (with_reducible repeat (first | refine blk_drewN ?_ _ | refine blk_drew ?_ | refine blk_alloc ?_ _)); refine blk_put (cs := #[.int .i64 ((rd_T102 l1_1 x23_2).f0), .slice none 0 0]) ?_ 1 _ rfl; (with_reducible repeat (first | refine blk_drewN ?_ _ | refine blk_drew ?_ | refine blk_alloc ?_ _)); refine blk_put (cs := #[.int .i64 0, .slice none 0 0]) ?_ 0 _ rfl; (with_reducible repeat (first | refine blk_drewN ?_ _ | refine blk_drew ?_ | refine blk_alloc ?_ _)); exact BK233.out⟩
            have n3_ : Aside0 (Below w.heap.size w ((w55.setCell ⟨gb233, 0, none⟩ (.int .i64 ((rd_T102 l1_1 x23_2).f0))).setCell ⟨gb233, 1, none⟩ (.slice A232_1 ((rd_T102 l1_1 x23_2).f1).length c232_1))) := ⟨Sh.bw⟩
            (try clear BK229)
            (try clear BK230)
            (try clear BK233)
            (try clear HB)
            generalize ((w55.setCell ⟨gb233, 0, none⟩ (.int .i64 ((rd_T102 l1_1 x23_2).f0))).setCell ⟨gb233, 1, none⟩ (.slice A232_1 ((rd_T102 l1_1 x23_2).f1).length c232_1)) = w59 at n0_ n1_ n2_ n3_ ⊢
            have BK229 := n0_
            have BK230 := n1_
            have BK233 := n2_
            have HB := n3_
            clear n0_ n1_ n2_ n3_
            replace BK229 := am_ (blk_drew BK229.out)
            replace BK230 := am_ (blk_drew BK230.out)
            replace BK233 := am_ (blk_drew BK233.out)
            replace HB := am_ (below_drew1 HB.out)
            refine start_ (n := 33) (S := fun w' => w'.cell? ⟨gb233, 0, none⟩ = some (.int .i64 ((rd_T102 l1_1 x23_2).f0)) ∧ w'.cell? ⟨gb233, 1, none⟩ = some (.slice A232_1 ((rd_T102 l1_1 x23_2).f1).length c232_1) ∧ w'.cell? ⟨gb229, 0, none⟩ = some (.int .i64 a0_0) ∧ w'.cell? ⟨gb229, 1, none⟩ = some (.int .i64 a0_1) ∧ w'.cell? ⟨gb229, 2, none⟩ = some (.slice A0_2 l0_2.length c0_2) ∧ w'.cell? ⟨gb229, 3, none⟩ = some (.slice A0_3 l0_3.length c0_3)) (ds := []) (Sh.nm 33 0) (by kernel_rfl) rfl rfl Sh.cs (fun hHeld => ?_); refine with_tabW spec_l7Command.tab6 spec_l7Command.bits6 (fun HT_ HW_ => ?_)
            generalize w59.drew = w60 at BK229 BK230 BK233 HB hHeld ⊢
            refine Sh.qA 0 ?_; refine Sh.qA 2 ?_; refine Sh.qT 1 hHeld ?_; refine Sh.qT 3 hHeld ?_; refine Sh.qA 4 ?_
            refine Sh.oC 5 Try.func60 #[.int .i64 ((rd_T102 l1_1 x23_2).f0), .int .i64 0, .int .i64 (wrap64 (a0_1 - 1))] fun K hK => ?_
            with_reducible refine (spec_l1In.calls ((rd_T102 l1_1 x23_2).f0) 0 (wrap64 (a0_1 - 1)) true _ A24.out).mono ?_
            rintro e w' ⟨rfl, ⟨nd, rfl⟩⟩
            refine ⟨_, rfl, ?_⟩
            refine Sh.kN hK Sh.cs fun hHeld => ?_
            clear hK K
            refine Sh.qA 6 ?_; refine Sh.qA 7 ?_; refine Sh.qA 8 ?_; refine Sh.qA 9 ?_; refine Sh.qA 10 ?_; refine Sh.qU 11 ?_; refine Sh.qU 12 ?_; refine Sh.qU 13 ?_; refine Sh.qU 14 ?_; refine Sh.qU 15 ?_; refine Sh.qU 16 ?_; refine Sh.qU 17 ?_; refine Sh.qU 18 ?_; refine Sh.qU 19 ?_; refine Sh.qU 20 ?_; refine Sh.qA 21 ?_; refine Sh.qA 22 ?_; refine Sh.qA 23 ?_; refine Sh.qA 24 ?_; refine Sh.qA 26 ?_; refine Sh.qA 28 ?_; refine Sh.qT 25 hHeld ?_; refine Sh.qT 27 hHeld ?_; refine Sh.qT 29 hHeld ?_
            refine Sh.oC 30 Try.func73 #[.int .i64 a0_0, .int .i64 a0_1, .slice A232_1 ((rd_T102 l1_1 x23_2).f1).length c232_1] fun K hK => ?_
            with_reducible refine (spec_l2Kind.calls k2 a0_0 a0_1 _ _ ((rd_T102 l1_1 x23_2).f1) t237 _ ?side1 ?side2 A53.out).mono ?_
            (case side1 => repeat (first | exact (Kd.C_below HR232_1.out Sh.bw) | (with_reducible first | refine Kd.C_alloc ?_ _ | refine Kd.C_drewN ?_ _ | refine Kd.C_drew ?_)))
            (case side2 => exact HC232_1.out)
            rintro e w61 ⟨rfl, hb⟩
            refine ⟨_, rfl, ?_⟩
            replace BK229 := am_ (Sh.bb BK229.out hb)
            replace BK230 := am_ (Sh.bb BK230.out hb)
            replace BK233 := am_ (Sh.bb BK233.out hb)
            replace HB := am_ (below_step Sh.bw hb)
            (try clear hb)
            (try clear hb2)
            (try clear hk)
            (try clear hi)
            refine Sh.kN hK Sh.cs fun hHeld => ?_
            clear hK K
            refine Sh.qA 31 ?_; refine Sh.qA 32 ?_
            refine done_ (done_of HT_.out (by kernel_rfl)) ?_
            try go_wp2
            go_roundg k2
            case measure => have := HJ2.out; have := HK2.out; omega
            case rel => exact ⟨(wrap64 (x23_2 + 1)), (Sh.es), H', ⟨by have := HJ2.out; have := HK2.out; omega⟩, ⟨by (with_reducible repeat (first | refine blk_drewN ?_ _ | refine blk_drew ?_ | refine blk_alloc ?_ _)); exact BK229.out⟩, ⟨by (with_reducible repeat (first | refine blk_drewN ?_ _ | refine blk_drew ?_ | refine blk_alloc ?_ _)); exact BK230.out⟩, ⟨Sh.bw⟩⟩
           ·rw [if_neg c54] at H
            have c54b0 : (t237 == 1) = false := beq_eq_false_iff_ne.mpr c54
            have c54b1 : (t237 != 1) = true := bne_iff_ne.mpr c54
            obtain rfl := Option.some.inj H
            have p232 : 0 ≤ (x23_2 : Int) := Sh.od
            have q232 : x23_2 < (l1_1.length : Int) := Sh.od
            obtain ⟨ad232, A232_1, c232_1, e232, hx232_0, hx232_1, hl232_1, hi232_1⟩ := at_T102 HR1_1.out x23_2 p232 q232
            cases e232
            (try replace hx232_0 := (HB.out.cell (World.block_lt_of_cell? w _ hx232_0)).trans hx232_0)
            (try replace hx232_1 := (HB.out.cell (World.block_lt_of_cell? w _ hx232_1)).trans hx232_1)
            have HR232_1 := am_ hi232_1
            have HC232_1 := am_ hl232_1
            clear hi232_1 hl232_1
            replace p232 := eq_true p232
            replace q232 := eq_true q232
            try go_wp2_with (first | ((with_reducible refine gate_dst (N := 6) rfl ?_); (try (refine gate_guard (by rfl) ?_; dsimp only)); refine Sh.bx (N := 6) (cs := #[.int .i64 0, .slice none 0 0]) (t := 102) (h := ?_); intro gb233 hg w62 hbox hb; have BK233 := am_ hbox; have GW233 := am_ (Sh.gw (w := w) hg); have GE233 := am_ (Sh.gw (w := w) hg); replace HB := am_ (below_step Sh.bw hb); have NB229_233 := am_ (Sh.nl hg BK229.out); have NB233_229 := am_ (Sh.ng hg BK229.out); replace BK229 := am_ (Sh.bb BK229.out hb); have NB230_233 := am_ (Sh.nl hg BK230.out); have NB233_230 := am_ (Sh.ng hg BK230.out); replace BK230 := am_ (Sh.bb BK230.out hb); clear hb hbox hg; have hnb63 := NB233_229.out; have hnc63 := NB229_233.out; have hnb64 := NB233_230.out; have hnc64 := NB230_233.out; obtain ⟨hcz65_0, hcz65_1, hfz65_0, hfz65_1⟩ := Sh.b2 BK233.out))
            have n0_ : Aside0 (((w62.setCell ⟨gb233, 0, none⟩ (.int .i64 ((rd_T102 l1_1 x23_2).f0))).setCell ⟨gb233, 1, none⟩ (.slice A232_1 ((rd_T102 l1_1 x23_2).f1).length c232_1)).heap[gb229]? = some (.cells #[.int .i64 a0_0, .int .i64 a0_1, .slice A0_2 l0_2.length c0_2, .slice A0_3 l0_3.length c0_3] 33 (0, 0))) := ⟨by (with_reducible repeat (first | refine blk_drewN ?_ _ | refine blk_drew ?_ | refine blk_alloc ?_ _)); refine blk_far ?_ NB229_233.out _; (with_reducible repeat (first | refine blk_drewN ?_ _ | refine blk_drew ?_ | refine blk_alloc ?_ _)); refine blk_far ?_ NB229_233.out _; (with_reducible repeat (first | refine blk_drewN ?_ _ | refine blk_drew ?_ | refine blk_alloc ?_ _)); exact BK229.out⟩
            have n1_ : Aside0 (((w62.setCell ⟨gb233, 0, none⟩ (.int .i64 ((rd_T102 l1_1 x23_2).f0))).setCell ⟨gb233, 1, none⟩ (.slice A232_1 ((rd_T102 l1_1 x23_2).f1).length c232_1)).heap[gb230]? = some (.cells #[.slice A1_0 l1_0.length c1_0, .slice (some ad232) l1_1.length c1_1] 71 (0, 0))) := ⟨by (with_reducible repeat (first | refine blk_drewN ?_ _ | refine blk_drew ?_ | refine blk_alloc ?_ _)); refine blk_far ?_ NB230_233.out _; (with_reducible repeat (first | refine blk_drewN ?_ _ | refine blk_drew ?_ | refine blk_alloc ?_ _)); refine blk_far ?_ NB230_233.out _; (with_reducible repeat (first | refine blk_drewN ?_ _ | refine blk_drew ?_ | refine blk_alloc ?_ _)); exact BK230.out⟩
            have n2_ : Aside0 (((w62.setCell ⟨gb233, 0, none⟩ (.int .i64 ((rd_T102 l1_1 x23_2).f0))).setCell ⟨gb233, 1, none⟩ (.slice A232_1 ((rd_T102 l1_1 x23_2).f1).length c232_1)).heap[gb233]? = some (.cells #[.int .i64 ((rd_T102 l1_1 x23_2).f0), .slice A232_1 ((rd_T102 l1_1 x23_2).f1).length c232_1] 102 (0, 0))) := ⟨by (with_reducible repeat (first | refine blk_drewN ?_ _ | refine blk_drew ?_ | refine blk_alloc ?_ _)); refine blk_put (cs := #[.int .i64 ((rd_T102 l1_1 x23_2).f0), .slice none 0 0]) ?_ 1 _ rfl; (with_reducible repeat (first | refine blk_drewN ?_ _ | refine blk_drew ?_ | refine blk_alloc ?_ _)); refine blk_put (cs := #[.int .i64 0, .slice none 0 0]) ?_ 0 _ rfl; (with_reducible repeat (first | refine blk_drewN ?_ _ | refine blk_drew ?_ | refine blk_alloc ?_ _)); exact BK233.out⟩
            have n3_ : Aside0 (Below w.heap.size w ((w62.setCell ⟨gb233, 0, none⟩ (.int .i64 ((rd_T102 l1_1 x23_2).f0))).setCell ⟨gb233, 1, none⟩ (.slice A232_1 ((rd_T102 l1_1 x23_2).f1).length c232_1))) := ⟨Sh.bw⟩
            (try clear BK229)
            (try clear BK230)
            (try clear BK233)
            (try clear HB)
            generalize ((w62.setCell ⟨gb233, 0, none⟩ (.int .i64 ((rd_T102 l1_1 x23_2).f0))).setCell ⟨gb233, 1, none⟩ (.slice A232_1 ((rd_T102 l1_1 x23_2).f1).length c232_1)) = w66 at n0_ n1_ n2_ n3_ ⊢
            have BK229 := n0_
            have BK230 := n1_
            have BK233 := n2_
            have HB := n3_
            clear n0_ n1_ n2_ n3_
            replace BK229 := am_ (blk_drew BK229.out)
            replace BK230 := am_ (blk_drew BK230.out)
            replace BK233 := am_ (blk_drew BK233.out)
            replace HB := am_ (below_drew1 HB.out)
            refine start_ (n := 33) (S := fun w' => w'.cell? ⟨gb233, 0, none⟩ = some (.int .i64 ((rd_T102 l1_1 x23_2).f0)) ∧ w'.cell? ⟨gb233, 1, none⟩ = some (.slice A232_1 ((rd_T102 l1_1 x23_2).f1).length c232_1) ∧ w'.cell? ⟨gb229, 0, none⟩ = some (.int .i64 a0_0) ∧ w'.cell? ⟨gb229, 1, none⟩ = some (.int .i64 a0_1) ∧ w'.cell? ⟨gb229, 2, none⟩ = some (.slice A0_2 l0_2.length c0_2) ∧ w'.cell? ⟨gb229, 3, none⟩ = some (.slice A0_3 l0_3.length c0_3)) (ds := []) (Sh.nm 33 0) (by kernel_rfl) rfl rfl Sh.cs (fun hHeld => ?_); refine with_tabW spec_l7Command.tab6 spec_l7Command.bits6 (fun HT_ HW_ => ?_)
            generalize w66.drew = w67 at BK229 BK230 BK233 HB hHeld ⊢
            refine Sh.qA 0 ?_; refine Sh.qA 2 ?_; refine Sh.qT 1 hHeld ?_; refine Sh.qT 3 hHeld ?_; refine Sh.qA 4 ?_
            refine Sh.oC 5 Try.func60 #[.int .i64 ((rd_T102 l1_1 x23_2).f0), .int .i64 0, .int .i64 (wrap64 (a0_1 - 1))] fun K hK => ?_
            with_reducible refine (spec_l1In.calls ((rd_T102 l1_1 x23_2).f0) 0 (wrap64 (a0_1 - 1)) true _ A24.out).mono ?_
            rintro e w' ⟨rfl, ⟨nd, rfl⟩⟩
            refine ⟨_, rfl, ?_⟩
            refine Sh.kN hK Sh.cs fun hHeld => ?_
            clear hK K
            refine Sh.qA 6 ?_; refine Sh.qA 7 ?_; refine Sh.qA 8 ?_; refine Sh.qA 9 ?_; refine Sh.qA 10 ?_; refine Sh.qU 11 ?_; refine Sh.qU 12 ?_; refine Sh.qU 13 ?_; refine Sh.qU 14 ?_; refine Sh.qU 15 ?_; refine Sh.qU 16 ?_; refine Sh.qU 17 ?_; refine Sh.qU 18 ?_; refine Sh.qU 19 ?_; refine Sh.qU 20 ?_; refine Sh.qA 21 ?_; refine Sh.qA 22 ?_; refine Sh.qA 23 ?_; refine Sh.qA 24 ?_; refine Sh.qA 26 ?_; refine Sh.qA 28 ?_; refine Sh.qT 25 hHeld ?_; refine Sh.qT 27 hHeld ?_; refine Sh.qT 29 hHeld ?_
            refine Sh.oC 30 Try.func73 #[.int .i64 a0_0, .int .i64 a0_1, .slice A232_1 ((rd_T102 l1_1 x23_2).f1).length c232_1] fun K hK => ?_
            with_reducible refine (spec_l2Kind.calls k2 a0_0 a0_1 _ _ ((rd_T102 l1_1 x23_2).f1) t237 _ ?side1 ?side2 A53.out).mono ?_
            (case side1 => repeat (first | exact (Kd.C_below HR232_1.out Sh.bw) | (with_reducible first | refine Kd.C_alloc ?_ _ | refine Kd.C_drewN ?_ _ | refine Kd.C_drew ?_)))
            (case side2 => exact HC232_1.out)
            rintro e w68 ⟨rfl, hb⟩
            refine ⟨_, rfl, ?_⟩
            replace BK229 := am_ (Sh.bb BK229.out hb)
            replace BK230 := am_ (Sh.bb BK230.out hb)
            replace BK233 := am_ (Sh.bb BK233.out hb)
            replace HB := am_ (below_step Sh.bw hb)
            (try clear hb)
            (try clear hb2)
            (try clear hk)
            (try clear hi)
            refine Sh.kN hK Sh.cs fun hHeld => ?_
            clear hK K
            refine Sh.qA 31 ?_; refine Sh.qA 32 ?_
            refine done_ (done_of HT_.out (by kernel_rfl)) ?_
            try go_wp2
            go_ret
            exact ⟨Sh.eR, Sh.bw⟩
         ·replace c25 := Bool.eq_false_iff.mpr c25
          subst c25
          rw [Sh.nf] at H
          obtain rfl := Option.some.inj H
          have p232 : 0 ≤ (x23_2 : Int) := Sh.od
          have q232 : x23_2 < (l1_1.length : Int) := Sh.od
          obtain ⟨ad232, A232_1, c232_1, e232, hx232_0, hx232_1, hl232_1, hi232_1⟩ := at_T102 HR1_1.out x23_2 p232 q232
          cases e232
          (try replace hx232_0 := (HB.out.cell (World.block_lt_of_cell? w _ hx232_0)).trans hx232_0)
          (try replace hx232_1 := (HB.out.cell (World.block_lt_of_cell? w _ hx232_1)).trans hx232_1)
          have HR232_1 := am_ hi232_1
          have HC232_1 := am_ hl232_1
          clear hi232_1 hl232_1
          replace p232 := eq_true p232
          replace q232 := eq_true q232
          try go_wp2_with (first | ((with_reducible refine gate_dst (N := 6) rfl ?_); (try (refine gate_guard (by rfl) ?_; dsimp only)); refine Sh.bx (N := 6) (cs := #[.int .i64 0, .slice none 0 0]) (t := 102) (h := ?_); intro gb233 hg w69 hbox hb; have BK233 := am_ hbox; have GW233 := am_ (Sh.gw (w := w) hg); have GE233 := am_ (Sh.gw (w := w) hg); replace HB := am_ (below_step Sh.bw hb); have NB229_233 := am_ (Sh.nl hg BK229.out); have NB233_229 := am_ (Sh.ng hg BK229.out); replace BK229 := am_ (Sh.bb BK229.out hb); have NB230_233 := am_ (Sh.nl hg BK230.out); have NB233_230 := am_ (Sh.ng hg BK230.out); replace BK230 := am_ (Sh.bb BK230.out hb); clear hb hbox hg; have hnb70 := NB233_229.out; have hnc70 := NB229_233.out; have hnb71 := NB233_230.out; have hnc71 := NB230_233.out; obtain ⟨hcz72_0, hcz72_1, hfz72_0, hfz72_1⟩ := Sh.b2 BK233.out))
          have n0_ : Aside0 (((w69.setCell ⟨gb233, 0, none⟩ (.int .i64 ((rd_T102 l1_1 x23_2).f0))).setCell ⟨gb233, 1, none⟩ (.slice A232_1 ((rd_T102 l1_1 x23_2).f1).length c232_1)).heap[gb229]? = some (.cells #[.int .i64 a0_0, .int .i64 a0_1, .slice A0_2 l0_2.length c0_2, .slice A0_3 l0_3.length c0_3] 33 (0, 0))) := ⟨by (with_reducible repeat (first | refine blk_drewN ?_ _ | refine blk_drew ?_ | refine blk_alloc ?_ _)); refine blk_far ?_ NB229_233.out _; (with_reducible repeat (first | refine blk_drewN ?_ _ | refine blk_drew ?_ | refine blk_alloc ?_ _)); refine blk_far ?_ NB229_233.out _; (with_reducible repeat (first | refine blk_drewN ?_ _ | refine blk_drew ?_ | refine blk_alloc ?_ _)); exact BK229.out⟩
          have n1_ : Aside0 (((w69.setCell ⟨gb233, 0, none⟩ (.int .i64 ((rd_T102 l1_1 x23_2).f0))).setCell ⟨gb233, 1, none⟩ (.slice A232_1 ((rd_T102 l1_1 x23_2).f1).length c232_1)).heap[gb230]? = some (.cells #[.slice A1_0 l1_0.length c1_0, .slice (some ad232) l1_1.length c1_1] 71 (0, 0))) := ⟨by (with_reducible repeat (first | refine blk_drewN ?_ _ | refine blk_drew ?_ | refine blk_alloc ?_ _)); refine blk_far ?_ NB230_233.out _; (with_reducible repeat (first | refine blk_drewN ?_ _ | refine blk_drew ?_ | refine blk_alloc ?_ _)); refine blk_far ?_ NB230_233.out _; (with_reducible repeat (first | refine blk_drewN ?_ _ | refine blk_drew ?_ | refine blk_alloc ?_ _)); exact BK230.out⟩
          have n2_ : Aside0 (((w69.setCell ⟨gb233, 0, none⟩ (.int .i64 ((rd_T102 l1_1 x23_2).f0))).setCell ⟨gb233, 1, none⟩ (.slice A232_1 ((rd_T102 l1_1 x23_2).f1).length c232_1)).heap[gb233]? = some (.cells #[.int .i64 ((rd_T102 l1_1 x23_2).f0), .slice A232_1 ((rd_T102 l1_1 x23_2).f1).length c232_1] 102 (0, 0))) := ⟨by (with_reducible repeat (first | refine blk_drewN ?_ _ | refine blk_drew ?_ | refine blk_alloc ?_ _)); refine blk_put (cs := #[.int .i64 ((rd_T102 l1_1 x23_2).f0), .slice none 0 0]) ?_ 1 _ rfl; (with_reducible repeat (first | refine blk_drewN ?_ _ | refine blk_drew ?_ | refine blk_alloc ?_ _)); refine blk_put (cs := #[.int .i64 0, .slice none 0 0]) ?_ 0 _ rfl; (with_reducible repeat (first | refine blk_drewN ?_ _ | refine blk_drew ?_ | refine blk_alloc ?_ _)); exact BK233.out⟩
          have n3_ : Aside0 (Below w.heap.size w ((w69.setCell ⟨gb233, 0, none⟩ (.int .i64 ((rd_T102 l1_1 x23_2).f0))).setCell ⟨gb233, 1, none⟩ (.slice A232_1 ((rd_T102 l1_1 x23_2).f1).length c232_1))) := ⟨Sh.bw⟩
          (try clear BK229)
          (try clear BK230)
          (try clear BK233)
          (try clear HB)
          generalize ((w69.setCell ⟨gb233, 0, none⟩ (.int .i64 ((rd_T102 l1_1 x23_2).f0))).setCell ⟨gb233, 1, none⟩ (.slice A232_1 ((rd_T102 l1_1 x23_2).f1).length c232_1)) = w73 at n0_ n1_ n2_ n3_ ⊢
          have BK229 := n0_
          have BK230 := n1_
          have BK233 := n2_
          have HB := n3_
          clear n0_ n1_ n2_ n3_
          replace BK229 := am_ (blk_drew BK229.out)
          replace BK230 := am_ (blk_drew BK230.out)
          replace BK233 := am_ (blk_drew BK233.out)
          replace HB := am_ (below_drew1 HB.out)
          refine start_ (n := 33) (S := fun w' => w'.cell? ⟨gb233, 0, none⟩ = some (.int .i64 ((rd_T102 l1_1 x23_2).f0)) ∧ w'.cell? ⟨gb233, 1, none⟩ = some (.slice A232_1 ((rd_T102 l1_1 x23_2).f1).length c232_1) ∧ w'.cell? ⟨gb229, 0, none⟩ = some (.int .i64 a0_0) ∧ w'.cell? ⟨gb229, 1, none⟩ = some (.int .i64 a0_1) ∧ w'.cell? ⟨gb229, 2, none⟩ = some (.slice A0_2 l0_2.length c0_2) ∧ w'.cell? ⟨gb229, 3, none⟩ = some (.slice A0_3 l0_3.length c0_3)) (ds := []) (Sh.nm 33 0) (by kernel_rfl) rfl rfl Sh.cs (fun hHeld => ?_); refine with_tabW spec_l7Command.tab6 spec_l7Command.bits6 (fun HT_ HW_ => ?_)
          generalize w73.drew = w74 at BK229 BK230 BK233 HB hHeld ⊢
          refine Sh.qA 0 ?_; refine Sh.qA 2 ?_; refine Sh.qT 1 hHeld ?_; refine Sh.qT 3 hHeld ?_; refine Sh.qA 4 ?_
          refine Sh.oC 5 Try.func60 #[.int .i64 ((rd_T102 l1_1 x23_2).f0), .int .i64 0, .int .i64 (wrap64 (a0_1 - 1))] fun K hK => ?_
          with_reducible refine (spec_l1In.calls ((rd_T102 l1_1 x23_2).f0) 0 (wrap64 (a0_1 - 1)) false _ A24.out).mono ?_
          rintro e w' ⟨rfl, ⟨nd, rfl⟩⟩
          refine ⟨_, rfl, ?_⟩
          refine Sh.kN hK Sh.cs fun hHeld => ?_
          clear hK K
          refine Sh.qA 6 ?_; refine Sh.qA 7 ?_; refine Sh.qU 8 ?_; refine Sh.qU 9 ?_; refine Sh.qU 10 ?_; refine Sh.qU 11 ?_; refine Sh.qU 12 ?_; refine Sh.qU 13 ?_; refine Sh.qU 14 ?_; refine Sh.qU 15 ?_; refine Sh.qU 16 ?_; refine Sh.qU 17 ?_; refine Sh.qU 18 ?_; refine Sh.qU 19 ?_; refine Sh.qU 20 ?_; refine Sh.qU 21 ?_; refine Sh.qA 22 ?_; refine Sh.qA 23 ?_; refine Sh.qU 24 ?_; refine Sh.qU 25 ?_; refine Sh.qU 26 ?_; refine Sh.qU 27 ?_; refine Sh.qU 28 ?_; refine Sh.qU 29 ?_; refine Sh.qU 30 ?_; refine Sh.qU 31 ?_; refine Sh.qA 32 ?_
          refine done_ (done_of HT_.out (by kernel_rfl)) ?_
          try go_wp2
          go_ret
          exact ⟨Sh.eR, Sh.bw⟩
        ·rw [if_neg c23] at H
         exact absurd H (by simp)
       ·rw [if_neg c22] at H
        exact absurd H (by simp)
      ·rw [if_neg c21] at H
       have c21b0 : decide (x23_2 < (l1_1.length : Int)) = false := decide_eq_false c21
       clear c21
       obtain rfl := Option.some.inj H
       go_wp2
       go_ret
       exact ⟨Sh.eR, Sh.bw⟩
mutual
def spec_GoodProgram.j0 : Nat → Bool → Int → Int → List (S80) → List (S71) → Option (Bool)
 | 0, _, _, _, _, _ => none
 | k + 1, x16, x239000, x239001, x239002, x239003 => if x16 = true then (some false) else (spec_GoodProgram.l0 k x239003 (x239003.length : Int) 0 x239000 x239001 x239002 x239003)
def spec_GoodProgram.l0 : Nat → List (S71) → Int → Int → Int → Int → List (S80) → List (S71) → Option (Bool)
 | 0, _, _, _, _, _, _, _ => none
 | k + 1, x18, x19, x20, x239000, x239001, x239002, x239003 => if x20 < x19 then (if 0 ≤ x20 then (if x20 < (x18.length : Int) then ((spec_l7Command.f k x239000 x239001 x239002 x239003 ((rd_T71 x18 x20).f0) ((rd_T71 x18 x20).f1)).bind fun t243 => (if t243 = true then (spec_GoodProgram.l0 k x18 x19 (wrap64 (x20 + 1)) x239000 x239001 x239002 x239003) else (some false))) else (none)) else (none)) else (some true)
end
def spec_GoodProgram.f (k : Nat) (a0_0 : Int) (a0_1 : Int) (l0_2 : List (S80)) (l0_3 : List (S71)) : Option (Bool) := (spec_l7Asks.f k a0_0 a0_1 l0_2 l0_3 l0_2).bind fun t239 => (if t239 = true then ((spec_l1In.f (l0_3.length : Int) 1 6).bind fun t240 => (spec_GoodProgram.j0 k (!t240) a0_0 a0_1 l0_2 l0_3)) else (spec_GoodProgram.j0 k true a0_0 a0_1 l0_2 l0_3))
theorem spec_GoodProgram.mono_l : ∀ k, (∀ y0 y1 y2 y3 y4, LeO (spec_GoodProgram.j0 k y0 y1 y2 y3 y4) (spec_GoodProgram.j0 (k + 1) y0 y1 y2 y3 y4)) ∧ (∀ y0 y1 y2 y3 y4 y5 y6, LeO (spec_GoodProgram.l0 k y0 y1 y2 y3 y4 y5 y6) (spec_GoodProgram.l0 (k + 1) y0 y1 y2 y3 y4 y5 y6))
 | 0 => ⟨fun _ _ _ _ _ r h => by simp [spec_GoodProgram.j0] at h, fun _ _ _ _ _ _ _ r h => by simp [spec_GoodProgram.l0] at h⟩
 | k + 1 => by
  obtain ⟨ih0, ih1⟩ := spec_GoodProgram.mono_l k
  and_intros <;> intros
  all_goals (first | unfold spec_GoodProgram.j0 | unfold spec_GoodProgram.l0)
  all_goals repeat' with_reducible first | apply ih0 | apply ih1 | apply spec_l7Asks.mono | apply spec_l7Command.mono | exact LeO.refl _ | exact LeO.none _ | apply LeO.ite | refine LeO.bind ?_ fun _ => ?_
theorem spec_GoodProgram.mono : ∀ a0 a1 a2 a3 k, LeO (spec_GoodProgram.f k a0 a1 a2 a3) (spec_GoodProgram.f (k + 1) a0 a1 a2 a3) := by
 intro a0 a1 a2 a3 k
 obtain ⟨ih0, ih1⟩ := spec_GoodProgram.mono_l k
 unfold spec_GoodProgram.f
 repeat' with_reducible first | apply ih0 | apply ih1 | apply spec_l7Asks.mono | apply spec_l7Command.mono | exact LeO.refl _ | exact LeO.none _ | apply LeO.ite | refine LeO.bind ?_ fun _ => ?_
set_option maxHeartbeats 8000000 in
set_option maxRecDepth 100000 in
theorem spec_GoodProgram.calls (k : Nat) (a0_0 : Int) (a0_1 : Int) (A0_2 : Option Addr) (c0_2 : Nat) (l0_2 : List (S80)) (A0_3 : Option Addr) (c0_3 : Nat) (l0_3 : List (S71)) (r : Bool) (w : World) (hr0_2 : Kd.C k80 w A0_2 l0_2.length l0_2) (hc0_2 : l0_2.length ≤ c0_2) (hr0_3 : Kd.C k71 w A0_3 l0_3.length l0_3) (hc0_3 : l0_3.length ≤ c0_3) (h : spec_GoodProgram.f k a0_0 a0_1 l0_2 l0_3 = some r) :
  Calls Try.prog 33 #[.agg #[.int .i64 a0_0, .int .i64 a0_1, .slice A0_2 l0_2.length c0_2, .slice A0_3 l0_3.length c0_3]] w fun e w' => e = .returned (.bool r) ∧ Below w.heap.size w w' := by
 have hu33 := Try.underlying33
 have hu71 := Try.underlying71
 have HR0_2 := am_ hr0_2
 have HC0_2 := am_ hc0_2
 clear hr0_2 hc0_2
 have HR0_3 := am_ hr0_3
 have HC0_3 := am_ hc0_3
 clear hr0_3 hc0_3
 have HB := am_ (Below.refl w.heap.size w)
 have H := h
 clear h
 unfold spec_GoodProgram.f at H
 have HC2 := am_ H
 clear H
 go_enter Try.func33, Try.ntmps33
 go_upto_region 1 with (first | ((with_reducible refine gate_dst (N := 1) rfl ?_); (try (refine gate_guard (by rfl) ?_; dsimp only)); refine Sh.bx (N := 1) (cs := #[.int .i64 a0_0, .int .i64 a0_1, .slice A0_2 l0_2.length c0_2, .slice A0_3 l0_3.length c0_3]) (t := 33) (h := ?_); intro gb238 hg w3 hbox hb; have BK238 := am_ hbox; have GW238 := am_ (Sh.gw (w := w) hg); have GE238 := am_ (Sh.gw (w := w) hg); replace HB := am_ (below_step Sh.bw hb); clear hb hbox hg))
 (try simp only [Act.put, List.setIfInBounds_toArray, List.set_cons_zero, List.set_cons_succ])
 go_cut [16] (fun v16 wc => ∃ (kq : Nat) (x16_1 : Bool), v16 = .bool x16_1 ∧ Aside0 (spec_GoodProgram.j0 kq x16_1 a0_0 a0_1 l0_2 l0_3 = some r) ∧ Aside0 (kq ≤ k) ∧ Aside0 (wc.heap[gb238]? = some (.cells #[.int .i64 a0_0, .int .i64 a0_1, (.slice A0_2 l0_2.length c0_2), (.slice A0_3 l0_3.length c0_3)] 33 (0, 0))) ∧ Aside0 (Below w.heap.size w wc))
 case first =>
  have H := HC2.out
  clear HC2
  obtain ⟨t239, A40, H⟩ := Sh.bd H
  have A4 := am_ A40
  clear A40
  by_cases c5 : t239 = true
  ·subst c5
   rw [if_pos rfl] at H
   obtain ⟨t240, A60, H⟩ := Sh.bd H
   have A6 := am_ A60
   clear A60
   have H' := am_ H
   clear H
   have hcz7_0 := Sh.bc BK238.out 0
   have hcz7_1 := Sh.bc BK238.out 1
   have hcz7_2 := Sh.bc BK238.out 2
   have hcz7_3 := Sh.bc BK238.out 3
   have hfz7_0 := blk_frozen BK238.out 0
   have hfz7_1 := blk_frozen BK238.out 1
   have hfz7_2 := blk_frozen BK238.out 2
   have hfz7_3 := blk_frozen BK238.out 3
   go_wp2_with (first | ((with_reducible refine gate_callee (f := 52) rfl ?_); refine Sh.gL (some 8) Try.func52 #[.agg #[.int .i64 a0_0, .int .i64 a0_1, .slice A0_2 l0_2.length c0_2, .slice A0_3 l0_3.length c0_3], .slice A0_2 l0_2.length c0_2] (h := ?_); (with_reducible refine (spec_l7Asks.calls k a0_0 a0_1 _ _ l0_2 _ _ l0_3 _ _ l0_2 true _ (Sh.cB HR0_2.out) HC0_2.out (Sh.cB HR0_3.out) HC0_3.out (Sh.cB HR0_2.out) HC0_2.out A4.out).mono ?_); rintro e w8 ⟨rfl, hb⟩; refine ⟨_, rfl, ?_⟩; replace BK238 := am_ (Sh.bb BK238.out hb); replace HB := am_ (below_step Sh.bw hb); (try clear hb); (try clear hb2); (try clear hk); (try clear hi); obtain ⟨hcz9_0, hcz9_1, hcz9_2, hcz9_3, hfz9_0, hfz9_1, hfz9_2, hfz9_3⟩ := Sh.b4 BK238.out) | (go_at_call 60; (with_reducible refine (spec_l1In.calls (l0_3.length : Int) 1 6 t240 _ A6.out).mono ?_); rintro e w' ⟨rfl, ⟨nd, rfl⟩⟩))
   go_meet
   case rel => exact ⟨_, (!t240), (Sh.es), H', ⟨Sh.om⟩, ⟨by (with_reducible repeat (first | refine blk_drewN ?_ _ | refine blk_drew ?_ | refine blk_alloc ?_ _)); exact BK238.out⟩, ⟨Sh.bw⟩⟩
  ·replace c5 := Bool.eq_false_iff.mpr c5
   subst c5
   rw [Sh.nf] at H
   have H' := am_ H
   clear H
   have hcz10_0 := Sh.bc BK238.out 0
   have hcz10_1 := Sh.bc BK238.out 1
   have hcz10_2 := Sh.bc BK238.out 2
   have hcz10_3 := Sh.bc BK238.out 3
   have hfz10_0 := blk_frozen BK238.out 0
   have hfz10_1 := blk_frozen BK238.out 1
   have hfz10_2 := blk_frozen BK238.out 2
   have hfz10_3 := blk_frozen BK238.out 3
   go_wp2_with (first | ((with_reducible refine gate_callee (f := 52) rfl ?_); refine Sh.gL (some 8) Try.func52 #[.agg #[.int .i64 a0_0, .int .i64 a0_1, .slice A0_2 l0_2.length c0_2, .slice A0_3 l0_3.length c0_3], .slice A0_2 l0_2.length c0_2] (h := ?_); (with_reducible refine (spec_l7Asks.calls k a0_0 a0_1 _ _ l0_2 _ _ l0_3 _ _ l0_2 false _ (Sh.cB HR0_2.out) HC0_2.out (Sh.cB HR0_3.out) HC0_3.out (Sh.cB HR0_2.out) HC0_2.out A4.out).mono ?_); rintro e w11 ⟨rfl, hb⟩; refine ⟨_, rfl, ?_⟩; replace BK238 := am_ (Sh.bb BK238.out hb); replace HB := am_ (below_step Sh.bw hb); (try clear hb); (try clear hb2); (try clear hk); (try clear hi)))
   go_meet
   case rel => exact ⟨_, (true), (Sh.es), H', ⟨Sh.om⟩, ⟨by (with_reducible repeat (first | refine blk_drewN ?_ _ | refine blk_drew ?_ | refine blk_alloc ?_ _)); exact BK238.out⟩, ⟨Sh.bw⟩⟩
 case rest =>
  clear HC2
  try clear p2
  try clear c3
  try clear c5
  try clear hcz10_0
  try clear hcz10_1
  try clear hcz10_2
  try clear hcz10_3
  try clear hcz7_0
  try clear hcz7_1
  try clear hcz7_2
  try clear hcz7_3
  try clear hcz9_0
  try clear hcz9_1
  try clear hcz9_2
  try clear hcz9_3
  try clear hfz10_0
  try clear hfz10_1
  try clear hfz10_2
  try clear hfz10_3
  try clear hfz7_0
  try clear hfz7_1
  try clear hfz7_2
  try clear hfz7_3
  try clear hfz9_0
  try clear hfz9_1
  try clear hfz9_2
  try clear hfz9_3
  obtain ⟨kq, x16_1, rfl, HA, HJ1, BK238, HB⟩ := hcut
  cases kq with
  | zero => exact absurd HA.out (by simp [spec_GoodProgram.j0])
  | succ kj1 =>
   have H := HA.out
   clear HA
   simp only [spec_GoodProgram.j0] at H
   by_cases c12 : x16_1 = true
   ·subst c12
    rw [if_pos rfl] at H
    obtain rfl := Option.some.inj H
    go_wp2
    go_ret
    exact ⟨Sh.eR, Sh.bw⟩
   ·replace c12 := Bool.eq_false_iff.mpr c12
    subst c12
    rw [Sh.nf] at H
    have H' := am_ H
    clear H
    have hcz13_0 := Sh.bc BK238.out 0
    have hcz13_1 := Sh.bc BK238.out 1
    have hcz13_2 := Sh.bc BK238.out 2
    have hcz13_3 := Sh.bc BK238.out 3
    have hfz13_0 := blk_frozen BK238.out 0
    have hfz13_1 := blk_frozen BK238.out 1
    have hfz13_2 := blk_frozen BK238.out 2
    have hfz13_3 := blk_frozen BK238.out 3
    go_wp2
    go_loopg [20] kj1 (fun kq v20 w' => ∃ (x20_2 : Int), v20 = .int .i64 x20_2 ∧ Aside0 (spec_GoodProgram.l0 kq l0_3 (l0_3.length : Int) x20_2 a0_0 a0_1 l0_2 l0_3 = some r) ∧ Aside0 (kq ≤ kj1) ∧ Aside0 (w'.heap[gb238]? = some (.cells #[.int .i64 a0_0, .int .i64 a0_1, (.slice A0_2 l0_2.length c0_2), (.slice A0_3 l0_3.length c0_3)] 33 (0, 0))) ∧ Aside0 (Below w.heap.size w w'))
    case atStart => exact ⟨(0), (Sh.es), H', ⟨Nat.le_refl _⟩, ⟨by (with_reducible repeat (first | refine blk_drewN ?_ _ | refine blk_drew ?_ | refine blk_alloc ?_ _)); exact BK238.out⟩, ⟨Sh.bw⟩⟩
    case round =>
     clear H'
     try clear c1
     try clear p2
     try clear c3
     try clear c5
     try clear c12
     try clear hcz10_0
     try clear hcz10_1
     try clear hcz10_2
     try clear hcz10_3
     try clear hcz13_0
     try clear hcz13_1
     try clear hcz13_2
     try clear hcz13_3
     try clear hcz7_0
     try clear hcz7_1
     try clear hcz7_2
     try clear hcz7_3
     try clear hcz9_0
     try clear hcz9_1
     try clear hcz9_2
     try clear hcz9_3
     try clear hfz10_0
     try clear hfz10_1
     try clear hfz10_2
     try clear hfz10_3
     try clear hfz13_0
     try clear hfz13_1
     try clear hfz13_2
     try clear hfz13_3
     try clear hfz7_0
     try clear hfz7_1
     try clear hfz7_2
     try clear hfz7_3
     try clear hfz9_0
     try clear hfz9_1
     try clear hfz9_2
     try clear hfz9_3
     try clear p2
     obtain ⟨x20_2, rfl, HA, HK2, BK238, HB⟩ := hrel
     cases gk with
     | zero => exact absurd HA.out (by simp [spec_GoodProgram.l0])
     | succ k2 =>
      have H := HA.out
      clear HA
      simp only [spec_GoodProgram.l0] at H
      by_cases c14 : x20_2 < (l0_3.length : Int)
      ·rw [if_pos c14] at H
       have c14b0 : decide (x20_2 < (l0_3.length : Int)) = true := decide_eq_true c14
       clear c14
       by_cases c15 : 0 ≤ x20_2
       ·rw [if_pos c15] at H
        have c15b0 : decide (0 ≤ x20_2) = true := decide_eq_true c15
        clear c15
        by_cases c16 : x20_2 < (l0_3.length : Int)
        ·rw [if_pos c16] at H
         have c16b0 : decide (x20_2 < (l0_3.length : Int)) = true := decide_eq_true c16
         clear c16
         obtain ⟨t243, A170, H⟩ := Sh.bd H
         have A17 := am_ A170
         clear A170
         by_cases c18 : t243 = true
         ·subst c18
          rw [if_pos rfl] at H
          have H' := am_ H
          clear H
          have p241 : 0 ≤ (x20_2 : Int) := Sh.od
          have q241 : x20_2 < (l0_3.length : Int) := Sh.od
          obtain ⟨ad241, A241_0, c241_0, A241_1, c241_1, e241, hx241_0, hx241_1, hl241_0, hi241_0, hl241_1, hi241_1⟩ := at_T71 HR0_3.out x20_2 p241 q241
          cases e241
          (try replace hx241_0 := (HB.out.cell (World.block_lt_of_cell? w _ hx241_0)).trans hx241_0)
          (try replace hx241_1 := (HB.out.cell (World.block_lt_of_cell? w _ hx241_1)).trans hx241_1)
          have HR241_0 := am_ hi241_0
          have HC241_0 := am_ hl241_0
          clear hi241_0 hl241_0
          have HR241_1 := am_ hi241_1
          have HC241_1 := am_ hl241_1
          clear hi241_1 hl241_1
          replace p241 := eq_true p241
          replace q241 := eq_true q241
          go_wp2_with (first | ((with_reducible refine gate_dst (N := 4) rfl ?_); (try (refine gate_guard (by rfl) ?_; dsimp only)); refine Sh.bx (N := 4) (cs := #[.slice none 0 0, .slice none 0 0]) (t := 71) (h := ?_); intro gb242 hg w19 hbox hb; have BK242 := am_ hbox; have GW242 := am_ (Sh.gw (w := w) hg); have GE242 := am_ (Sh.gw (w := w) hg); replace HB := am_ (below_step Sh.bw hb); have NB238_242 := am_ (Sh.nl hg BK238.out); have NB242_238 := am_ (Sh.ng hg BK238.out); replace BK238 := am_ (Sh.bb BK238.out hb); clear hb hbox hg; have hnb20 := NB242_238.out; have hnc20 := NB238_242.out; obtain ⟨hcz21_0, hcz21_1, hfz21_0, hfz21_1⟩ := Sh.b2 BK242.out; obtain ⟨hcz22_0, hcz22_1, hcz22_2, hcz22_3, hfz22_0, hfz22_1, hfz22_2, hfz22_3⟩ := Sh.b4 BK238.out) | ((with_reducible refine gate_callee (f := 61) rfl ?_); refine Sh.gL (some 26) Try.func61 #[.agg #[.int .i64 a0_0, .int .i64 a0_1, .slice A0_2 l0_2.length c0_2, .slice (some ad241) l0_3.length c0_3], .agg #[.slice A241_0 ((rd_T71 l0_3 x20_2).f0).length c241_0, .slice A241_1 ((rd_T71 l0_3 x20_2).f1).length c241_1]] (h := ?_); (with_reducible refine (spec_l7Command.calls k2 a0_0 a0_1 _ _ l0_2 _ _ l0_3 _ _ ((rd_T71 l0_3 x20_2).f0) _ _ ((rd_T71 l0_3 x20_2).f1) true _ (Sh.cB HR0_2.out) HC0_2.out (Sh.cB HR0_3.out) HC0_3.out (Sh.cB HR241_0.out) HC241_0.out (Sh.cB HR241_1.out) HC241_1.out A17.out).mono ?_); rintro e w23 ⟨rfl, hb⟩; refine ⟨_, rfl, ?_⟩; replace BK238 := am_ (blk_below (g := gb238) (o := .cells #[.int .i64 a0_0, .int .i64 a0_1, .slice A0_2 l0_2.length c0_2, .slice (some ad241) l0_3.length c0_3] 33 (0, 0)) (by (with_reducible repeat (first | refine blk_drewN ?_ _ | refine blk_drew ?_ | refine blk_alloc ?_ _)); refine blk_far ?_ NB238_242.out _; (with_reducible repeat (first | refine blk_drewN ?_ _ | refine blk_drew ?_ | refine blk_alloc ?_ _)); refine blk_far ?_ NB238_242.out _; (with_reducible repeat (first | refine blk_drewN ?_ _ | refine blk_drew ?_ | refine blk_alloc ?_ _)); exact BK238.out) hb); replace BK242 := am_ (blk_below (g := gb242) (o := .cells #[.slice A241_0 ((rd_T71 l0_3 x20_2).f0).length c241_0, .slice A241_1 ((rd_T71 l0_3 x20_2).f1).length c241_1] 71 (0, 0)) (by (with_reducible repeat (first | refine blk_drewN ?_ _ | refine blk_drew ?_ | refine blk_alloc ?_ _)); refine blk_put (cs := #[.slice A241_0 ((rd_T71 l0_3 x20_2).f0).length c241_0, .slice none 0 0]) ?_ 1 _ rfl; (with_reducible repeat (first | refine blk_drewN ?_ _ | refine blk_drew ?_ | refine blk_alloc ?_ _)); refine blk_put (cs := #[.slice none 0 0, .slice none 0 0]) ?_ 0 _ rfl; (with_reducible repeat (first | refine blk_drewN ?_ _ | refine blk_drew ?_ | refine blk_alloc ?_ _)); exact BK242.out) hb); replace HB := am_ (below_step Sh.bw hb); (try clear hb); (try clear hb2); (try clear hk); (try clear hi)))
          go_roundg k2
          case measure => have := HJ1.out; have := HK2.out; omega
          case rel => exact ⟨(wrap64 (x20_2 + 1)), (Sh.es), H', ⟨by have := HJ1.out; have := HK2.out; omega⟩, ⟨by (with_reducible repeat (first | refine blk_drewN ?_ _ | refine blk_drew ?_ | refine blk_alloc ?_ _)); exact BK238.out⟩, ⟨Sh.bw⟩⟩
         ·replace c18 := Bool.eq_false_iff.mpr c18
          subst c18
          rw [Sh.nf] at H
          obtain rfl := Option.some.inj H
          have p241 : 0 ≤ (x20_2 : Int) := Sh.od
          have q241 : x20_2 < (l0_3.length : Int) := Sh.od
          obtain ⟨ad241, A241_0, c241_0, A241_1, c241_1, e241, hx241_0, hx241_1, hl241_0, hi241_0, hl241_1, hi241_1⟩ := at_T71 HR0_3.out x20_2 p241 q241
          cases e241
          (try replace hx241_0 := (HB.out.cell (World.block_lt_of_cell? w _ hx241_0)).trans hx241_0)
          (try replace hx241_1 := (HB.out.cell (World.block_lt_of_cell? w _ hx241_1)).trans hx241_1)
          have HR241_0 := am_ hi241_0
          have HC241_0 := am_ hl241_0
          clear hi241_0 hl241_0
          have HR241_1 := am_ hi241_1
          have HC241_1 := am_ hl241_1
          clear hi241_1 hl241_1
          replace p241 := eq_true p241
          replace q241 := eq_true q241
          go_wp2_with (first | ((with_reducible refine gate_dst (N := 4) rfl ?_); (try (refine gate_guard (by rfl) ?_; dsimp only)); refine Sh.bx (N := 4) (cs := #[.slice none 0 0, .slice none 0 0]) (t := 71) (h := ?_); intro gb242 hg w24 hbox hb; have BK242 := am_ hbox; have GW242 := am_ (Sh.gw (w := w) hg); have GE242 := am_ (Sh.gw (w := w) hg); replace HB := am_ (below_step Sh.bw hb); have NB238_242 := am_ (Sh.nl hg BK238.out); have NB242_238 := am_ (Sh.ng hg BK238.out); replace BK238 := am_ (Sh.bb BK238.out hb); clear hb hbox hg; have hnb25 := NB242_238.out; have hnc25 := NB238_242.out; obtain ⟨hcz26_0, hcz26_1, hfz26_0, hfz26_1⟩ := Sh.b2 BK242.out; obtain ⟨hcz27_0, hcz27_1, hcz27_2, hcz27_3, hfz27_0, hfz27_1, hfz27_2, hfz27_3⟩ := Sh.b4 BK238.out) | ((with_reducible refine gate_callee (f := 61) rfl ?_); refine Sh.gL (some 26) Try.func61 #[.agg #[.int .i64 a0_0, .int .i64 a0_1, .slice A0_2 l0_2.length c0_2, .slice (some ad241) l0_3.length c0_3], .agg #[.slice A241_0 ((rd_T71 l0_3 x20_2).f0).length c241_0, .slice A241_1 ((rd_T71 l0_3 x20_2).f1).length c241_1]] (h := ?_); (with_reducible refine (spec_l7Command.calls k2 a0_0 a0_1 _ _ l0_2 _ _ l0_3 _ _ ((rd_T71 l0_3 x20_2).f0) _ _ ((rd_T71 l0_3 x20_2).f1) false _ (Sh.cB HR0_2.out) HC0_2.out (Sh.cB HR0_3.out) HC0_3.out (Sh.cB HR241_0.out) HC241_0.out (Sh.cB HR241_1.out) HC241_1.out A17.out).mono ?_); rintro e w28 ⟨rfl, hb⟩; refine ⟨_, rfl, ?_⟩; replace BK238 := am_ (blk_below (g := gb238) (o := .cells #[.int .i64 a0_0, .int .i64 a0_1, .slice A0_2 l0_2.length c0_2, .slice (some ad241) l0_3.length c0_3] 33 (0, 0)) (by (with_reducible repeat (first | refine blk_drewN ?_ _ | refine blk_drew ?_ | refine blk_alloc ?_ _)); refine blk_far ?_ NB238_242.out _; (with_reducible repeat (first | refine blk_drewN ?_ _ | refine blk_drew ?_ | refine blk_alloc ?_ _)); refine blk_far ?_ NB238_242.out _; (with_reducible repeat (first | refine blk_drewN ?_ _ | refine blk_drew ?_ | refine blk_alloc ?_ _)); exact BK238.out) hb); replace BK242 := am_ (blk_below (g := gb242) (o := .cells #[.slice A241_0 ((rd_T71 l0_3 x20_2).f0).length c241_0, .slice A241_1 ((rd_T71 l0_3 x20_2).f1).length c241_1] 71 (0, 0)) (by (with_reducible repeat (first | refine blk_drewN ?_ _ | refine blk_drew ?_ | refine blk_alloc ?_ _)); refine blk_put (cs := #[.slice A241_0 ((rd_T71 l0_3 x20_2).f0).length c241_0, .slice none 0 0]) ?_ 1 _ rfl; (with_reducible repeat (first | refine blk_drewN ?_ _ | refine blk_drew ?_ | refine blk_alloc ?_ _)); refine blk_put (cs := #[.slice none 0 0, .slice none 0 0]) ?_ 0 _ rfl; (with_reducible repeat (first | refine blk_drewN ?_ _ | refine blk_drew ?_ | refine blk_alloc ?_ _)); exact BK242.out) hb); replace HB := am_ (below_step Sh.bw hb); (try clear hb); (try clear hb2); (try clear hk); (try clear hi)))
          go_ret
          exact ⟨Sh.eR, Sh.bw⟩
        ·rw [if_neg c16] at H
         exact absurd H (by simp)
       ·rw [if_neg c15] at H
        exact absurd H (by simp)
      ·rw [if_neg c14] at H
       have c14b0 : decide (x20_2 < (l0_3.length : Int)) = false := decide_eq_false c14
       clear c14
       obtain rfl := Option.some.inj H
       go_wp2
       go_ret
       exact ⟨Sh.eR, Sh.bw⟩
def spec_l2Words.l0 : Nat → Int → List Int → Int → Int → Option (Bool)
 | 0, _, _, _, _ => none
 | k + 1, x0, x7, x8, x9 => if x9 < x8 then (if 0 ≤ x9 then (if x9 < (x7.length : Int) then ((spec_GoodWord.f k x0 (rd x7 x9)).bind fun t245 => (if t245 = true then (spec_l2Words.l0 k x0 x7 x8 (wrap64 (x9 + 1))) else (some false))) else (none)) else (none)) else (some true)
def spec_l2Words.f (k : Nat) (a0 : Int) (l1 : List Int) : Option (Bool) := spec_l2Words.l0 k a0 l1 (l1.length : Int) 0
theorem spec_l2Words.mono_l : ∀ k, (∀ y0 y1 y2 y3, LeO (spec_l2Words.l0 k y0 y1 y2 y3) (spec_l2Words.l0 (k + 1) y0 y1 y2 y3))
 | 0 => fun _ _ _ _ r h => by simp [spec_l2Words.l0] at h
 | k + 1 => by
  have ih0 := spec_l2Words.mono_l k
  ·intro y0 y1 y2 y3
   unfold spec_l2Words.l0
   repeat' with_reducible first | apply ih0 | apply spec_GoodWord.mono | exact LeO.refl _ | exact LeO.none _ | apply LeO.ite | refine LeO.bind ?_ fun _ => ?_
theorem spec_l2Words.mono : ∀ a0 a1 k, LeO (spec_l2Words.f k a0 a1) (spec_l2Words.f (k + 1) a0 a1) := by
 intro a0 a1 k
 have ih0 := spec_l2Words.mono_l k
 unfold spec_l2Words.f
 repeat' with_reducible first | apply ih0 | apply spec_GoodWord.mono | exact LeO.refl _ | exact LeO.none _ | apply LeO.ite | refine LeO.bind ?_ fun _ => ?_
set_option maxHeartbeats 8000000 in
set_option maxRecDepth 100000 in
theorem spec_l2Words.calls (k : Nat) (a0 : Int) (A1 : Option Addr) (c1 : Nat) (l1 : List Int) (r : Bool) (w : World) (hr1 : Kd.C (Kd.int .u64) w A1 l1.length l1) (hc1 : l1.length ≤ c1) (h : spec_l2Words.f k a0 l1 = some r) :
  Calls Try.prog 62 #[.int .i64 a0, .slice A1 l1.length c1] w fun e w' => e = .returned (.bool r) ∧ Drawn0 w w' := by
 have HR1 := am_ hr1
 have HC1 := am_ hc1
 clear hr1 hc1
 have H := h
 clear h
 unfold spec_l2Words.f at H
 have H' := am_ H
 clear H
 go_enter Try.func62, Try.ntmps62
 go_wp2
 go_loopg [9] k (fun kq v9 w' => ∃ (x9_1 : Int), v9 = .int .i64 x9_1 ∧ Aside0 (spec_l2Words.l0 kq a0 l1 (l1.length : Int) x9_1 = some r) ∧ Aside0 (kq ≤ k) ∧ Drawn0 w w')
 case atStart => exact ⟨(0), (Sh.es), H', ⟨Nat.le_refl _⟩, Sh.dr⟩
 case round =>
  clear H'
  try clear c1
  try clear p2
  obtain ⟨x9_1, rfl, HA, HK1, ⟨m1, rfl⟩⟩ := hrel
  cases gk with
  | zero => exact absurd HA.out (by simp [spec_l2Words.l0])
  | succ k1 =>
   have H := HA.out
   clear HA
   simp only [spec_l2Words.l0] at H
   by_cases c3 : x9_1 < (l1.length : Int)
   ·rw [if_pos c3] at H
    have c3b0 : decide (x9_1 < (l1.length : Int)) = true := decide_eq_true c3
    clear c3
    by_cases c4 : 0 ≤ x9_1
    ·rw [if_pos c4] at H
     have c4b0 : decide (0 ≤ x9_1) = true := decide_eq_true c4
     clear c4
     by_cases c5 : x9_1 < (l1.length : Int)
     ·rw [if_pos c5] at H
      have c5b0 : decide (x9_1 < (l1.length : Int)) = true := decide_eq_true c5
      clear c5
      obtain ⟨t245, A60, H⟩ := Sh.bd H
      have A6 := am_ A60
      clear A60
      by_cases c7 : t245 = true
      ·subst c7
       rw [if_pos rfl] at H
       have H' := am_ H
       clear H
       have p244 : 0 ≤ (x9_1 : Int) := Sh.od
       have q244 : x9_1 < (l1.length : Int) := Sh.od
       obtain ⟨ad244, e244, hx244_0⟩ := Kd.at_int HR1.out x9_1 p244 q244
       cases e244
       replace p244 := eq_true p244
       replace q244 := eq_true q244
       go_wp2_with (first | ((with_reducible refine gate_callee (f := 77) rfl ?_); refine Sh.gL (some 15) Try.func77 #[.int .i64 a0, .int .u64 (rd l1 x9_1)] (h := ?_); (with_reducible refine (spec_GoodWord.calls k1 a0 (rd l1 x9_1) true _ A6.out).mono ?_); rintro e w' ⟨rfl, ⟨nd, rfl⟩⟩; refine ⟨_, rfl, ?_⟩))
       go_roundg k1
       case measure => have := HK1.out; omega
       case rel => exact ⟨(wrap64 (x9_1 + 1)), (Sh.es), H', ⟨by have := HK1.out; omega⟩, Sh.dr⟩
      ·replace c7 := Bool.eq_false_iff.mpr c7
       subst c7
       rw [Sh.nf] at H
       obtain rfl := Option.some.inj H
       have p244 : 0 ≤ (x9_1 : Int) := Sh.od
       have q244 : x9_1 < (l1.length : Int) := Sh.od
       obtain ⟨ad244, e244, hx244_0⟩ := Kd.at_int HR1.out x9_1 p244 q244
       cases e244
       replace p244 := eq_true p244
       replace q244 := eq_true q244
       go_wp2_with (first | ((with_reducible refine gate_callee (f := 77) rfl ?_); refine Sh.gL (some 15) Try.func77 #[.int .i64 a0, .int .u64 (rd l1 x9_1)] (h := ?_); (with_reducible refine (spec_GoodWord.calls k1 a0 (rd l1 x9_1) false _ A6.out).mono ?_); rintro e w' ⟨rfl, ⟨nd, rfl⟩⟩; refine ⟨_, rfl, ?_⟩))
       go_ret
       exact ⟨Sh.es, Sh.dr⟩
     ·rw [if_neg c5] at H
      exact absurd H (by simp)
    ·rw [if_neg c4] at H
     exact absurd H (by simp)
   ·rw [if_neg c3] at H
    have c3b0 : decide (x9_1 < (l1.length : Int)) = false := decide_eq_false c3
    clear c3
    obtain rfl := Option.some.inj H
    go_wp2
    go_ret
    exact ⟨Sh.es, Sh.dr⟩
def spec_l7State.f (k : Nat) (a0_0 : Int) (a0_1 : Int) (l0_2 : List (S80)) (l0_3 : List (S71)) (l1 : List Int) : Option (Bool) := if (l1.length : Int) = a0_1 then ((spec_l2Words.f k a0_0 l1).bind fun t247 => (some t247)) else (some false)
theorem spec_l7State.mono : ∀ a0 a1 a2 a3 a4 k, LeO (spec_l7State.f k a0 a1 a2 a3 a4) (spec_l7State.f (k + 1) a0 a1 a2 a3 a4) := by
 intro a0 a1 a2 a3 a4 k
 unfold spec_l7State.f
 repeat' with_reducible first | apply spec_l2Words.mono | exact LeO.refl _ | exact LeO.none _ | apply LeO.ite | refine LeO.bind ?_ fun _ => ?_
set_option maxHeartbeats 8000000 in
set_option maxRecDepth 100000 in
theorem spec_l7State.calls (k : Nat) (a0_0 : Int) (a0_1 : Int) (A0_2 : Option Addr) (c0_2 : Nat) (l0_2 : List (S80)) (A0_3 : Option Addr) (c0_3 : Nat) (l0_3 : List (S71)) (A1 : Option Addr) (c1 : Nat) (l1 : List Int) (r : Bool) (w : World) (hr0_2 : Kd.C k80 w A0_2 l0_2.length l0_2) (hc0_2 : l0_2.length ≤ c0_2) (hr0_3 : Kd.C k71 w A0_3 l0_3.length l0_3) (hc0_3 : l0_3.length ≤ c0_3) (hr1 : Kd.C (Kd.int .u64) w A1 l1.length l1) (hc1 : l1.length ≤ c1) (h : spec_l7State.f k a0_0 a0_1 l0_2 l0_3 l1 = some r) :
  Calls Try.prog 34 #[.agg #[.int .i64 a0_0, .int .i64 a0_1, .slice A0_2 l0_2.length c0_2, .slice A0_3 l0_3.length c0_3], .slice A1 l1.length c1] w fun e w' => e = .returned (.bool r) ∧ Below w.heap.size w w' := by
 have hu33 := Try.underlying33
 have HR0_2 := am_ hr0_2
 have HC0_2 := am_ hc0_2
 clear hr0_2 hc0_2
 have HR0_3 := am_ hr0_3
 have HC0_3 := am_ hc0_3
 clear hr0_3 hc0_3
 have HR1 := am_ hr1
 have HC1 := am_ hc1
 clear hr1 hc1
 have HB := am_ (Below.refl w.heap.size w)
 have H := h
 clear h
 unfold spec_l7State.f at H
 by_cases c3 : (l1.length : Int) = a0_1
 ·rw [if_pos c3] at H
  have c3b0 : ((l1.length : Int) == a0_1) = true := beq_iff_eq.mpr c3
  have c3b1 : ((l1.length : Int) != a0_1) = false := bne_eq_false_iff_eq.mpr c3
  clear c3
  obtain ⟨t247, A40, H⟩ := Sh.bd H
  have A4 := am_ A40
  clear A40
  obtain rfl := Option.some.inj H
  go_enter Try.func34, Try.ntmps34
  go_wp2_with (first | ((with_reducible refine gate_dst (N := 2) rfl ?_); refine Sh.bx (N := 2) (cs := #[.int .i64 a0_0, .int .i64 a0_1, .slice A0_2 l0_2.length c0_2, .slice A0_3 l0_3.length c0_3]) (t := 33) (h := ?_); intro gb246 hg w5 hbox hb; have BK246 := am_ hbox; have GW246 := am_ (Sh.gw (w := w) hg); have GE246 := am_ (Sh.gw (w := w) hg); replace HB := am_ (below_step Sh.bw hb); clear hb hbox hg; obtain ⟨hcz6_0, hcz6_1, hcz6_2, hcz6_3, hfz6_0, hfz6_1, hfz6_2, hfz6_3⟩ := Sh.b4 BK246.out) | (go_at_call 62; (with_reducible refine (spec_l2Words.calls k a0_0 _ _ l1 t247 _ (Sh.cB HR1.out) HC1.out A4.out).mono ?_); rintro e w' ⟨rfl, ⟨nd, rfl⟩⟩))
  go_ret
  exact ⟨Sh.eR, Sh.bw⟩
 ·rw [if_neg c3] at H
  have c3b0 : ((l1.length : Int) == a0_1) = false := beq_eq_false_iff_ne.mpr c3
  have c3b1 : ((l1.length : Int) != a0_1) = true := bne_iff_ne.mpr c3
  obtain rfl := Option.some.inj H
  go_enter Try.func34, Try.ntmps34
  go_wp2_with (first | ((with_reducible refine gate_dst (N := 2) rfl ?_); refine Sh.bx (N := 2) (cs := #[.int .i64 a0_0, .int .i64 a0_1, .slice A0_2 l0_2.length c0_2, .slice A0_3 l0_3.length c0_3]) (t := 33) (h := ?_); intro gb246 hg w7 hbox hb; have BK246 := am_ hbox; have GW246 := am_ (Sh.gw (w := w) hg); have GE246 := am_ (Sh.gw (w := w) hg); replace HB := am_ (below_step Sh.bw hb); clear hb hbox hg; obtain ⟨hcz8_0, hcz8_1, hcz8_2, hcz8_3, hfz8_0, hfz8_1, hfz8_2, hfz8_3⟩ := Sh.b4 BK246.out))
  go_ret
  exact ⟨Sh.eR, Sh.bw⟩
def spec_l1Both.f (k : Nat) (a0 : Int) (a1 : Int) (a2 : Int) : Option (Bool) := (spec_GoodWord.f k a0 a1).bind fun t248 => (if t248 = true then ((spec_GoodWord.f k a0 a2).bind fun t249 => (some t249)) else (some false))
theorem spec_l1Both.mono : ∀ a0 a1 a2 k, LeO (spec_l1Both.f k a0 a1 a2) (spec_l1Both.f (k + 1) a0 a1 a2) := by
 intro a0 a1 a2 k
 unfold spec_l1Both.f
 repeat' with_reducible first | apply spec_GoodWord.mono | exact LeO.refl _ | exact LeO.none _ | apply LeO.ite | refine LeO.bind ?_ fun _ => ?_
set_option maxHeartbeats 8000000 in
set_option maxRecDepth 100000 in
theorem spec_l1Both.calls (k : Nat) (a0 : Int) (a1 : Int) (a2 : Int) (r : Bool) (w : World) (h : spec_l1Both.f k a0 a1 a2 = some r) :
  Calls Try.prog 114 #[.int .i64 a0, .int .u64 a1, .int .u64 a2] w fun e w' => e = .returned (.bool r) ∧ Drawn0 w w' := by
 have H := h
 clear h
 unfold spec_l1Both.f at H
 obtain ⟨t248, A40, H⟩ := Sh.bd H
 have A4 := am_ A40
 clear A40
 by_cases c5 : t248 = true
 ·subst c5
  rw [if_pos rfl] at H
  obtain ⟨t249, A60, H⟩ := Sh.bd H
  have A6 := am_ A60
  clear A60
  obtain rfl := Option.some.inj H
  go_enter Try.func114, Try.ntmps114
  go_wp2_with (first | ((with_reducible refine gate_callee (f := 77) rfl ?_); refine Sh.gL (some 9) Try.func77 #[.int .i64 a0, .int .u64 a1] (h := ?_); (with_reducible refine (spec_GoodWord.calls k a0 a1 true _ A4.out).mono ?_); rintro e w' ⟨rfl, ⟨nd, rfl⟩⟩; refine ⟨_, rfl, ?_⟩) | (go_at_call 77; (with_reducible refine (spec_GoodWord.calls k a0 a2 t249 _ A6.out).mono ?_); rintro e w' ⟨rfl, ⟨nd, rfl⟩⟩))
  go_ret
  exact ⟨Sh.es, Sh.dr⟩
 ·replace c5 := Bool.eq_false_iff.mpr c5
  subst c5
  rw [Sh.nf] at H
  obtain rfl := Option.some.inj H
  go_enter Try.func114, Try.ntmps114
  go_wp2_with (first | ((with_reducible refine gate_callee (f := 77) rfl ?_); refine Sh.gL (some 9) Try.func77 #[.int .i64 a0, .int .u64 a1] (h := ?_); (with_reducible refine (spec_GoodWord.calls k a0 a1 false _ A4.out).mono ?_); rintro e w' ⟨rfl, ⟨nd, rfl⟩⟩; refine ⟨_, rfl, ?_⟩))
  go_ret
  exact ⟨Sh.es, Sh.dr⟩
def spec_DivWord.f (k : Nat) (a0 : Int) (a1 : Int) (a2 : Int) : Option (Int × Int × Bool) := (spec_l1Both.f k a0 a1 a2).bind fun t250 => (if t250 = true then (if a2 = 0 then ((spec_l1Cut.f k a0 18446744073709551615).bind fun t251 => (some (t251, a1, true))) else (some (IntKind.u64.wrap (Int.tdiv a1 a2), Int.tmod a1 a2, true))) else (some (0, 0, false)))
theorem spec_DivWord.mono : ∀ a0 a1 a2 k, LeO (spec_DivWord.f k a0 a1 a2) (spec_DivWord.f (k + 1) a0 a1 a2) := by
 intro a0 a1 a2 k
 unfold spec_DivWord.f
 repeat' with_reducible first | apply spec_l1Both.mono | apply spec_l1Cut.mono | exact LeO.refl _ | exact LeO.none _ | apply LeO.ite | refine LeO.bind ?_ fun _ => ?_
set_option maxHeartbeats 8000000 in
set_option maxRecDepth 100000 in
theorem spec_DivWord.calls (k : Nat) (a0 : Int) (a1 : Int) (a2 : Int) (r1 : Int) (r2 : Int) (r3 : Bool) (w : World) (h : spec_DivWord.f k a0 a1 a2 = some (r1, r2, r3)) :
  Calls Try.prog 98 #[.int .i64 a0, .int .u64 a1, .int .u64 a2] w fun e w' => e = .returned (.tuple #[.int .u64 r1, .int .u64 r2, .bool r3]) ∧ Drawn0 w w' := by
 have H := h
 clear h
 unfold spec_DivWord.f at H
 obtain ⟨t250, A40, H⟩ := Sh.bd H
 have A4 := am_ A40
 clear A40
 by_cases c5 : t250 = true
 ·subst c5
  rw [if_pos rfl] at H
  by_cases c6 : a2 = 0
  ·rw [if_pos c6] at H
   have c6b0 : (a2 == 0) = true := beq_iff_eq.mpr c6
   have c6b1 : (a2 != 0) = false := bne_eq_false_iff_eq.mpr c6
   clear c6
   obtain ⟨t251, A70, H⟩ := Sh.bd H
   have A7 := am_ A70
   clear A70
   simp only [Option.some.injEq, Prod.mk.injEq] at H
   obtain ⟨rfl, rfl, rfl⟩ := H
   go_enter Try.func98, Try.ntmps98
   go_wp2_with (first | (go_at_call 114; (with_reducible refine (spec_l1Both.calls k a0 a1 a2 true _ A4.out).mono ?_); rintro e w' ⟨rfl, ⟨nd, rfl⟩⟩; (try first | exact ⟨rfl, _, World.drewN_drewN _ _ _⟩ | exact ⟨rfl, _, Eq.trans (World.drewN_drewN _ _ _) (congrArg (World.drewN _) (Nat.add_assoc _ _ _))⟩)) | (go_at_call 79; (with_reducible refine (spec_l1Cut.calls k a0 18446744073709551615 t251 _ A7.out).mono ?_); rintro e w' ⟨rfl, ⟨nd, rfl⟩⟩; (try first | exact ⟨rfl, _, World.drewN_drewN _ _ _⟩ | exact ⟨rfl, _, Eq.trans (World.drewN_drewN _ _ _) (congrArg (World.drewN _) (Nat.add_assoc _ _ _))⟩)))
   repeat (go_quiet (first | (go_at_call 114; (with_reducible refine (spec_l1Both.calls k a0 a1 a2 true _ A4.out).mono ?_); rintro e w' ⟨rfl, ⟨nd, rfl⟩⟩; (try first | exact ⟨rfl, _, World.drewN_drewN _ _ _⟩ | exact ⟨rfl, _, Eq.trans (World.drewN_drewN _ _ _) (congrArg (World.drewN _) (Nat.add_assoc _ _ _))⟩)) | (go_at_call 79; (with_reducible refine (spec_l1Cut.calls k a0 18446744073709551615 t251 _ A7.out).mono ?_); rintro e w' ⟨rfl, ⟨nd, rfl⟩⟩; (try first | exact ⟨rfl, _, World.drewN_drewN _ _ _⟩ | exact ⟨rfl, _, Eq.trans (World.drewN_drewN _ _ _) (congrArg (World.drewN _) (Nat.add_assoc _ _ _))⟩))); try go_wp2_with (first | (go_at_call 114; (with_reducible refine (spec_l1Both.calls k a0 a1 a2 true _ A4.out).mono ?_); rintro e w' ⟨rfl, ⟨nd, rfl⟩⟩; (try first | exact ⟨rfl, _, World.drewN_drewN _ _ _⟩ | exact ⟨rfl, _, Eq.trans (World.drewN_drewN _ _ _) (congrArg (World.drewN _) (Nat.add_assoc _ _ _))⟩)) | (go_at_call 79; (with_reducible refine (spec_l1Cut.calls k a0 18446744073709551615 t251 _ A7.out).mono ?_); rintro e w' ⟨rfl, ⟨nd, rfl⟩⟩; (try first | exact ⟨rfl, _, World.drewN_drewN _ _ _⟩ | exact ⟨rfl, _, Eq.trans (World.drewN_drewN _ _ _) (congrArg (World.drewN _) (Nat.add_assoc _ _ _))⟩))))
   go_ret3
   exact ⟨Sh.es, Sh.dr⟩
  ·rw [if_neg c6] at H
   have c6b0 : (a2 == 0) = false := beq_eq_false_iff_ne.mpr c6
   have c6b1 : (a2 != 0) = true := bne_iff_ne.mpr c6
   simp only [Option.some.injEq, Prod.mk.injEq] at H
   obtain ⟨rfl, rfl, rfl⟩ := H
   go_enter Try.func98, Try.ntmps98
   go_wp2_with (first | (go_at_call 114; (with_reducible refine (spec_l1Both.calls k a0 a1 a2 true _ A4.out).mono ?_); rintro e w' ⟨rfl, ⟨nd, rfl⟩⟩; (try first | exact ⟨rfl, _, World.drewN_drewN _ _ _⟩ | exact ⟨rfl, _, Eq.trans (World.drewN_drewN _ _ _) (congrArg (World.drewN _) (Nat.add_assoc _ _ _))⟩)))
   repeat (go_quiet (first | (go_at_call 114; (with_reducible refine (spec_l1Both.calls k a0 a1 a2 true _ A4.out).mono ?_); rintro e w' ⟨rfl, ⟨nd, rfl⟩⟩; (try first | exact ⟨rfl, _, World.drewN_drewN _ _ _⟩ | exact ⟨rfl, _, Eq.trans (World.drewN_drewN _ _ _) (congrArg (World.drewN _) (Nat.add_assoc _ _ _))⟩))); try go_wp2_with (first | (go_at_call 114; (with_reducible refine (spec_l1Both.calls k a0 a1 a2 true _ A4.out).mono ?_); rintro e w' ⟨rfl, ⟨nd, rfl⟩⟩; (try first | exact ⟨rfl, _, World.drewN_drewN _ _ _⟩ | exact ⟨rfl, _, Eq.trans (World.drewN_drewN _ _ _) (congrArg (World.drewN _) (Nat.add_assoc _ _ _))⟩))))
   go_ret3
   exact ⟨Sh.es, Sh.dr⟩
 ·replace c5 := Bool.eq_false_iff.mpr c5
  subst c5
  rw [Sh.nf] at H
  simp only [Option.some.injEq, Prod.mk.injEq] at H
  obtain ⟨rfl, rfl, rfl⟩ := H
  go_enter Try.func98, Try.ntmps98
  go_wp2_with (first | (go_at_call 114; (with_reducible refine (spec_l1Both.calls k a0 a1 a2 false _ A4.out).mono ?_); rintro e w' ⟨rfl, ⟨nd, rfl⟩⟩; (try first | exact ⟨rfl, _, World.drewN_drewN _ _ _⟩ | exact ⟨rfl, _, Eq.trans (World.drewN_drewN _ _ _) (congrArg (World.drewN _) (Nat.add_assoc _ _ _))⟩)))
  repeat (go_quiet (first | (go_at_call 114; (with_reducible refine (spec_l1Both.calls k a0 a1 a2 false _ A4.out).mono ?_); rintro e w' ⟨rfl, ⟨nd, rfl⟩⟩; (try first | exact ⟨rfl, _, World.drewN_drewN _ _ _⟩ | exact ⟨rfl, _, Eq.trans (World.drewN_drewN _ _ _) (congrArg (World.drewN _) (Nat.add_assoc _ _ _))⟩))); try go_wp2_with (first | (go_at_call 114; (with_reducible refine (spec_l1Both.calls k a0 a1 a2 false _ A4.out).mono ?_); rintro e w' ⟨rfl, ⟨nd, rfl⟩⟩; (try first | exact ⟨rfl, _, World.drewN_drewN _ _ _⟩ | exact ⟨rfl, _, Eq.trans (World.drewN_drewN _ _ _) (congrArg (World.drewN _) (Nat.add_assoc _ _ _))⟩))))
  go_ret3
  exact ⟨Sh.es, Sh.dr⟩
def spec_l1Shift.l0 : Nat → Int → Int → Int → Bool → Option (Int)
 | 0, _, _, _, _ => none
 | k + 1, x0, x1, x2, x3 => if x2 > 0 then (if x3 = true then ((spec_l1Cut.f k x0 (IntKind.u64.wrap (x1 * 2))).bind fun t252 => (spec_l1Shift.l0 k x0 t252 (IntKind.u64.wrap (x2 - 1)) x3)) else (spec_l1Shift.l0 k x0 (x1 / 2) (IntKind.u64.wrap (x2 - 1)) x3)) else (some x1)
def spec_l1Shift.f (k : Nat) (a0 : Int) (a1 : Int) (a2 : Int) (a3 : Bool) : Option (Int) := if a2 ≥ (IntKind.u64.wrap (a0)) then (some 0) else (spec_l1Shift.l0 k a0 a1 a2 a3)
theorem spec_l1Shift.mono_l : ∀ k, (∀ y0 y1 y2 y3, LeO (spec_l1Shift.l0 k y0 y1 y2 y3) (spec_l1Shift.l0 (k + 1) y0 y1 y2 y3))
 | 0 => fun _ _ _ _ r h => by simp [spec_l1Shift.l0] at h
 | k + 1 => by
  have ih0 := spec_l1Shift.mono_l k
  ·intro y0 y1 y2 y3
   unfold spec_l1Shift.l0
   repeat' with_reducible first | apply ih0 | apply spec_l1Cut.mono | exact LeO.refl _ | exact LeO.none _ | apply LeO.ite | refine LeO.bind ?_ fun _ => ?_
theorem spec_l1Shift.mono : ∀ a0 a1 a2 a3 k, LeO (spec_l1Shift.f k a0 a1 a2 a3) (spec_l1Shift.f (k + 1) a0 a1 a2 a3) := by
 intro a0 a1 a2 a3 k
 have ih0 := spec_l1Shift.mono_l k
 unfold spec_l1Shift.f
 repeat' with_reducible first | apply ih0 | apply spec_l1Cut.mono | exact LeO.refl _ | exact LeO.none _ | apply LeO.ite | refine LeO.bind ?_ fun _ => ?_
set_option maxHeartbeats 8000000 in
set_option maxRecDepth 100000 in
theorem spec_l1Shift.calls (k : Nat) (a0 : Int) (a1 : Int) (a2 : Int) (a3 : Bool) (r : Int) (w : World) (h : spec_l1Shift.f k a0 a1 a2 a3 = some r) :
  Calls Try.prog 99 #[.int .i64 a0, .int .u64 a1, .int .u64 a2, .bool a3] w fun e w' => e = .returned (.int .u64 r) ∧ Drawn0 w w' := by
 have H := h
 clear h
 unfold spec_l1Shift.f at H
 by_cases c5 : a2 ≥ (IntKind.u64.wrap (a0))
 ·rw [if_pos c5] at H
  have c5b0 : decide ((IntKind.u64.wrap (a0)) ≤ a2) = true := decide_eq_true c5
  clear c5
  obtain rfl := Option.some.inj H
  go_enter Try.func99, Try.ntmps99
  go_wp2
  go_ret
  exact ⟨Sh.es, Sh.dr⟩
 ·rw [if_neg c5] at H
  have c5b0 : decide ((IntKind.u64.wrap (a0)) ≤ a2) = false := decide_eq_false c5
  clear c5
  have H' := am_ H
  clear H
  go_enter Try.func99, Try.ntmps99
  go_wp2
  go_loopg [1, 2] k (fun kq v1 v2 w' => ∃ (x1_1 : Int) (x2_1 : Int), v1 = .int .u64 x1_1 ∧ v2 = .int .u64 x2_1 ∧ Aside0 (spec_l1Shift.l0 kq a0 x1_1 x2_1 a3 = some r) ∧ Aside0 (kq ≤ k) ∧ Drawn0 w w')
  case atStart => exact ⟨(a1), (a2), (Sh.es), (Sh.es), H', ⟨Nat.le_refl _⟩, Sh.dr⟩
  case round =>
   clear H'
   try clear p2
   try clear c5
   try clear c5b0
   obtain ⟨x1_1, x2_1, rfl, rfl, HA, HK1, ⟨m1, rfl⟩⟩ := hrel
   cases gk with
   | zero => exact absurd HA.out (by simp [spec_l1Shift.l0])
   | succ k1 =>
    have H := HA.out
    clear HA
    simp only [spec_l1Shift.l0] at H
    by_cases c6 : x2_1 > 0
    ·rw [if_pos c6] at H
     have c6b0 : decide (0 < x2_1) = true := decide_eq_true c6
     clear c6
     by_cases c7 : a3 = true
     ·subst c7
      rw [if_pos rfl] at H
      obtain ⟨t252, A80, H⟩ := Sh.bd H
      have A8 := am_ A80
      clear A80
      have H' := am_ H
      clear H
      go_wp2_with (first | ((with_reducible refine gate_callee (f := 79) rfl ?_); refine Sh.gL (some 21) Try.func79 #[.int .i64 a0, .int .u64 (IntKind.u64.wrap (x1_1 * 2))] (h := ?_); (with_reducible refine (spec_l1Cut.calls k1 a0 (IntKind.u64.wrap (x1_1 * 2)) t252 _ A8.out).mono ?_); rintro e w' ⟨rfl, ⟨nd, rfl⟩⟩; refine ⟨_, rfl, ?_⟩))
      go_roundg k1
      case measure => have := HK1.out; omega
      case rel => exact ⟨(t252), (IntKind.u64.wrap (x2_1 - 1)), (Sh.es), (Sh.es), H', ⟨by have := HK1.out; omega⟩, Sh.dr⟩
     ·replace c7 := Bool.eq_false_iff.mpr c7
      subst c7
      rw [Sh.nf] at H
      have H' := am_ H
      clear H
      go_wp2
      go_roundg k1
      case measure => have := HK1.out; omega
      case rel => exact ⟨(x1_1 / 2), (IntKind.u64.wrap (x2_1 - 1)), (Sh.es), (Sh.es), H', ⟨by have := HK1.out; omega⟩, Sh.dr⟩
    ·rw [if_neg c6] at H
     have c6b0 : decide (0 < x2_1) = false := decide_eq_false c6
     clear c6
     obtain rfl := Option.some.inj H
     go_wp2
     go_ret
     exact ⟨Sh.es, Sh.dr⟩
def spec_l2Bool.f (a0 : Bool) : Option (Int) := if a0 = true then (some 1) else (some 0)
set_option maxHeartbeats 8000000 in
set_option maxRecDepth 100000 in
theorem spec_l2Bool.calls (a0 : Bool) (r : Int) (w : World) (h : spec_l2Bool.f a0 = some r) :
  Calls Try.prog 100 #[.bool a0] w fun e w' => e = .returned (.int .u64 r) ∧ Drawn0 w w' := by
 have H := h
 clear h
 unfold spec_l2Bool.f at H
 by_cases c2 : a0 = true
 ·subst c2
  rw [if_pos rfl] at H
  obtain rfl := Option.some.inj H
  go_enter Try.func100, Try.ntmps100
  go_wp2
  go_ret
  exact ⟨Sh.es, Sh.dr⟩
 ·replace c2 := Bool.eq_false_iff.mpr c2
  subst c2
  rw [Sh.nf] at H
  obtain rfl := Option.some.inj H
  go_enter Try.func100, Try.ntmps100
  go_wp2
  go_ret
  exact ⟨Sh.es, Sh.dr⟩
def spec_l1Signed.f (k : Nat) (a0 : Int) (a1 : Int) : Option (Int) := if 0 ≤ (IntKind.u64.wrap (wrap64 (a0 - 1))) then (if (Go.bits .and .u64 (shr .u64 a1 (IntKind.u64.wrap (wrap64 (a0 - 1)))) 1) = 1 then ((spec_l1Cut.f k a0 18446744073709551615).bind fun t253 => (some (wrap64 (Go.bits .or .u64 a1 (Go.bits .xor .u64 18446744073709551615 t253))))) else (some (wrap64 (a1)))) else (none)
theorem spec_l1Signed.mono : ∀ a0 a1 k, LeO (spec_l1Signed.f k a0 a1) (spec_l1Signed.f (k + 1) a0 a1) := by
 intro a0 a1 k
 unfold spec_l1Signed.f
 repeat' with_reducible first | apply spec_l1Cut.mono | exact LeO.refl _ | exact LeO.none _ | apply LeO.ite | refine LeO.bind ?_ fun _ => ?_
set_option maxHeartbeats 8000000 in
set_option maxRecDepth 100000 in
theorem spec_l1Signed.calls (k : Nat) (a0 : Int) (a1 : Int) (r : Int) (w : World) (h : spec_l1Signed.f k a0 a1 = some r) :
  Calls Try.prog 101 #[.int .i64 a0, .int .u64 a1] w fun e w' => e = .returned (.int .i64 r) ∧ Drawn0 w w' := by
 have H := h
 clear h
 unfold spec_l1Signed.f at H
 obtain ⟨ji3, hj1⟩ : ∃ j_ : Int, (IntKind.u64.wrap (wrap64 (a0 - 1))) = j_ := ⟨_, rfl⟩
 replace H : (if 0 ≤ (ji3) then (if (Go.bits .and .u64 (shr .u64 a1 (ji3)) 1) = 1 then ((spec_l1Cut.f k a0 18446744073709551615).bind fun t253 => (some (wrap64 (Go.bits .or .u64 a1 (Go.bits .xor .u64 18446744073709551615 t253))))) else (some (wrap64 (a1)))) else (none)) = some r := by first | (rw [hj1] at H; exact H) | (simp only [hj1] at H ⊢; exact H)
 by_cases c4 : 0 ≤ (ji3)
 ·rw [if_pos c4] at H
  have c4b0 := eq_true c4
  have c4b1 : decide (0 ≤ (ji3)) = true := decide_eq_true c4
  clear c4
  obtain ⟨ji5, hj2⟩ : ∃ j_ : Int, (shr .u64 a1 (ji3)) = j_ := ⟨_, rfl⟩
  replace H : (if (Go.bits .and .u64 (ji5) 1) = 1 then ((spec_l1Cut.f k a0 18446744073709551615).bind fun t253 => (some (wrap64 (Go.bits .or .u64 a1 (Go.bits .xor .u64 18446744073709551615 t253))))) else (some (wrap64 (a1)))) = some r := by first | (rw [hj2] at H; exact H) | (simp only [hj2] at H ⊢; exact H)
  have hji5_ : (a1 / 2 ^ min (ji3).toNat 64) = ji5 := hj2
  have hji5z : (ji3) ≤ 64 → (a1 / 2 ^ (ji3).toNat) = ji5 := shr_small hj2
  by_cases c6 : (Go.bits .and .u64 (ji5) 1) = 1
  ·rw [if_pos c6] at H
   have c6b0 : ((Go.bits .and .u64 (ji5) 1) == 1) = true := beq_iff_eq.mpr c6
   have c6b1 : ((Go.bits .and .u64 (ji5) 1) != 1) = false := bne_eq_false_iff_eq.mpr c6
   clear c6
   obtain ⟨t253, A70, H⟩ := Sh.bd H
   have A7 := am_ A70
   clear A70
   obtain rfl := Option.some.inj H
   go_enter Try.func101, Try.ntmps101
   go_wp2_with (first | ((with_reducible refine gate_callee (f := 79) rfl ?_); refine Sh.gL (some 14) Try.func79 #[.int .i64 a0, .int .u64 18446744073709551615] (h := ?_); (with_reducible refine (spec_l1Cut.calls k a0 18446744073709551615 t253 _ A7.out).mono ?_); rintro e w' ⟨rfl, ⟨nd, rfl⟩⟩; refine ⟨_, rfl, ?_⟩))
   go_ret
   exact ⟨by first | rfl | (simp; done) | (simp only [← hj1, ← hj2] <;> (first | rfl | simp)) | (simp [*]; done), Sh.dr⟩
  ·rw [if_neg c6] at H
   have c6b0 : ((Go.bits .and .u64 (ji5) 1) == 1) = false := beq_eq_false_iff_ne.mpr c6
   have c6b1 : ((Go.bits .and .u64 (ji5) 1) != 1) = true := bne_iff_ne.mpr c6
   obtain rfl := Option.some.inj H
   go_enter Try.func101, Try.ntmps101
   go_wp2
   go_ret
   exact ⟨by first | rfl | (simp; done) | (simp only [← hj1, ← hj2] <;> (first | rfl | simp)) | (simp [*]; done), Sh.dr⟩
 ·rw [if_neg c4] at H
  exact absurd H (by simp)
mutual
def spec_l2Do.j0 : Nat → Int → Int → Int → Int → Bool → Option (Int)
 | 0, _, _, _, _, _ => none
 | k + 1, x0, x2, x3, x20, x48 => if x48 = true then (some (Go.bits .and .u64 x2 x3)) else (if x20 = 9 then (spec_l2Do.j1 k x0 x2 x3 x20 (x20 == 9)) else (spec_l2Do.j1 k x0 x2 x3 x20 (x20 == 18)))
def spec_l2Do.j1 : Nat → Int → Int → Int → Int → Bool → Option (Int)
 | 0, _, _, _, _, _ => none
 | k + 1, x0, x2, x3, x20, x54 => if x54 = true then (some (Go.bits .or .u64 x2 x3)) else (if x20 = 10 then (some (Go.bits .xor .u64 x2 x3)) else (if x20 = 11 then ((spec_l1Shift.f k x0 x2 x3 true).bind fun t260 => (some t260)) else (if x20 = 12 then ((spec_l1Shift.f k x0 x2 x3 false).bind fun t261 => (some t261)) else (if x20 = 14 then ((spec_l2Bool.f (x2 == x3)).bind fun t262 => (some t262)) else (if x20 = 15 then ((spec_l2Bool.f (decide (x2 < x3))).bind fun t263 => (some t263)) else (if x20 = 16 then ((spec_l1Signed.f k x0 x2).bind fun t264 => ((spec_l1Signed.f k x0 x3).bind fun t265 => ((spec_l2Bool.f (decide (t264 < t265))).bind fun t266 => (some t266)))) else (some 0)))))))
end
def spec_l2Do.f (k : Nat) (a0 : Int) (a1 : Int) (a2 : Int) (a3 : Int) : Option (Int) := (spec_DivWord.f k a0 a2 a3).bind fun bt254 => (if a1 = 3 then ((spec_l1Cut.f k a0 (IntKind.u64.wrap (a2 + a3))).bind fun t257 => (some t257)) else (if a1 = 4 then ((spec_l1Cut.f k a0 (IntKind.u64.wrap (a2 - a3))).bind fun t258 => (some t258)) else (if a1 = 5 then ((spec_l1Cut.f k a0 (IntKind.u64.wrap (a2 * a3))).bind fun t259 => (some t259)) else (if a1 = 6 then (some bt254.1) else (if a1 = 7 then (some bt254.2.1) else (if a1 = 8 then (spec_l2Do.j0 k a0 a2 a3 a1 (a1 == 8)) else (spec_l2Do.j0 k a0 a2 a3 a1 (a1 == 17))))))))
theorem spec_l2Do.mono_l : ∀ k, (∀ y0 y1 y2 y3 y4, LeO (spec_l2Do.j0 k y0 y1 y2 y3 y4) (spec_l2Do.j0 (k + 1) y0 y1 y2 y3 y4)) ∧ (∀ y0 y1 y2 y3 y4, LeO (spec_l2Do.j1 k y0 y1 y2 y3 y4) (spec_l2Do.j1 (k + 1) y0 y1 y2 y3 y4))
 | 0 => ⟨fun _ _ _ _ _ r h => by simp [spec_l2Do.j0] at h, fun _ _ _ _ _ r h => by simp [spec_l2Do.j1] at h⟩
 | k + 1 => by
  obtain ⟨ih0, ih1⟩ := spec_l2Do.mono_l k
  and_intros <;> intros
  all_goals (first | unfold spec_l2Do.j0 | unfold spec_l2Do.j1)
  all_goals repeat' with_reducible first | apply ih0 | apply ih1 | apply spec_DivWord.mono | apply spec_l1Cut.mono | apply spec_l1Shift.mono | apply spec_l1Signed.mono | exact LeO.refl _ | exact LeO.none _ | apply LeO.ite | refine LeO.bind ?_ fun _ => ?_
theorem spec_l2Do.mono : ∀ a0 a1 a2 a3 k, LeO (spec_l2Do.f k a0 a1 a2 a3) (spec_l2Do.f (k + 1) a0 a1 a2 a3) := by
 intro a0 a1 a2 a3 k
 obtain ⟨ih0, ih1⟩ := spec_l2Do.mono_l k
 unfold spec_l2Do.f
 repeat' with_reducible first | apply ih0 | apply ih1 | apply spec_DivWord.mono | apply spec_l1Cut.mono | apply spec_l1Shift.mono | apply spec_l1Signed.mono | exact LeO.refl _ | exact LeO.none _ | apply LeO.ite | refine LeO.bind ?_ fun _ => ?_
set_option maxHeartbeats 8000000 in
set_option maxRecDepth 100000 in
theorem spec_l2Do.calls (k : Nat) (a0 : Int) (a1 : Int) (a2 : Int) (a3 : Int) (r : Int) (w : World) (h : spec_l2Do.f k a0 a1 a2 a3 = some r) :
  Calls Try.prog 80 #[.int .i64 a0, .int .i64 a1, .int .u64 a2, .int .u64 a3] w fun e w' => e = .returned (.int .u64 r) ∧ Drawn0 w w' := by
 have H := h
 clear h
 unfold spec_l2Do.f at H
 obtain ⟨⟨t254, t255, t256⟩, A50, H⟩ := Sh.bd H
 have A5 := am_ A50
 clear A50
 by_cases c6 : a1 = 3
 ·rw [if_pos c6] at H
  have c6b0 : (a1 == 3) = true := beq_iff_eq.mpr c6
  have c6b1 : (a1 != 3) = false := bne_eq_false_iff_eq.mpr c6
  clear c6
  obtain ⟨t257, A70, H⟩ := Sh.bd H
  have A7 := am_ A70
  clear A70
  obtain rfl := Option.some.inj H
  go_enter Try.func80, Try.ntmps80
  go_wp2_with (first | ((with_reducible refine gate_callee (f := 98) rfl ?_); refine Sh.gL (some 16) Try.func98 #[.int .i64 a0, .int .u64 a2, .int .u64 a3] (h := ?_); (with_reducible refine (spec_DivWord.calls k a0 a2 a3 t254 t255 t256 _ A5.out).mono ?_); rintro e w' ⟨rfl, ⟨nd, rfl⟩⟩; refine ⟨_, rfl, ?_⟩) | ((with_reducible refine gate_callee (f := 79) rfl ?_); refine Sh.gL (some 27) Try.func79 #[.int .i64 a0, .int .u64 (IntKind.u64.wrap (a2 + a3))] (h := ?_); (with_reducible refine (spec_l1Cut.calls k a0 (IntKind.u64.wrap (a2 + a3)) t257 _ A7.out).mono ?_); rintro e w' ⟨rfl, ⟨nd, rfl⟩⟩; refine ⟨_, rfl, ?_⟩))
  go_ret
  exact ⟨Sh.es, Sh.dr⟩
 ·rw [if_neg c6] at H
  have c6b0 : (a1 == 3) = false := beq_eq_false_iff_ne.mpr c6
  have c6b1 : (a1 != 3) = true := bne_iff_ne.mpr c6
  by_cases c8 : a1 = 4
  ·rw [if_pos c8] at H
   have c8b0 : (a1 == 4) = true := beq_iff_eq.mpr c8
   have c8b1 : (a1 != 4) = false := bne_eq_false_iff_eq.mpr c8
   clear c8
   obtain ⟨t258, A90, H⟩ := Sh.bd H
   have A9 := am_ A90
   clear A90
   obtain rfl := Option.some.inj H
   go_enter Try.func80, Try.ntmps80
   go_wp2_with (first | ((with_reducible refine gate_callee (f := 98) rfl ?_); refine Sh.gL (some 16) Try.func98 #[.int .i64 a0, .int .u64 a2, .int .u64 a3] (h := ?_); (with_reducible refine (spec_DivWord.calls k a0 a2 a3 t254 t255 t256 _ A5.out).mono ?_); rintro e w' ⟨rfl, ⟨nd, rfl⟩⟩; refine ⟨_, rfl, ?_⟩) | ((with_reducible refine gate_callee (f := 79) rfl ?_); refine Sh.gL (some 34) Try.func79 #[.int .i64 a0, .int .u64 (IntKind.u64.wrap (a2 - a3))] (h := ?_); (with_reducible refine (spec_l1Cut.calls k a0 (IntKind.u64.wrap (a2 - a3)) t258 _ A9.out).mono ?_); rintro e w' ⟨rfl, ⟨nd, rfl⟩⟩; refine ⟨_, rfl, ?_⟩))
   go_ret
   exact ⟨Sh.es, Sh.dr⟩
  ·rw [if_neg c8] at H
   have c8b0 : (a1 == 4) = false := beq_eq_false_iff_ne.mpr c8
   have c8b1 : (a1 != 4) = true := bne_iff_ne.mpr c8
   by_cases c10 : a1 = 5
   ·rw [if_pos c10] at H
    have c10b0 : (a1 == 5) = true := beq_iff_eq.mpr c10
    have c10b1 : (a1 != 5) = false := bne_eq_false_iff_eq.mpr c10
    clear c10
    obtain ⟨t259, A110, H⟩ := Sh.bd H
    have A11 := am_ A110
    clear A110
    obtain rfl := Option.some.inj H
    go_enter Try.func80, Try.ntmps80
    go_wp2_with (first | ((with_reducible refine gate_callee (f := 98) rfl ?_); refine Sh.gL (some 16) Try.func98 #[.int .i64 a0, .int .u64 a2, .int .u64 a3] (h := ?_); (with_reducible refine (spec_DivWord.calls k a0 a2 a3 t254 t255 t256 _ A5.out).mono ?_); rintro e w' ⟨rfl, ⟨nd, rfl⟩⟩; refine ⟨_, rfl, ?_⟩) | ((with_reducible refine gate_callee (f := 79) rfl ?_); refine Sh.gL (some 41) Try.func79 #[.int .i64 a0, .int .u64 (IntKind.u64.wrap (a2 * a3))] (h := ?_); (with_reducible refine (spec_l1Cut.calls k a0 (IntKind.u64.wrap (a2 * a3)) t259 _ A11.out).mono ?_); rintro e w' ⟨rfl, ⟨nd, rfl⟩⟩; refine ⟨_, rfl, ?_⟩))
    go_ret
    exact ⟨Sh.es, Sh.dr⟩
   ·rw [if_neg c10] at H
    have c10b0 : (a1 == 5) = false := beq_eq_false_iff_ne.mpr c10
    have c10b1 : (a1 != 5) = true := bne_iff_ne.mpr c10
    by_cases c12 : a1 = 6
    ·rw [if_pos c12] at H
     have c12b0 : (a1 == 6) = true := beq_iff_eq.mpr c12
     have c12b1 : (a1 != 6) = false := bne_eq_false_iff_eq.mpr c12
     clear c12
     obtain rfl := Option.some.inj H
     go_enter Try.func80, Try.ntmps80
     go_wp2_with (first | ((with_reducible refine gate_callee (f := 98) rfl ?_); refine Sh.gL (some 16) Try.func98 #[.int .i64 a0, .int .u64 a2, .int .u64 a3] (h := ?_); (with_reducible refine (spec_DivWord.calls k a0 a2 a3 t254 t255 t256 _ A5.out).mono ?_); rintro e w' ⟨rfl, ⟨nd, rfl⟩⟩; refine ⟨_, rfl, ?_⟩))
     go_ret
     exact ⟨Sh.es, Sh.dr⟩
    ·rw [if_neg c12] at H
     have c12b0 : (a1 == 6) = false := beq_eq_false_iff_ne.mpr c12
     have c12b1 : (a1 != 6) = true := bne_iff_ne.mpr c12
     by_cases c13 : a1 = 7
     ·rw [if_pos c13] at H
      have c13b0 : (a1 == 7) = true := beq_iff_eq.mpr c13
      have c13b1 : (a1 != 7) = false := bne_eq_false_iff_eq.mpr c13
      clear c13
      obtain rfl := Option.some.inj H
      go_enter Try.func80, Try.ntmps80
      go_wp2_with (first | ((with_reducible refine gate_callee (f := 98) rfl ?_); refine Sh.gL (some 16) Try.func98 #[.int .i64 a0, .int .u64 a2, .int .u64 a3] (h := ?_); (with_reducible refine (spec_DivWord.calls k a0 a2 a3 t254 t255 t256 _ A5.out).mono ?_); rintro e w' ⟨rfl, ⟨nd, rfl⟩⟩; refine ⟨_, rfl, ?_⟩))
      go_ret
      exact ⟨Sh.es, Sh.dr⟩
     ·rw [if_neg c13] at H
      have c13b0 : (a1 == 7) = false := beq_eq_false_iff_ne.mpr c13
      have c13b1 : (a1 != 7) = true := bne_iff_ne.mpr c13
      have HC14 := am_ H
      clear H
      go_enter Try.func80, Try.ntmps80
      go_upto_if 48 with (first | ((with_reducible refine gate_callee (f := 98) rfl ?_); refine Sh.gL (some 16) Try.func98 #[.int .i64 a0, .int .u64 a2, .int .u64 a3] (h := ?_); (with_reducible refine (spec_DivWord.calls k a0 a2 a3 t254 t255 t256 _ A5.out).mono ?_); rintro e w' ⟨rfl, ⟨nd, rfl⟩⟩; refine ⟨_, rfl, ?_⟩))
      (try simp only [Act.put, List.setIfInBounds_toArray, List.set_cons_zero, List.set_cons_succ])
      go_cut [48] (fun v48 wc => ∃ (kq : Nat) (x48_13 : Bool), v48 = .bool x48_13 ∧ Aside0 (spec_l2Do.j0 kq a0 a2 a3 a1 x48_13 = some r) ∧ Aside0 (kq ≤ k) ∧ Drawn0 w wc)
      case first =>
       have H := HC14.out
       clear HC14
       by_cases c15 : a1 = 8
       ·rw [if_pos c15] at H
        have c15b0 : (a1 == 8) = true := beq_iff_eq.mpr c15
        have c15b1 : (a1 != 8) = false := bne_eq_false_iff_eq.mpr c15
        clear c15
        first | rw [c15b0] | (simp only [i64_w, i32_w]; rw [c15b0]) | skip
        have H' := am_ H
        clear H
        go_wp2
        go_meet
        case rel => exact ⟨_, ((a1 == 8)), (Sh.es), H', ⟨Sh.om⟩, Sh.dr⟩
       ·rw [if_neg c15] at H
        have c15b0 : (a1 == 8) = false := beq_eq_false_iff_ne.mpr c15
        have c15b1 : (a1 != 8) = true := bne_iff_ne.mpr c15
        first | rw [c15b0] | (simp only [i64_w, i32_w]; rw [c15b0]) | skip
        have H' := am_ H
        clear H
        go_wp2
        go_meet
        case rel => exact ⟨_, ((a1 == 17)), (Sh.es), H', ⟨Sh.om⟩, Sh.dr⟩
      case rest =>
       clear HC14
       try clear c1
       try clear p2
       try clear c6
       try clear c6b0
       try clear c6b1
       try clear c7
       try clear c8
       try clear c8b0
       try clear c8b1
       try clear c9
       try clear c10
       try clear c10b0
       try clear c10b1
       try clear c12
       try clear c12b0
       try clear c12b1
       try clear c13
       try clear c13b0
       try clear c13b1
       try clear c15
       try clear c15b0
       try clear c15b1
       obtain ⟨kq, x48_13, rfl, HA, HJ13, ⟨mc13, rfl⟩⟩ := hcut
       cases kq with
       | zero => exact absurd HA.out (by simp [spec_l2Do.j0])
       | succ kj13 =>
        have H := HA.out
        clear HA
        simp only [spec_l2Do.j0] at H
        by_cases c16 : x48_13 = true
        ·subst c16
         rw [if_pos rfl] at H
         obtain rfl := Option.some.inj H
         go_wp2
         go_ret
         exact ⟨Sh.es, Sh.dr⟩
        ·replace c16 := Bool.eq_false_iff.mpr c16
         subst c16
         rw [Sh.nf] at H
         have HC17 := am_ H
         clear H
         go_upto_if 54 with (fail)
         go_cut [54] (fun v54 wc => ∃ (kq : Nat) (x54_16 : Bool), v54 = .bool x54_16 ∧ Aside0 (spec_l2Do.j1 kq a0 a2 a3 a1 x54_16 = some r) ∧ Aside0 (kq ≤ kj13) ∧ Drawn0 w wc)
         case first =>
          have H := HC17.out
          clear HC17
          by_cases c18 : a1 = 9
          ·rw [if_pos c18] at H
           have c18b0 : (a1 == 9) = true := beq_iff_eq.mpr c18
           have c18b1 : (a1 != 9) = false := bne_eq_false_iff_eq.mpr c18
           clear c18
           first | rw [c18b0] | (simp only [i64_w, i32_w]; rw [c18b0]) | skip
           have H' := am_ H
           clear H
           go_wp2
           go_meet
           case rel => exact ⟨_, ((a1 == 9)), (Sh.es), H', ⟨by have := HJ13.out; first | omega | exact Nat.le_refl _⟩, Sh.dr⟩
          ·rw [if_neg c18] at H
           have c18b0 : (a1 == 9) = false := beq_eq_false_iff_ne.mpr c18
           have c18b1 : (a1 != 9) = true := bne_iff_ne.mpr c18
           first | rw [c18b0] | (simp only [i64_w, i32_w]; rw [c18b0]) | skip
           have H' := am_ H
           clear H
           go_wp2
           go_meet
           case rel => exact ⟨_, ((a1 == 18)), (Sh.es), H', ⟨by have := HJ13.out; first | omega | exact Nat.le_refl _⟩, Sh.dr⟩
         case rest =>
          clear HC17
          try clear c1
          try clear p2
          try clear c6
          try clear c6b0
          try clear c6b1
          try clear c7
          try clear c8
          try clear c8b0
          try clear c8b1
          try clear c9
          try clear c10
          try clear c10b0
          try clear c10b1
          try clear c12
          try clear c12b0
          try clear c12b1
          try clear c13
          try clear c13b0
          try clear c13b1
          try clear c15
          try clear c15b0
          try clear c15b1
          try clear c16
          try clear c18
          try clear c18b0
          try clear c18b1
          try clear p2
          obtain ⟨kq, x54_16, rfl, HA, HJ16, ⟨mc16, rfl⟩⟩ := hcut
          cases kq with
          | zero => exact absurd HA.out (by simp [spec_l2Do.j1])
          | succ kj16 =>
           have H := HA.out
           clear HA
           simp only [spec_l2Do.j1] at H
           by_cases c19 : x54_16 = true
           ·subst c19
            rw [if_pos rfl] at H
            obtain rfl := Option.some.inj H
            go_wp2
            go_ret
            exact ⟨Sh.es, Sh.dr⟩
           ·replace c19 := Bool.eq_false_iff.mpr c19
            subst c19
            rw [Sh.nf] at H
            by_cases c20 : a1 = 10
            ·rw [if_pos c20] at H
             have c20b0 : (a1 == 10) = true := beq_iff_eq.mpr c20
             have c20b1 : (a1 != 10) = false := bne_eq_false_iff_eq.mpr c20
             clear c20
             obtain rfl := Option.some.inj H
             go_wp2
             go_ret
             exact ⟨Sh.es, Sh.dr⟩
            ·rw [if_neg c20] at H
             have c20b0 : (a1 == 10) = false := beq_eq_false_iff_ne.mpr c20
             have c20b1 : (a1 != 10) = true := bne_iff_ne.mpr c20
             by_cases c21 : a1 = 11
             ·rw [if_pos c21] at H
              have c21b0 : (a1 == 11) = true := beq_iff_eq.mpr c21
              have c21b1 : (a1 != 11) = false := bne_eq_false_iff_eq.mpr c21
              clear c21
              obtain ⟨t260, A220, H⟩ := Sh.bd H
              have A22 := am_ A220
              clear A220
              obtain rfl := Option.some.inj H
              go_wp2_with (first | ((with_reducible refine gate_callee (f := 99) rfl ?_); refine Sh.gL (some 70) Try.func99 #[.int .i64 a0, .int .u64 a2, .int .u64 a3, .bool true] (h := ?_); (with_reducible refine (spec_l1Shift.calls kj16 a0 a2 a3 true t260 _ A22.out).mono ?_); rintro e w' ⟨rfl, ⟨nd, rfl⟩⟩; refine ⟨_, rfl, ?_⟩))
              go_ret
              exact ⟨Sh.es, Sh.dr⟩
             ·rw [if_neg c21] at H
              have c21b0 : (a1 == 11) = false := beq_eq_false_iff_ne.mpr c21
              have c21b1 : (a1 != 11) = true := bne_iff_ne.mpr c21
              by_cases c23 : a1 = 12
              ·rw [if_pos c23] at H
               have c23b0 : (a1 == 12) = true := beq_iff_eq.mpr c23
               have c23b1 : (a1 != 12) = false := bne_eq_false_iff_eq.mpr c23
               clear c23
               obtain ⟨t261, A240, H⟩ := Sh.bd H
               have A24 := am_ A240
               clear A240
               obtain rfl := Option.some.inj H
               go_wp2_with (first | ((with_reducible refine gate_callee (f := 99) rfl ?_); refine Sh.gL (some 76) Try.func99 #[.int .i64 a0, .int .u64 a2, .int .u64 a3, .bool false] (h := ?_); (with_reducible refine (spec_l1Shift.calls kj16 a0 a2 a3 false t261 _ A24.out).mono ?_); rintro e w' ⟨rfl, ⟨nd, rfl⟩⟩; refine ⟨_, rfl, ?_⟩))
               go_ret
               exact ⟨Sh.es, Sh.dr⟩
              ·rw [if_neg c23] at H
               have c23b0 : (a1 == 12) = false := beq_eq_false_iff_ne.mpr c23
               have c23b1 : (a1 != 12) = true := bne_iff_ne.mpr c23
               by_cases c25 : a1 = 14
               ·rw [if_pos c25] at H
                have c25b0 : (a1 == 14) = true := beq_iff_eq.mpr c25
                have c25b1 : (a1 != 14) = false := bne_eq_false_iff_eq.mpr c25
                clear c25
                obtain ⟨t262, A260, H⟩ := Sh.bd H
                have A26 := am_ A260
                clear A260
                obtain rfl := Option.some.inj H
                go_wp2_with (first | ((with_reducible refine gate_callee (f := 100) rfl ?_); refine Sh.gL (some 82) Try.func100 #[.bool (a2 == a3)] (h := ?_); (with_reducible refine (spec_l2Bool.calls (a2 == a3) t262 _ A26.out).mono ?_); rintro e w' ⟨rfl, ⟨nd, rfl⟩⟩; refine ⟨_, rfl, ?_⟩))
                go_ret
                exact ⟨Sh.es, Sh.dr⟩
               ·rw [if_neg c25] at H
                have c25b0 : (a1 == 14) = false := beq_eq_false_iff_ne.mpr c25
                have c25b1 : (a1 != 14) = true := bne_iff_ne.mpr c25
                by_cases c27 : a1 = 15
                ·rw [if_pos c27] at H
                 have c27b0 : (a1 == 15) = true := beq_iff_eq.mpr c27
                 have c27b1 : (a1 != 15) = false := bne_eq_false_iff_eq.mpr c27
                 clear c27
                 obtain ⟨t263, A280, H⟩ := Sh.bd H
                 have A28 := am_ A280
                 clear A280
                 obtain rfl := Option.some.inj H
                 go_wp2_with (first | ((with_reducible refine gate_callee (f := 100) rfl ?_); refine Sh.gL (some 88) Try.func100 #[.bool (decide (a2 < a3))] (h := ?_); (with_reducible refine (spec_l2Bool.calls (decide (a2 < a3)) t263 _ A28.out).mono ?_); rintro e w' ⟨rfl, ⟨nd, rfl⟩⟩; refine ⟨_, rfl, ?_⟩))
                 go_ret
                 exact ⟨Sh.es, Sh.dr⟩
                ·rw [if_neg c27] at H
                 have c27b0 : (a1 == 15) = false := beq_eq_false_iff_ne.mpr c27
                 have c27b1 : (a1 != 15) = true := bne_iff_ne.mpr c27
                 by_cases c29 : a1 = 16
                 ·rw [if_pos c29] at H
                  have c29b0 : (a1 == 16) = true := beq_iff_eq.mpr c29
                  have c29b1 : (a1 != 16) = false := bne_eq_false_iff_eq.mpr c29
                  clear c29
                  obtain ⟨t264, A300, H⟩ := Sh.bd H
                  have A30 := am_ A300
                  clear A300
                  obtain ⟨t265, A310, H⟩ := Sh.bd H
                  have A31 := am_ A310
                  clear A310
                  obtain ⟨t266, A320, H⟩ := Sh.bd H
                  have A32 := am_ A320
                  clear A320
                  obtain rfl := Option.some.inj H
                  go_wp2_with (first | ((with_reducible refine gate_callee (f := 101) rfl ?_); refine Sh.gL (some 93) Try.func101 #[.int .i64 a0, .int .u64 a2] (h := ?_); (with_reducible refine (spec_l1Signed.calls kj16 a0 a2 t264 _ A30.out).mono ?_); rintro e w' ⟨rfl, ⟨nd, rfl⟩⟩; refine ⟨_, rfl, ?_⟩) | ((with_reducible refine gate_callee (f := 101) rfl ?_); refine Sh.gL (some 96) Try.func101 #[.int .i64 a0, .int .u64 a3] (h := ?_); (with_reducible refine (spec_l1Signed.calls kj16 a0 a3 t265 _ A31.out).mono ?_); rintro e w' ⟨rfl, ⟨nd, rfl⟩⟩; refine ⟨_, rfl, ?_⟩) | ((with_reducible refine gate_callee (f := 100) rfl ?_); refine Sh.gL (some 98) Try.func100 #[.bool (decide (t264 < t265))] (h := ?_); (with_reducible refine (spec_l2Bool.calls (decide (t264 < t265)) t266 _ A32.out).mono ?_); rintro e w' ⟨rfl, ⟨nd, rfl⟩⟩; refine ⟨_, rfl, ?_⟩))
                  go_ret
                  exact ⟨Sh.es, Sh.dr⟩
                 ·rw [if_neg c29] at H
                  have c29b0 : (a1 == 16) = false := beq_eq_false_iff_ne.mpr c29
                  have c29b1 : (a1 != 16) = true := bne_iff_ne.mpr c29
                  obtain rfl := Option.some.inj H
                  go_wp2
                  go_ret
                  exact ⟨Sh.es, Sh.dr⟩
mutual
def spec_l2From.l0 : Nat → List (S80) → Int → Int → Option (Int)
 | 0, _, _, _ => none
 | k + 1, x0, x5, x8 => if x5 > 0 then ((spec_l2From.f k x0 (wrap64 (x8 - 1))).bind fun t271 => (spec_l2From.l0 k x0 (wrap64 (x5 - 1)) t271)) else (some x8)
def spec_l2From.f : Nat → List (S80) → Int → Option (Int)
 | 0, _, _ => none
 | k + 1, l0, a1 => if 0 ≤ a1 then (if a1 < (l0.length : Int) then ((spec_l2Need.f k ((rd_T80 l0 a1).f0)).bind fun bt268 => (spec_l2From.l0 k l0 bt268.1 a1)) else (none)) else (none)
end
theorem spec_l2From.mono_l : ∀ k, (∀ y0 y1, LeO (spec_l2From.f k y0 y1) (spec_l2From.f (k + 1) y0 y1)) ∧ (∀ y0 y1 y2, LeO (spec_l2From.l0 k y0 y1 y2) (spec_l2From.l0 (k + 1) y0 y1 y2))
 | 0 => ⟨fun _ _ r h => by simp [spec_l2From.f] at h, fun _ _ _ r h => by simp [spec_l2From.l0] at h⟩
 | k + 1 => by
  obtain ⟨ih0, ih1⟩ := spec_l2From.mono_l k
  and_intros <;> intros
  all_goals (first | unfold spec_l2From.f | unfold spec_l2From.l0)
  all_goals repeat' with_reducible first | apply ih0 | apply ih1 | apply spec_l2Need.mono | exact LeO.refl _ | exact LeO.none _ | apply LeO.ite | refine LeO.bind ?_ fun _ => ?_
theorem spec_l2From.mono : ∀ a0 a1 k, LeO (spec_l2From.f k a0 a1) (spec_l2From.f (k + 1) a0 a1) := by
 intro a0 a1 k
 obtain ⟨ih0, ih1⟩ := spec_l2From.mono_l k
 exact ih0 a0 a1
set_option maxHeartbeats 8000000 in
set_option maxRecDepth 100000 in
theorem spec_l2From.calls (k : Nat) : ∀ (A0 : Option Addr) (c0 : Nat) (l0 : List (S80)) (a1 : Int) (r : Int) (w : World) (hr0 : Kd.C k80 w A0 l0.length l0) (hc0 : l0.length ≤ c0) (h : spec_l2From.f k l0 a1 = some r),
  Calls Try.prog 81 #[.slice A0 l0.length c0, .int .i64 a1] w fun e w' => e = .returned (.int .i64 r) ∧ Drawn0 w w' := by
 induction k using Nat.strongRecOn with
 | _ k ih =>
 intro A0 c0 l0 a1 r w hr0 hc0 h
 cases k with
 | zero => exact absurd h (by simp [spec_l2From.f])
 | succ k =>
 simp only [spec_l2From.f] at h
 have HR0 := am_ hr0
 have HC0 := am_ hc0
 clear hr0 hc0
 have H : (if 0 ≤ a1 then (if a1 < (l0.length : Int) then ((spec_l2Need.f k ((rd_T80 l0 a1).f0)).bind fun bt268 => (spec_l2From.l0 k l0 bt268.1 a1)) else (none)) else (none)) = some r := h
 clear h
 by_cases c3 : 0 ≤ a1
 ·rw [if_pos c3] at H
  have c3b0 : decide (0 ≤ a1) = true := decide_eq_true c3
  clear c3
  by_cases c4 : a1 < (l0.length : Int)
  ·rw [if_pos c4] at H
   have c4b0 : decide (a1 < (l0.length : Int)) = true := decide_eq_true c4
   clear c4
   obtain ⟨⟨t268, t269, t270⟩, A50, H⟩ := Sh.bd H
   have A5 := am_ A50
   clear A50
   have H' := am_ H
   clear H
   have p267 : 0 ≤ (a1 : Int) := Sh.od
   have q267 : a1 < (l0.length : Int) := Sh.od
   obtain ⟨ad267, e267, hx267_0, hx267_1⟩ := at_T80 HR0.out a1 p267 q267
   cases e267
   replace p267 := eq_true p267
   replace q267 := eq_true q267
   go_enter Try.func81, Try.ntmps81
   go_wp2_with (first | ((with_reducible refine gate_callee (f := 78) rfl ?_); refine Sh.gL (some 15) Try.func78 #[.int .i64 ((rd_T80 l0 a1).f0)] (h := ?_); (with_reducible refine (spec_l2Need.calls k ((rd_T80 l0 a1).f0) t268 t269 t270 _ A5.out).mono ?_); rintro e w' ⟨rfl, ⟨nd, rfl⟩⟩; refine ⟨_, rfl, ?_⟩))
   go_loopg [5, 8] k (fun kq v5 v8 w' => ∃ (x5_1 : Int) (x8_1 : Int), v5 = .int .i64 x5_1 ∧ v8 = .int .i64 x8_1 ∧ Aside0 (spec_l2From.l0 kq l0 x5_1 x8_1 = some r) ∧ Aside0 (kq ≤ k) ∧ Drawn0 w w')
   case atStart => exact ⟨(t268), (a1), (Sh.es), (Sh.es), H', ⟨Nat.le_refl _⟩, Sh.dr⟩
   case round =>
    clear H'
    try clear p2
    try clear q2
    try clear hx2
    try clear c3
    try clear c3b0
    try clear c4
    try clear c4b0
    try clear hx267_0
    try clear hx267_1
    try clear p267
    try clear q267
    obtain ⟨x5_1, x8_1, rfl, rfl, HA, HK1, ⟨m1, rfl⟩⟩ := hrel
    cases gk with
    | zero => exact absurd HA.out (by simp [spec_l2From.l0])
    | succ k1 =>
     have H := HA.out
     clear HA
     simp only [spec_l2From.l0] at H
     by_cases c6 : x5_1 > 0
     ·rw [if_pos c6] at H
      have c6b0 : decide (0 < x5_1) = true := decide_eq_true c6
      clear c6
      obtain ⟨t271, A70, H⟩ := Sh.bd H
      have A7 := am_ A70
      clear A70
      have H' := am_ H
      clear H
      go_wp2_with (first | ((with_reducible refine gate_callee (f := 81) rfl ?_); refine Sh.gL (some 27) Try.func81 #[.slice (some ad267) l0.length c0, .int .i64 (wrap64 (x8_1 - 1))] (h := ?_); (with_reducible refine (ih k1 (by have := HK1.out; omega) _ _ l0 (wrap64 (x8_1 - 1)) t271 _ ?side1 ?side2 A7.out).mono ?_); (case side1 => repeat (first | exact HR0.out | (with_reducible first | refine Kd.C_alloc ?_ _ | refine Kd.C_drewN ?_ _ | refine Kd.C_drew ?_))); (case side2 => exact HC0.out); rintro e w' ⟨rfl, ⟨nd, rfl⟩⟩; refine ⟨_, rfl, ?_⟩))
      go_roundg k1
      case measure => have := HK1.out; omega
      case rel => exact ⟨(wrap64 (x5_1 - 1)), (t271), (Sh.es), (Sh.es), H', ⟨by have := HK1.out; omega⟩, Sh.dr⟩
     ·rw [if_neg c6] at H
      have c6b0 : decide (0 < x5_1) = false := decide_eq_false c6
      clear c6
      obtain rfl := Option.some.inj H
      go_wp2
      go_ret
      exact ⟨Sh.es, Sh.dr⟩
  ·rw [if_neg c4] at H
   exact absurd H (by simp)
 ·rw [if_neg c3] at H
  exact absurd H (by simp)
def spec_l2Value.f : Nat → Int → List (S80) → Int → List Int → Option (Int)
 | 0, _, _, _, _ => none
 | k + 1, a0, l1, a2, l3 => if 0 ≤ a2 then (if a2 < (l1.length : Int) then ((spec_l2Need.f k ((rd_T80 l1 a2).f0)).bind fun bt274 => (if ((rd_T80 l1 a2).f0) = 2 then (if 0 ≤ ((rd_T80 l1 a2).f1) then (if ((rd_T80 l1 a2).f1) < (l3.length : Int) then (some (rd l3 ((rd_T80 l1 a2).f1))) else (none)) else (none)) else (if bt274.1 = 0 then (some ((rd_T80 l1 a2).f1)) else (if ((rd_T80 l1 a2).f0) = 13 then ((spec_l2Value.f k a0 l1 (wrap64 (a2 - 1)) l3).bind fun t278 => ((spec_l1Cut.f k a0 (Go.bits .xor .u64 18446744073709551615 t278)).bind fun t279 => (some t279))) else (if ((rd_T80 l1 a2).f0) = 19 then ((spec_l2Value.f k a0 l1 (wrap64 (a2 - 1)) l3).bind fun t280 => (some (IntKind.u64.wrap (1 - t280)))) else ((spec_l2From.f k l1 (wrap64 (a2 - 1))).bind fun t281 => ((spec_l2Value.f k a0 l1 (wrap64 (t281 - 1)) l3).bind fun t282 => ((spec_l2Value.f k a0 l1 (wrap64 (a2 - 1)) l3).bind fun t283 => ((spec_l2Do.f k a0 ((rd_T80 l1 a2).f0) t282 t283).bind fun t284 => (some t284)))))))))) else (none)) else (none)
theorem spec_l2Value.mono_l : ∀ k, (∀ y0 y1 y2 y3, LeO (spec_l2Value.f k y0 y1 y2 y3) (spec_l2Value.f (k + 1) y0 y1 y2 y3))
 | 0 => fun _ _ _ _ r h => by simp [spec_l2Value.f] at h
 | k + 1 => by
  have ih0 := spec_l2Value.mono_l k
  ·intro y0 y1 y2 y3
   unfold spec_l2Value.f
   repeat' with_reducible first | apply ih0 | apply spec_l1Cut.mono | apply spec_l2Do.mono | apply spec_l2From.mono | apply spec_l2Need.mono | exact LeO.refl _ | exact LeO.none _ | apply LeO.ite | refine LeO.bind ?_ fun _ => ?_
theorem spec_l2Value.mono : ∀ a0 a1 a2 a3 k, LeO (spec_l2Value.f k a0 a1 a2 a3) (spec_l2Value.f (k + 1) a0 a1 a2 a3) := by
 intro a0 a1 a2 a3 k
 have ih0 := spec_l2Value.mono_l k
 exact ih0 a0 a1 a2 a3
def spec_l2Value.T11 : Bool × List (List Nat × List Nat) := (true, [([], []), ([], []), ([1], [1]), ([], []), ([], []), ([], []), ([], []), ([6], [6]), ([5, 7], [5, 7]), ([8], [8]), ([], []), ([3, 4, 9, 10, 8], [3, 4, 9, 10]), ([], []), ([], []), ([], []), ([14], [14]), ([], []), ([12, 13, 15, 16, 11], [12, 13, 15, 16]), ([0, 2, 11, 17, 17], [0, 2, 11, 17]), ([18, 18, 0, 1, 2, 3, 4, 5, 6, 7, 8, 9, 10, 11, 12, 13, 14, 15, 16, 17, 18], [18])])
def spec_l2Value.B11 : List Nat := [0, 0, 2, 0, 0, 0, 0, 64, 224, 480, 0, 2040, 0, 0, 0, 16384, 0, 131064, 262143, 524287]
theorem spec_l2Value.tab11 : rtab .any (opsOf Try.f63 11) = spec_l2Value.T11 := by kernel_rfl
theorem spec_l2Value.bits11 : waitsOk spec_l2Value.T11.2 spec_l2Value.B11 = true := by kernel_rfl
set_option maxHeartbeats 8000000 in
set_option maxRecDepth 100000 in
theorem spec_l2Value.calls (k : Nat) : ∀ (a0 : Int) (A1 : Option Addr) (c1 : Nat) (l1 : List (S80)) (a2 : Int) (A3 : Option Addr) (c3 : Nat) (l3 : List Int) (r : Int) (w : World) (hr1 : Kd.C k80 w A1 l1.length l1) (hc1 : l1.length ≤ c1) (hr3 : Kd.C (Kd.int .u64) w A3 l3.length l3) (hc3 : l3.length ≤ c3) (h : spec_l2Value.f k a0 l1 a2 l3 = some r),
  Calls Try.prog 63 #[.int .i64 a0, .slice A1 l1.length c1, .int .i64 a2, .slice A3 l3.length c3] w fun e w' => e = .returned (.int .u64 r) ∧ Below w.heap.size w w' := by
 induction k using Nat.strongRecOn with
 | _ k ih =>
 intro a0 A1 c1 l1 a2 A3 c3 l3 r w hr1 hc1 hr3 hc3 h
 cases k with
 | zero => exact absurd h (by simp [spec_l2Value.f])
 | succ k =>
 simp only [spec_l2Value.f] at h
 have hu80 := Try.underlying80
 have HR1 := am_ hr1
 have HC1 := am_ hc1
 clear hr1 hc1
 have HR3 := am_ hr3
 have HC3 := am_ hc3
 clear hr3 hc3
 have HB := am_ (Below.refl w.heap.size w)
 have H : (if 0 ≤ a2 then (if a2 < (l1.length : Int) then ((spec_l2Need.f k ((rd_T80 l1 a2).f0)).bind fun bt274 => (if ((rd_T80 l1 a2).f0) = 2 then (if 0 ≤ ((rd_T80 l1 a2).f1) then (if ((rd_T80 l1 a2).f1) < (l3.length : Int) then (some (rd l3 ((rd_T80 l1 a2).f1))) else (none)) else (none)) else (if bt274.1 = 0 then (some ((rd_T80 l1 a2).f1)) else (if ((rd_T80 l1 a2).f0) = 13 then ((spec_l2Value.f k a0 l1 (wrap64 (a2 - 1)) l3).bind fun t278 => ((spec_l1Cut.f k a0 (Go.bits .xor .u64 18446744073709551615 t278)).bind fun t279 => (some t279))) else (if ((rd_T80 l1 a2).f0) = 19 then ((spec_l2Value.f k a0 l1 (wrap64 (a2 - 1)) l3).bind fun t280 => (some (IntKind.u64.wrap (1 - t280)))) else ((spec_l2From.f k l1 (wrap64 (a2 - 1))).bind fun t281 => ((spec_l2Value.f k a0 l1 (wrap64 (t281 - 1)) l3).bind fun t282 => ((spec_l2Value.f k a0 l1 (wrap64 (a2 - 1)) l3).bind fun t283 => ((spec_l2Do.f k a0 ((rd_T80 l1 a2).f0) t282 t283).bind fun t284 => (some t284)))))))))) else (none)) else (none)) = some r := h
 clear h
 by_cases c5 : 0 ≤ a2
 ·rw [if_pos c5] at H
  have c5b0 : decide (0 ≤ a2) = true := decide_eq_true c5
  clear c5
  by_cases c6 : a2 < (l1.length : Int)
  ·rw [if_pos c6] at H
   have c6b0 : decide (a2 < (l1.length : Int)) = true := decide_eq_true c6
   clear c6
   obtain ⟨⟨t274, t275, t276⟩, A70, H⟩ := Sh.bd H
   have A7 := am_ A70
   clear A70
   by_cases c8 : ((rd_T80 l1 a2).f0) = 2
   ·rw [if_pos c8] at H
    have c8b0 : (((rd_T80 l1 a2).f0) == 2) = true := beq_iff_eq.mpr c8
    have c8b1 : (((rd_T80 l1 a2).f0) != 2) = false := bne_eq_false_iff_eq.mpr c8
    clear c8
    by_cases c9 : 0 ≤ ((rd_T80 l1 a2).f1)
    ·rw [if_pos c9] at H
     have c9b0 : decide (0 ≤ ((rd_T80 l1 a2).f1)) = true := decide_eq_true c9
     clear c9
     by_cases c10 : ((rd_T80 l1 a2).f1) < (l3.length : Int)
     ·rw [if_pos c10] at H
      have c10b0 : decide (((rd_T80 l1 a2).f1) < (l3.length : Int)) = true := decide_eq_true c10
      clear c10
      obtain rfl := Option.some.inj H
      have p272 : 0 ≤ (a2 : Int) := Sh.od
      have q272 : a2 < (l1.length : Int) := Sh.od
      obtain ⟨ad272, e272, hx272_0, hx272_1⟩ := at_T80 HR1.out a2 p272 q272
      cases e272
      replace p272 := eq_true p272
      replace q272 := eq_true q272
      go_enter Try.func63, Try.ntmps63
      go_wp2_with (first | ((with_reducible refine gate_dst (N := 9) rfl ?_); refine Sh.bx (N := 9) (cs := #[.int .i64 0, .int .u64 0]) (t := 80) (h := ?_); intro gb273 hg w11 hbox hb; have BK273 := am_ hbox; have GW273 := am_ (Sh.gw (w := w) hg); have GE273 := am_ (Sh.gw (w := w) hg); replace HB := am_ (below_step Sh.bw hb); clear hb hbox hg; obtain ⟨hcz12_0, hcz12_1, hfz12_0, hfz12_1⟩ := Sh.b2 BK273.out) | ((with_reducible refine gate_callee (f := 78) rfl ?_); refine Sh.gL (some 20) Try.func78 #[.int .i64 ((rd_T80 l1 a2).f0)] (h := ?_); (with_reducible refine (spec_l2Need.calls k ((rd_T80 l1 a2).f0) t274 t275 t276 _ A7.out).mono ?_); rintro e w' ⟨rfl, ⟨nd, rfl⟩⟩; refine ⟨_, rfl, ?_⟩; have p277 : 0 ≤ (((rd_T80 l1 a2).f1) : Int) := Sh.od; have q277 : ((rd_T80 l1 a2).f1) < (l3.length : Int) := Sh.od; obtain ⟨ad277, e277, hx277_0⟩ := Kd.at_int HR3.out ((rd_T80 l1 a2).f1) p277 q277; cases e277; have hn277_0 : ad277.block ≠ gb273 := Nat.ne_of_lt (Nat.lt_of_lt_of_le (by have := World.block_lt_of_cell? _ _ hx277_0; first | rwa [add_block] at this | exact this) GW273.out); have hn277_1 : ad277.block ≠ gb273 := Nat.ne_of_lt (Nat.lt_of_lt_of_le (by have := World.block_lt_of_cell? _ _ hx277_0; first | rwa [add_block] at this | exact this) GW273.out); replace hx277_0 := (HB.out.cell (World.block_lt_of_cell? w _ hx277_0)).trans hx277_0; replace hx277_0 := (cell_far (p := ⟨gb273, 0, none⟩) (by first | (rw [add_block]; exact hn277_0) | (show (Addr.add _ _).block ≠ _; rw [add_block]; exact hn277_0) | exact hn277_0) (.int .i64 ((rd_T80 l1 a2).f0))).trans hx277_0; replace hx277_0 := (cell_far (p := ⟨gb273, 1, none⟩) (by first | (rw [add_block]; exact hn277_1) | (show (Addr.add _ _).block ≠ _; rw [add_block]; exact hn277_1) | exact hn277_1) (.int .u64 ((rd_T80 l1 a2).f1))).trans hx277_0; clear hn277_0; clear hn277_1; replace p277 := eq_true p277; replace q277 := eq_true q277))
      go_ret
      exact ⟨Sh.eR, Sh.bw⟩
     ·rw [if_neg c10] at H
      exact absurd H (by simp)
    ·rw [if_neg c9] at H
     exact absurd H (by simp)
   ·rw [if_neg c8] at H
    have c8b0 : (((rd_T80 l1 a2).f0) == 2) = false := beq_eq_false_iff_ne.mpr c8
    have c8b1 : (((rd_T80 l1 a2).f0) != 2) = true := bne_iff_ne.mpr c8
    by_cases c13 : t274 = 0
    ·rw [if_pos c13] at H
     have c13b0 : (t274 == 0) = true := beq_iff_eq.mpr c13
     have c13b1 : (t274 != 0) = false := bne_eq_false_iff_eq.mpr c13
     clear c13
     obtain rfl := Option.some.inj H
     have p272 : 0 ≤ (a2 : Int) := Sh.od
     have q272 : a2 < (l1.length : Int) := Sh.od
     obtain ⟨ad272, e272, hx272_0, hx272_1⟩ := at_T80 HR1.out a2 p272 q272
     cases e272
     replace p272 := eq_true p272
     replace q272 := eq_true q272
     go_enter Try.func63, Try.ntmps63
     go_wp2_with (first | ((with_reducible refine gate_dst (N := 9) rfl ?_); refine Sh.bx (N := 9) (cs := #[.int .i64 0, .int .u64 0]) (t := 80) (h := ?_); intro gb273 hg w14 hbox hb; have BK273 := am_ hbox; have GW273 := am_ (Sh.gw (w := w) hg); have GE273 := am_ (Sh.gw (w := w) hg); replace HB := am_ (below_step Sh.bw hb); clear hb hbox hg; obtain ⟨hcz15_0, hcz15_1, hfz15_0, hfz15_1⟩ := Sh.b2 BK273.out) | ((with_reducible refine gate_callee (f := 78) rfl ?_); refine Sh.gL (some 20) Try.func78 #[.int .i64 ((rd_T80 l1 a2).f0)] (h := ?_); (with_reducible refine (spec_l2Need.calls k ((rd_T80 l1 a2).f0) t274 t275 t276 _ A7.out).mono ?_); rintro e w' ⟨rfl, ⟨nd, rfl⟩⟩; refine ⟨_, rfl, ?_⟩))
     go_ret
     exact ⟨Sh.eR, Sh.bw⟩
    ·rw [if_neg c13] at H
     have c13b0 : (t274 == 0) = false := beq_eq_false_iff_ne.mpr c13
     have c13b1 : (t274 != 0) = true := bne_iff_ne.mpr c13
     by_cases c16 : ((rd_T80 l1 a2).f0) = 13
     ·rw [if_pos c16] at H
      have c16b0 : (((rd_T80 l1 a2).f0) == 13) = true := beq_iff_eq.mpr c16
      have c16b1 : (((rd_T80 l1 a2).f0) != 13) = false := bne_eq_false_iff_eq.mpr c16
      clear c16
      obtain ⟨t278, A170, H⟩ := Sh.bd H
      have A17 := am_ A170
      clear A170
      obtain ⟨t279, A180, H⟩ := Sh.bd H
      have A18 := am_ A180
      clear A180
      obtain rfl := Option.some.inj H
      have p272 : 0 ≤ (a2 : Int) := Sh.od
      have q272 : a2 < (l1.length : Int) := Sh.od
      obtain ⟨ad272, e272, hx272_0, hx272_1⟩ := at_T80 HR1.out a2 p272 q272
      cases e272
      replace p272 := eq_true p272
      replace q272 := eq_true q272
      go_enter Try.func63, Try.ntmps63
      go_wp2_with (first | ((with_reducible refine gate_dst (N := 9) rfl ?_); refine Sh.bx (N := 9) (cs := #[.int .i64 0, .int .u64 0]) (t := 80) (h := ?_); intro gb273 hg w19 hbox hb; have BK273 := am_ hbox; have GW273 := am_ (Sh.gw (w := w) hg); have GE273 := am_ (Sh.gw (w := w) hg); replace HB := am_ (below_step Sh.bw hb); clear hb hbox hg; obtain ⟨hcz20_0, hcz20_1, hfz20_0, hfz20_1⟩ := Sh.b2 BK273.out) | ((with_reducible refine gate_callee (f := 78) rfl ?_); refine Sh.gL (some 20) Try.func78 #[.int .i64 ((rd_T80 l1 a2).f0)] (h := ?_); (with_reducible refine (spec_l2Need.calls k ((rd_T80 l1 a2).f0) t274 t275 t276 _ A7.out).mono ?_); rintro e w' ⟨rfl, ⟨nd, rfl⟩⟩; refine ⟨_, rfl, ?_⟩) | ((with_reducible refine gate_callee (f := 63) rfl ?_); refine Sh.gL (some 48) Try.func63 #[.int .i64 a0, .slice (some ad272) l1.length c1, .int .i64 (wrap64 (a2 - 1)), .slice A3 l3.length c3] (h := ?_); (with_reducible refine (ih k (by omega) a0 _ _ l1 (wrap64 (a2 - 1)) _ _ l3 t278 _ (Sh.cB HR1.out) HC1.out (Sh.cB HR3.out) HC3.out A17.out).mono ?_); rintro e w21 ⟨rfl, hb⟩; refine ⟨_, rfl, ?_⟩; replace BK273 := am_ (blk_below (g := gb273) (o := .cells #[.int .i64 ((rd_T80 l1 a2).f0), .int .u64 ((rd_T80 l1 a2).f1)] 80 (0, 0)) (by (with_reducible repeat (first | refine blk_drewN ?_ _ | refine blk_drew ?_ | refine blk_alloc ?_ _)); refine blk_put (cs := #[.int .i64 ((rd_T80 l1 a2).f0), .int .u64 0]) ?_ 1 _ rfl; (with_reducible repeat (first | refine blk_drewN ?_ _ | refine blk_drew ?_ | refine blk_alloc ?_ _)); refine blk_put (cs := #[.int .i64 0, .int .u64 0]) ?_ 0 _ rfl; (with_reducible repeat (first | refine blk_drewN ?_ _ | refine blk_drew ?_ | refine blk_alloc ?_ _)); exact BK273.out) hb); replace HB := am_ (below_step Sh.bw hb); (try clear hb); (try clear hb2); (try clear hk); (try clear hi)) | ((with_reducible refine gate_callee (f := 79) rfl ?_); refine Sh.gL (some 50) Try.func79 #[.int .i64 a0, .int .u64 (Go.bits .xor .u64 18446744073709551615 t278)] (h := ?_); (with_reducible refine (spec_l1Cut.calls k a0 (Go.bits .xor .u64 18446744073709551615 t278) t279 _ A18.out).mono ?_); rintro e w' ⟨rfl, ⟨nd, rfl⟩⟩; refine ⟨_, rfl, ?_⟩))
      go_ret
      exact ⟨Sh.eR, Sh.bw⟩
     ·rw [if_neg c16] at H
      have c16b0 : (((rd_T80 l1 a2).f0) == 13) = false := beq_eq_false_iff_ne.mpr c16
      have c16b1 : (((rd_T80 l1 a2).f0) != 13) = true := bne_iff_ne.mpr c16
      by_cases c22 : ((rd_T80 l1 a2).f0) = 19
      ·rw [if_pos c22] at H
       have c22b0 : (((rd_T80 l1 a2).f0) == 19) = true := beq_iff_eq.mpr c22
       have c22b1 : (((rd_T80 l1 a2).f0) != 19) = false := bne_eq_false_iff_eq.mpr c22
       clear c22
       obtain ⟨t280, A230, H⟩ := Sh.bd H
       have A23 := am_ A230
       clear A230
       obtain rfl := Option.some.inj H
       have p272 : 0 ≤ (a2 : Int) := Sh.od
       have q272 : a2 < (l1.length : Int) := Sh.od
       obtain ⟨ad272, e272, hx272_0, hx272_1⟩ := at_T80 HR1.out a2 p272 q272
       cases e272
       replace p272 := eq_true p272
       replace q272 := eq_true q272
       go_enter Try.func63, Try.ntmps63
       go_wp2_with (first | ((with_reducible refine gate_dst (N := 9) rfl ?_); refine Sh.bx (N := 9) (cs := #[.int .i64 0, .int .u64 0]) (t := 80) (h := ?_); intro gb273 hg w24 hbox hb; have BK273 := am_ hbox; have GW273 := am_ (Sh.gw (w := w) hg); have GE273 := am_ (Sh.gw (w := w) hg); replace HB := am_ (below_step Sh.bw hb); clear hb hbox hg; obtain ⟨hcz25_0, hcz25_1, hfz25_0, hfz25_1⟩ := Sh.b2 BK273.out) | ((with_reducible refine gate_callee (f := 78) rfl ?_); refine Sh.gL (some 20) Try.func78 #[.int .i64 ((rd_T80 l1 a2).f0)] (h := ?_); (with_reducible refine (spec_l2Need.calls k ((rd_T80 l1 a2).f0) t274 t275 t276 _ A7.out).mono ?_); rintro e w' ⟨rfl, ⟨nd, rfl⟩⟩; refine ⟨_, rfl, ?_⟩) | ((with_reducible refine gate_callee (f := 63) rfl ?_); refine Sh.gL (some 60) Try.func63 #[.int .i64 a0, .slice (some ad272) l1.length c1, .int .i64 (wrap64 (a2 - 1)), .slice A3 l3.length c3] (h := ?_); (with_reducible refine (ih k (by omega) a0 _ _ l1 (wrap64 (a2 - 1)) _ _ l3 t280 _ (Sh.cB HR1.out) HC1.out (Sh.cB HR3.out) HC3.out A23.out).mono ?_); rintro e w26 ⟨rfl, hb⟩; refine ⟨_, rfl, ?_⟩; replace BK273 := am_ (blk_below (g := gb273) (o := .cells #[.int .i64 ((rd_T80 l1 a2).f0), .int .u64 ((rd_T80 l1 a2).f1)] 80 (0, 0)) (by (with_reducible repeat (first | refine blk_drewN ?_ _ | refine blk_drew ?_ | refine blk_alloc ?_ _)); refine blk_put (cs := #[.int .i64 ((rd_T80 l1 a2).f0), .int .u64 0]) ?_ 1 _ rfl; (with_reducible repeat (first | refine blk_drewN ?_ _ | refine blk_drew ?_ | refine blk_alloc ?_ _)); refine blk_put (cs := #[.int .i64 0, .int .u64 0]) ?_ 0 _ rfl; (with_reducible repeat (first | refine blk_drewN ?_ _ | refine blk_drew ?_ | refine blk_alloc ?_ _)); exact BK273.out) hb); replace HB := am_ (below_step Sh.bw hb); (try clear hb); (try clear hb2); (try clear hk); (try clear hi)))
       go_ret
       exact ⟨Sh.eR, Sh.bw⟩
      ·rw [if_neg c22] at H
       have c22b0 : (((rd_T80 l1 a2).f0) == 19) = false := beq_eq_false_iff_ne.mpr c22
       have c22b1 : (((rd_T80 l1 a2).f0) != 19) = true := bne_iff_ne.mpr c22
       obtain ⟨t281, A270, H⟩ := Sh.bd H
       have A27 := am_ A270
       clear A270
       obtain ⟨t282, A280, H⟩ := Sh.bd H
       have A28 := am_ A280
       clear A280
       obtain ⟨t283, A290, H⟩ := Sh.bd H
       have A29 := am_ A290
       clear A290
       obtain ⟨t284, A300, H⟩ := Sh.bd H
       have A30 := am_ A300
       clear A300
       obtain rfl := Option.some.inj H
       have p272 : 0 ≤ (a2 : Int) := Sh.od
       have q272 : a2 < (l1.length : Int) := Sh.od
       obtain ⟨ad272, e272, hx272_0, hx272_1⟩ := at_T80 HR1.out a2 p272 q272
       cases e272
       replace p272 := eq_true p272
       replace q272 := eq_true q272
       go_enter Try.func63, Try.ntmps63
       try go_wp2_with (first | ((with_reducible refine gate_dst (N := 9) rfl ?_); refine Sh.bx (N := 9) (cs := #[.int .i64 0, .int .u64 0]) (t := 80) (h := ?_); intro gb273 hg w31 hbox hb; have BK273 := am_ hbox; have GW273 := am_ (Sh.gw (w := w) hg); have GE273 := am_ (Sh.gw (w := w) hg); replace HB := am_ (below_step Sh.bw hb); clear hb hbox hg; obtain ⟨hcz32_0, hcz32_1, hfz32_0, hfz32_1⟩ := Sh.b2 BK273.out) | ((with_reducible refine gate_callee (f := 78) rfl ?_); refine Sh.gL (some 20) Try.func78 #[.int .i64 ((rd_T80 l1 a2).f0)] (h := ?_); (with_reducible refine (spec_l2Need.calls k ((rd_T80 l1 a2).f0) t274 t275 t276 _ A7.out).mono ?_); rintro e w' ⟨rfl, ⟨nd, rfl⟩⟩; refine ⟨_, rfl, ?_⟩))
       have n0_ : Aside0 (((w31.setCell ⟨gb273, 0, none⟩ (.int .i64 ((rd_T80 l1 a2).f0))).setCell ⟨gb273, 1, none⟩ (.int .u64 ((rd_T80 l1 a2).f1))).heap[gb273]? = some (.cells #[.int .i64 ((rd_T80 l1 a2).f0), .int .u64 ((rd_T80 l1 a2).f1)] 80 (0, 0))) := ⟨by (with_reducible repeat (first | refine blk_drewN ?_ _ | refine blk_drew ?_ | refine blk_alloc ?_ _)); refine blk_put (cs := #[.int .i64 ((rd_T80 l1 a2).f0), .int .u64 0]) ?_ 1 _ rfl; (with_reducible repeat (first | refine blk_drewN ?_ _ | refine blk_drew ?_ | refine blk_alloc ?_ _)); refine blk_put (cs := #[.int .i64 0, .int .u64 0]) ?_ 0 _ rfl; (with_reducible repeat (first | refine blk_drewN ?_ _ | refine blk_drew ?_ | refine blk_alloc ?_ _)); exact BK273.out⟩
       have n1_ : Aside0 (Below w.heap.size w ((w31.setCell ⟨gb273, 0, none⟩ (.int .i64 ((rd_T80 l1 a2).f0))).setCell ⟨gb273, 1, none⟩ (.int .u64 ((rd_T80 l1 a2).f1)))) := ⟨Sh.bw⟩
       (try clear BK273)
       (try clear HB)
       generalize ((w31.setCell ⟨gb273, 0, none⟩ (.int .i64 ((rd_T80 l1 a2).f0))).setCell ⟨gb273, 1, none⟩ (.int .u64 ((rd_T80 l1 a2).f1))) = w33 at n0_ n1_ ⊢
       have BK273 := n0_
       have HB := n1_
       clear n0_ n1_
       (try (rw [drewN_self w33]; generalize hq_ : World.drewN w33 _ = w33; have n0_ : Aside0 (w33.heap[gb273]? = some (.cells #[.int .i64 ((rd_T80 l1 a2).f0), .int .u64 ((rd_T80 l1 a2).f1)] 80 (0, 0))) := ⟨by rw [← hq_]; exact (by (with_reducible repeat (first | refine blk_drewN ?_ _ | refine blk_drew ?_ | refine blk_alloc ?_ _)); exact BK273.out)⟩; have n1_ : Aside0 (Below w.heap.size w w33) := ⟨by rw [← hq_]; exact Sh.bw⟩; clear BK273 HB hq_; have BK273 := n0_; have HB := n1_; clear n0_ n1_))
       replace BK273 := am_ (blk_drew BK273.out)
       replace HB := am_ (below_drew1 HB.out)
       refine start_ (n := 20) (S := fun w' => w'.cell? ⟨gb273, 0, none⟩ = some (.int .i64 ((rd_T80 l1 a2).f0)) ∧ w'.cell? ⟨gb273, 1, none⟩ = some (.int .u64 ((rd_T80 l1 a2).f1))) (ds := []) (Sh.nm 20 0) (by kernel_rfl) rfl rfl Sh.cs (fun hHeld => ?_); refine with_tabW spec_l2Value.tab11 spec_l2Value.bits11 (fun HT_ HW_ => ?_)
       generalize w33.drew = w34 at BK273 HB hHeld ⊢
       refine Sh.qA 0 ?_; refine Sh.qA 1 ?_; refine Sh.qA 3 ?_; refine Sh.qA 4 ?_; refine Sh.qA 5 ?_; refine Sh.qA 6 ?_; refine Sh.qA 7 ?_; refine Sh.qA 10 ?_; refine Sh.qA 12 ?_; refine Sh.qA 13 ?_; refine Sh.qA 14 ?_; refine Sh.qA 15 ?_; refine Sh.qA 16 ?_; refine Sh.qT 2 hHeld ?_
       refine Sh.oC 8 Try.func81 #[.slice (some ad272) l1.length c1, .int .i64 (wrap64 (a2 - 1))] fun K hK => ?_
       with_reducible refine (spec_l2From.calls k _ _ l1 (wrap64 (a2 - 1)) t281 _ ?side1 ?side2 A27.out).mono ?_
       (case side1 => repeat (first | exact (Kd.C_below HR1.out HB.out) | (with_reducible first | refine Kd.C_alloc ?_ _ | refine Kd.C_drewN ?_ _ | refine Kd.C_drew ?_)))
       (case side2 => exact HC1.out)
       rintro e w' ⟨rfl, ⟨nd, rfl⟩⟩
       refine ⟨_, rfl, ?_⟩
       refine Sh.kN hK Sh.cs fun hHeld => ?_
       clear hK K
       refine Sh.qA 9 ?_
       refine Sh.oC 11 Try.func63 #[.int .i64 a0, .slice (some ad272) l1.length c1, .int .i64 (wrap64 (t281 - 1)), .slice A3 l3.length c3] fun K hK => ?_
       with_reducible refine (ih k (by omega) a0 _ _ l1 (wrap64 (t281 - 1)) _ _ l3 t282 _ ?side1 ?side2 ?side3 ?side4 A28.out).mono ?_
       (case side1 => repeat (first | exact (Kd.C_below HR1.out Sh.bw) | (with_reducible first | refine Kd.C_alloc ?_ _ | refine Kd.C_drewN ?_ _ | refine Kd.C_drew ?_)))
       (case side2 => exact HC1.out)
       (case side3 => repeat (first | exact (Kd.C_below HR3.out Sh.bw) | (with_reducible first | refine Kd.C_alloc ?_ _ | refine Kd.C_drewN ?_ _ | refine Kd.C_drew ?_)))
       (case side4 => exact HC3.out)
       rintro e w35 ⟨rfl, hb⟩
       refine ⟨_, rfl, ?_⟩
       replace BK273 := am_ (Sh.bb BK273.out hb)
       replace HB := am_ (below_step Sh.bw hb)
       (try clear hb)
       (try clear hb2)
       (try clear hk)
       (try clear hi)
       refine Sh.kN hK Sh.cs fun hHeld => ?_
       clear hK K
       refine Sh.oC 17 Try.func63 #[.int .i64 a0, .slice (some ad272) l1.length c1, .int .i64 (wrap64 (a2 - 1)), .slice A3 l3.length c3] fun K hK => ?_
       with_reducible refine (ih k (by omega) a0 _ _ l1 (wrap64 (a2 - 1)) _ _ l3 t283 _ ?side1 ?side2 ?side3 ?side4 A29.out).mono ?_
       (case side1 => repeat (first | exact (Kd.C_below HR1.out HB.out) | (with_reducible first | refine Kd.C_alloc ?_ _ | refine Kd.C_drewN ?_ _ | refine Kd.C_drew ?_)))
       (case side2 => exact HC1.out)
       (case side3 => repeat (first | exact (Kd.C_below HR3.out HB.out) | (with_reducible first | refine Kd.C_alloc ?_ _ | refine Kd.C_drewN ?_ _ | refine Kd.C_drew ?_)))
       (case side4 => exact HC3.out)
       rintro e w36 ⟨rfl, hb⟩
       refine ⟨_, rfl, ?_⟩
       replace BK273 := am_ (Sh.bb BK273.out hb)
       replace HB := am_ (below_step Sh.bw hb)
       (try clear hb)
       (try clear hb2)
       (try clear hk)
       (try clear hi)
       refine Sh.kN hK Sh.cs fun hHeld => ?_
       clear hK K
       refine Sh.oC 18 Try.func80 #[.int .i64 a0, .int .i64 ((rd_T80 l1 a2).f0), .int .u64 t282, .int .u64 t283] fun K hK => ?_
       with_reducible refine (spec_l2Do.calls k a0 ((rd_T80 l1 a2).f0) t282 t283 t284 _ A30.out).mono ?_
       rintro e w' ⟨rfl, ⟨nd, rfl⟩⟩
       refine ⟨_, rfl, ?_⟩
       refine Sh.kN hK Sh.cs fun hHeld => ?_
       clear hK K
       refine Sh.qA 19 ?_
       refine done_ (done_of HT_.out (by kernel_rfl)) ?_
       try go_wp2
       go_ret
       exact ⟨Sh.eR, Sh.bw⟩
  ·rw [if_neg c6] at H
   exact absurd H (by simp)
 ·rw [if_neg c5] at H
  exact absurd H (by simp)
def spec_l7Holds.f (k : Nat) (a0_0 : Int) (a0_1 : Int) (l0_2 : List (S80)) (l0_3 : List (S71)) (l1 : List (S80)) (l2 : List Int) : Option (Bool) := (spec_l2Value.f k a0_0 l1 (wrap64 ((l1.length : Int) - 1)) l2).bind fun t286 => (some (t286 == 1))
theorem spec_l7Holds.mono : ∀ a0 a1 a2 a3 a4 a5 k, LeO (spec_l7Holds.f k a0 a1 a2 a3 a4 a5) (spec_l7Holds.f (k + 1) a0 a1 a2 a3 a4 a5) := by
 intro a0 a1 a2 a3 a4 a5 k
 unfold spec_l7Holds.f
 repeat' with_reducible first | apply spec_l2Value.mono | exact LeO.refl _ | exact LeO.none _ | apply LeO.ite | refine LeO.bind ?_ fun _ => ?_
set_option maxHeartbeats 8000000 in
set_option maxRecDepth 100000 in
theorem spec_l7Holds.calls (k : Nat) (a0_0 : Int) (a0_1 : Int) (A0_2 : Option Addr) (c0_2 : Nat) (l0_2 : List (S80)) (A0_3 : Option Addr) (c0_3 : Nat) (l0_3 : List (S71)) (A1 : Option Addr) (c1 : Nat) (l1 : List (S80)) (A2 : Option Addr) (c2 : Nat) (l2 : List Int) (r : Bool) (w : World) (hr0_2 : Kd.C k80 w A0_2 l0_2.length l0_2) (hc0_2 : l0_2.length ≤ c0_2) (hr0_3 : Kd.C k71 w A0_3 l0_3.length l0_3) (hc0_3 : l0_3.length ≤ c0_3) (hr1 : Kd.C k80 w A1 l1.length l1) (hc1 : l1.length ≤ c1) (hr2 : Kd.C (Kd.int .u64) w A2 l2.length l2) (hc2 : l2.length ≤ c2) (h : spec_l7Holds.f k a0_0 a0_1 l0_2 l0_3 l1 l2 = some r) :
  Calls Try.prog 35 #[.agg #[.int .i64 a0_0, .int .i64 a0_1, .slice A0_2 l0_2.length c0_2, .slice A0_3 l0_3.length c0_3], .slice A1 l1.length c1, .slice A2 l2.length c2] w fun e w' => e = .returned (.bool r) ∧ Below w.heap.size w w' := by
 have hu33 := Try.underlying33
 have HR0_2 := am_ hr0_2
 have HC0_2 := am_ hc0_2
 clear hr0_2 hc0_2
 have HR0_3 := am_ hr0_3
 have HC0_3 := am_ hc0_3
 clear hr0_3 hc0_3
 have HR1 := am_ hr1
 have HC1 := am_ hc1
 clear hr1 hc1
 have HR2 := am_ hr2
 have HC2 := am_ hc2
 clear hr2 hc2
 have HB := am_ (Below.refl w.heap.size w)
 have H := h
 clear h
 unfold spec_l7Holds.f at H
 obtain ⟨t286, A40, H⟩ := Sh.bd H
 have A4 := am_ A40
 clear A40
 obtain rfl := Option.some.inj H
 go_enter Try.func35, Try.ntmps35
 go_wp2_with (first | ((with_reducible refine gate_dst (N := 3) rfl ?_); refine Sh.bx (N := 3) (cs := #[.int .i64 a0_0, .int .i64 a0_1, .slice A0_2 l0_2.length c0_2, .slice A0_3 l0_3.length c0_3]) (t := 33) (h := ?_); intro gb285 hg w5 hbox hb; have BK285 := am_ hbox; have GW285 := am_ (Sh.gw (w := w) hg); have GE285 := am_ (Sh.gw (w := w) hg); replace HB := am_ (below_step Sh.bw hb); clear hb hbox hg; obtain ⟨hcz6_0, hcz6_1, hcz6_2, hcz6_3, hfz6_0, hfz6_1, hfz6_2, hfz6_3⟩ := Sh.b4 BK285.out) | ((with_reducible refine gate_callee (f := 63) rfl ?_); refine Sh.gL (some 14) Try.func63 #[.int .i64 a0_0, .slice A1 l1.length c1, .int .i64 (wrap64 ((l1.length : Int) - 1)), .slice A2 l2.length c2] (h := ?_); (with_reducible refine (spec_l2Value.calls k a0_0 _ _ l1 (wrap64 ((l1.length : Int) - 1)) _ _ l2 t286 _ (Sh.cB HR1.out) HC1.out (Sh.cB HR2.out) HC2.out A4.out).mono ?_); rintro e w7 ⟨rfl, hb⟩; refine ⟨_, rfl, ?_⟩; replace BK285 := am_ (Sh.bb BK285.out hb); replace HB := am_ (below_step Sh.bw hb); (try clear hb); (try clear hb2); (try clear hk); (try clear hi)))
 go_ret
 exact ⟨Sh.eR, Sh.bw⟩
def spec_l7Enabled.l0 : Nat → List Int → List Int → List (S71) → Int → Int → Int → Int → List (S80) → List (S71) → Option (List Int)
 | 0, _, _, _, _, _, _, _, _, _ => none
 | k + 1, x1, x5, x9, x10, x11, x288000, x288001, x288002, x288003 => if x11 < x10 then (if 0 ≤ x11 then (if x11 < (x9.length : Int) then ((spec_l7Holds.f k x288000 x288001 x288002 x288003 ((rd_T71 x9 x11).f0) x1).bind fun t290 => (if t290 = true then (if x5.length < 17592186044416 then (spec_l7Enabled.l0 k x1 (x5 ++ [x11]) x9 x10 (wrap64 (x11 + 1)) x288000 x288001 x288002 x288003) else (none)) else (spec_l7Enabled.l0 k x1 x5 x9 x10 (wrap64 (x11 + 1)) x288000 x288001 x288002 x288003))) else (none)) else (none)) else (some x5)
def spec_l7Enabled.f (k : Nat) (a0_0 : Int) (a0_1 : Int) (l0_2 : List (S80)) (l0_3 : List (S71)) (l1 : List Int) : Option (List Int) := spec_l7Enabled.l0 k l1 ([] : List Int) l0_3 (l0_3.length : Int) 0 a0_0 a0_1 l0_2 l0_3
theorem spec_l7Enabled.mono_l : ∀ k, (∀ y0 y1 y2 y3 y4 y5 y6 y7 y8, LeO (spec_l7Enabled.l0 k y0 y1 y2 y3 y4 y5 y6 y7 y8) (spec_l7Enabled.l0 (k + 1) y0 y1 y2 y3 y4 y5 y6 y7 y8))
 | 0 => fun _ _ _ _ _ _ _ _ _ r h => by simp [spec_l7Enabled.l0] at h
 | k + 1 => by
  have ih0 := spec_l7Enabled.mono_l k
  ·intro y0 y1 y2 y3 y4 y5 y6 y7 y8
   unfold spec_l7Enabled.l0
   repeat' with_reducible first | apply ih0 | apply spec_l7Holds.mono | exact LeO.refl _ | exact LeO.none _ | apply LeO.ite | refine LeO.bind ?_ fun _ => ?_
theorem spec_l7Enabled.mono : ∀ a0 a1 a2 a3 a4 k, LeO (spec_l7Enabled.f k a0 a1 a2 a3 a4) (spec_l7Enabled.f (k + 1) a0 a1 a2 a3 a4) := by
 intro a0 a1 a2 a3 a4 k
 have ih0 := spec_l7Enabled.mono_l k
 unfold spec_l7Enabled.f
 repeat' with_reducible first | apply ih0 | apply spec_l7Holds.mono | exact LeO.refl _ | exact LeO.none _ | apply LeO.ite | refine LeO.bind ?_ fun _ => ?_
set_option maxHeartbeats 8000000 in
set_option maxRecDepth 100000 in
theorem spec_l7Enabled.calls (k : Nat) (a0_0 : Int) (a0_1 : Int) (A0_2 : Option Addr) (c0_2 : Nat) (l0_2 : List (S80)) (A0_3 : Option Addr) (c0_3 : Nat) (l0_3 : List (S71)) (A1 : Option Addr) (c1 : Nat) (l1 : List Int) (r : List Int) (w : World) (hr0_2 : Kd.C k80 w A0_2 l0_2.length l0_2) (hc0_2 : l0_2.length ≤ c0_2) (hr0_3 : Kd.C k71 w A0_3 l0_3.length l0_3) (hc0_3 : l0_3.length ≤ c0_3) (hr1 : Kd.C (Kd.int .u64) w A1 l1.length l1) (hc1 : l1.length ≤ c1) (h : spec_l7Enabled.f k a0_0 a0_1 l0_2 l0_3 l1 = some r) :
  Calls Try.prog 46 #[.agg #[.int .i64 a0_0, .int .i64 a0_1, .slice A0_2 l0_2.length c0_2, .slice A0_3 l0_3.length c0_3], .slice A1 l1.length c1] w fun e w' => ∃ v0_ : Value, e = .returned (v0_) ∧ Kd.R (Kd.int .i64) 3 w' w.heap.size (fun _ => True) v0_ r ∧ Below w.heap.size w w' := by
 have hu33 := Try.underlying33
 have hu71 := Try.underlying71
 have HR0_2 := am_ hr0_2
 have HC0_2 := am_ hc0_2
 clear hr0_2 hc0_2
 have HR0_3 := am_ hr0_3
 have HC0_3 := am_ hc0_3
 clear hr0_3 hc0_3
 have HR1 := am_ hr1
 have HC1 := am_ hc1
 clear hr1 hc1
 have HB := am_ (Below.refl w.heap.size w)
 have H := h
 clear h
 unfold spec_l7Enabled.f at H
 have H' := am_ H
 clear H
 go_enter Try.func46, Try.ntmps46
 go_wp2_with (first | ((with_reducible refine gate_dst (N := 2) rfl ?_); refine Sh.bx (N := 2) (cs := #[.int .i64 a0_0, .int .i64 a0_1, .slice A0_2 l0_2.length c0_2, .slice A0_3 l0_3.length c0_3]) (t := 33) (h := ?_); intro gb287 hg w3 hbox hb; have BK287 := am_ hbox; have GW287 := am_ (Sh.gw (w := w) hg); have GE287 := am_ (Sh.gw (w := w) hg); replace HB := am_ (below_step Sh.bw hb); clear hb hbox hg; obtain ⟨hcz4_0, hcz4_1, hcz4_2, hcz4_3, hfz4_0, hfz4_1, hfz4_2, hfz4_3⟩ := Sh.b4 BK287.out))
 go_loopg [5, 11] k (fun kq v5 v11 w' => ∃ (x5_1 : List Int) (x11_1 : Int), v11 = .int .i64 x11_1 ∧ Aside0 (spec_l7Enabled.l0 kq l1 x5_1 l0_3 (l0_3.length : Int) x11_1 a0_0 a0_1 l0_2 l0_3 = some r) ∧ Aside0 (kq ≤ k) ∧ Aside0 (Kd.R (Kd.int .i64) 3 w' w.heap.size (fun _ => True) v5 x5_1) ∧ Aside0 (w'.heap[gb287]? = some (.cells #[.int .i64 a0_0, .int .i64 a0_1, (.slice A0_2 l0_2.length c0_2), (.slice A0_3 l0_3.length c0_3)] 33 (0, 0))) ∧ Aside0 (Below w.heap.size w w'))
 case atStart => exact ⟨(([] : List Int)), (0), (Sh.es), H', ⟨Nat.le_refl _⟩, ⟨by first | exact Kd.R_nil _ _ _ _ _ | exact Kd.N_nil _ _ _ _ _ | exact Kd.V_nil _ _ _ _ _ | exact Kd.Q_nil _ _ _ _ _ | exact Kd.S_nil _ _ _ _ _⟩, ⟨by (with_reducible repeat (first | refine blk_drewN ?_ _ | refine blk_drew ?_ | refine blk_alloc ?_ _)); exact BK287.out⟩, ⟨Sh.bw⟩⟩
 case round =>
  clear H'
  try clear c1
  try clear p2
  try clear c4
  try clear hcz4_0
  try clear hcz4_1
  try clear hcz4_2
  try clear hcz4_3
  try clear hfz4_0
  try clear hfz4_1
  try clear hfz4_2
  try clear hfz4_3
  obtain ⟨x5_1, x11_1, rfl, HA, HK1, HO_5, BK287, HB⟩ := hrel
  cases gk with
  | zero => exact absurd HA.out (by simp [spec_l7Enabled.l0])
  | succ k1 =>
   have H := HA.out
   clear HA
   simp only [spec_l7Enabled.l0] at H
   by_cases c5 : x11_1 < (l0_3.length : Int)
   ·rw [if_pos c5] at H
    have c5b0 : decide (x11_1 < (l0_3.length : Int)) = true := decide_eq_true c5
    clear c5
    by_cases c6 : 0 ≤ x11_1
    ·rw [if_pos c6] at H
     have c6b0 : decide (0 ≤ x11_1) = true := decide_eq_true c6
     clear c6
     by_cases c7 : x11_1 < (l0_3.length : Int)
     ·rw [if_pos c7] at H
      have c7b0 : decide (x11_1 < (l0_3.length : Int)) = true := decide_eq_true c7
      clear c7
      obtain ⟨t290, A80, H⟩ := Sh.bd H
      have A8 := am_ A80
      clear A80
      by_cases c9 : t290 = true
      ·subst c9
       rw [if_pos rfl] at H
       by_cases c10 : x5_1.length < 17592186044416
       ·rw [if_pos c10] at H
        have LMc10 := am_ c10
        clear c10
        obtain ⟨y291, hy291⟩ : ∃ y_ : List Int, y_ = (x5_1 ++ [x11_1]) := ⟨_, rfl⟩
        replace H : (spec_l7Enabled.l0 k1 l1 y291 l0_3 (l0_3.length : Int) (wrap64 (x11_1 + 1)) a0_0 a0_1 l0_2 l0_3) = some r := by first | (rw [hy291]; with_reducible exact H) | (have H2_ := (Option.bind_some _ _).symm.trans H; rw [hy291]; with_reducible exact H2_) | (have H2_ := (Option.bind_some _ _).symm.trans H; with_reducible exact H2_) | with_reducible exact H | (rw [hy291]; exact H) | exact H
        have Ny291 := am_ hy291
        clear hy291
        have H' := am_ H
        clear H
        have p288 : 0 ≤ (x11_1 : Int) := Sh.od
        have q288 : x11_1 < (l0_3.length : Int) := Sh.od
        obtain ⟨ad288, A288_0, c288_0, A288_1, c288_1, e288, hx288_0, hx288_1, hl288_0, hi288_0, hl288_1, hi288_1⟩ := at_T71 HR0_3.out x11_1 p288 q288
        cases e288
        (try replace hx288_0 := (HB.out.cell (World.block_lt_of_cell? w _ hx288_0)).trans hx288_0)
        (try replace hx288_1 := (HB.out.cell (World.block_lt_of_cell? w _ hx288_1)).trans hx288_1)
        have HR288_0 := am_ hi288_0
        have HC288_0 := am_ hl288_0
        clear hi288_0 hl288_0
        have HR288_1 := am_ hi288_1
        have HC288_1 := am_ hl288_1
        clear hi288_1 hl288_1
        replace p288 := eq_true p288
        replace q288 := eq_true q288
        go_wp2_with (first | ((with_reducible refine gate_dst (N := 7) rfl ?_); refine Sh.bx (N := 7) (cs := #[.slice none 0 0, .slice none 0 0]) (t := 71) (h := ?_); intro gb289 hg w11 hbox hb; replace HO_5 := am_ (Kd.R_below (by (with_reducible repeat (first | apply Kd.R_alloc | apply Kd.R_drewN | apply Kd.R_drew)); exact HO_5.out) hb); have BK289 := am_ hbox; have GW289 := am_ (Sh.gw (w := w) hg); have GE289 := am_ (Sh.gw (w := w) hg); replace HB := am_ (below_step Sh.bw hb); have NB287_289 := am_ (Sh.nl hg BK287.out); have NB289_287 := am_ (Sh.ng hg BK287.out); replace BK287 := am_ (Sh.bb BK287.out hb); clear hb hbox hg; have hnb12 := NB289_287.out; have hnc12 := NB287_289.out; obtain ⟨hcz13_0, hcz13_1, hfz13_0, hfz13_1⟩ := Sh.b2 BK289.out; obtain ⟨hcz14_0, hcz14_1, hcz14_2, hcz14_3, hfz14_0, hfz14_1, hfz14_2, hfz14_3⟩ := Sh.b4 BK287.out) | ((with_reducible refine gate_callee (f := 35) rfl ?_); refine Sh.gL (some 20) Try.func35 #[.agg #[.int .i64 a0_0, .int .i64 a0_1, .slice A0_2 l0_2.length c0_2, .slice (some ad288) l0_3.length c0_3], .slice A288_0 ((rd_T71 l0_3 x11_1).f0).length c288_0, .slice A1 l1.length c1] (h := ?_); (with_reducible refine (spec_l7Holds.calls k1 a0_0 a0_1 _ _ l0_2 _ _ l0_3 _ _ ((rd_T71 l0_3 x11_1).f0) _ _ l1 true _ (Sh.cB HR0_2.out) HC0_2.out (Sh.cB HR0_3.out) HC0_3.out (Sh.cB HR288_0.out) HC288_0.out (Sh.cB HR1.out) HC1.out A8.out).mono ?_); rintro e w15 ⟨rfl, hb⟩; refine ⟨_, rfl, ?_⟩; have n0_ := am_ (Kd.R_below (by (with_reducible repeat (first | apply Kd.R_alloc | apply Kd.R_drewN | apply Kd.R_drew)); exact (Kd.R_mono (Kd.R_far (p := ⟨gb289, 1, none⟩) (Kd.R_far (p := ⟨gb289, 0, none⟩) (Kd.R_types HO_5.out BK289.out (by decide)) (fun _ hk => hk.2) (.slice A288_0 ((rd_T71 l0_3 x11_1).f0).length c288_0)) (fun _ hk => hk.2) (.slice A288_1 ((rd_T71 l0_3 x11_1).f1).length c288_1)) (fun _ h_ => h_.1))) hb); have n1_ := am_ (blk_below (g := gb287) (o := .cells #[.int .i64 a0_0, .int .i64 a0_1, .slice A0_2 l0_2.length c0_2, .slice (some ad288) l0_3.length c0_3] 33 (0, 0)) (by (with_reducible repeat (first | refine blk_drewN ?_ _ | refine blk_drew ?_ | refine blk_alloc ?_ _)); refine blk_far ?_ NB287_289.out _; (with_reducible repeat (first | refine blk_drewN ?_ _ | refine blk_drew ?_ | refine blk_alloc ?_ _)); refine blk_far ?_ NB287_289.out _; (with_reducible repeat (first | refine blk_drewN ?_ _ | refine blk_drew ?_ | refine blk_alloc ?_ _)); exact BK287.out) hb); have n2_ := am_ (blk_below (g := gb289) (o := .cells #[.slice A288_0 ((rd_T71 l0_3 x11_1).f0).length c288_0, .slice A288_1 ((rd_T71 l0_3 x11_1).f1).length c288_1] 71 (0, 0)) (by (with_reducible repeat (first | refine blk_drewN ?_ _ | refine blk_drew ?_ | refine blk_alloc ?_ _)); refine blk_put (cs := #[.slice A288_0 ((rd_T71 l0_3 x11_1).f0).length c288_0, .slice none 0 0]) ?_ 1 _ rfl; (with_reducible repeat (first | refine blk_drewN ?_ _ | refine blk_drew ?_ | refine blk_alloc ?_ _)); refine blk_put (cs := #[.slice none 0 0, .slice none 0 0]) ?_ 0 _ rfl; (with_reducible repeat (first | refine blk_drewN ?_ _ | refine blk_drew ?_ | refine blk_alloc ?_ _)); exact BK289.out) hb); have n3_ := am_ (below_step Sh.bw hb); clear HO_5; clear BK287; clear BK289; clear HB; have HO_5 := n0_; have BK287 := n1_; have BK289 := n2_; have HB := n3_; clear n0_ n1_ n2_ n3_; (try clear hb); (try clear hb2); (try clear hk); (try clear hi)) | ((with_reducible refine gate_builtin (b := .append) (xs := #[.tmp 21, .tmp 23]) rfl ?_); at_builtin; refine Kd.R_append (Kd.int .i64) (w0 := w) w.heap.size rfl (.tmp 21) (.tmp 23) 39 3 (.int .i64 0) 8 rfl Try.underlying39 info3 rfl (by decide) (by omega) u5 x5_1 x11_1 [.int .i64 x11_1] (fun _ => True) (fun _ => False) rfl rfl ?aP (fun _ hk => hk.elim) ?aF ?aO ?aB ?aS ?aL ?_; (case aP => exact rfl); (case aB => exact Sh.bw); (case aF => exact (fun _ _ => trivial)); (case aO => exact (by (with_reducible repeat (first | apply Kd.R_alloc | apply Kd.R_drewN | apply Kd.R_drew)); exact HO_5.out)); (case aS => exact (below_size Sh.bw)); (case aL => have := LMc10.out; omega); intro v292 w16 ho hb hg hat; rw [← Ny291.out] at ho; have n0_ := am_ (blk_grown (g := gb287) (o := .cells #[.int .i64 a0_0, .int .i64 a0_1, .slice A0_2 l0_2.length c0_2, .slice (some ad288) l0_3.length c0_3] 33 (0, 0)) (by (with_reducible repeat (first | refine blk_drewN ?_ _ | refine blk_drew ?_ | refine blk_alloc ?_ _)); exact BK287.out) hg (Kd.R_ne HO_5.out BK287.out (by decide))); have n1_ := am_ (blk_grown (g := gb289) (o := .cells #[.slice A288_0 ((rd_T71 l0_3 x11_1).f0).length c288_0, .slice A288_1 ((rd_T71 l0_3 x11_1).f1).length c288_1] 71 (0, 0)) (by (with_reducible repeat (first | refine blk_drewN ?_ _ | refine blk_drew ?_ | refine blk_alloc ?_ _)); exact BK289.out) hg (Kd.R_ne HO_5.out BK289.out (by decide))); have n2_ := am_ hb; have n3_ := am_ ho; clear BK287; clear BK289; clear HB; clear HO_5; have BK287 := n0_; have BK289 := n1_; have HB := n2_; have HO293 := n3_; clear n0_ n1_ n2_ n3_; clear ho hb hg hat))
        go_roundg k1
        case measure => have := HK1.out; omega
        case rel => exact ⟨(y291), (wrap64 (x11_1 + 1)), (Sh.es), H', ⟨by have := HK1.out; omega⟩, ⟨by (with_reducible repeat (first | apply Kd.R_alloc | apply Kd.R_drewN | apply Kd.R_drew)); exact HO293.out⟩, ⟨by (with_reducible repeat (first | refine blk_drewN ?_ _ | refine blk_drew ?_ | refine blk_alloc ?_ _)); exact BK287.out⟩, ⟨Sh.bw⟩⟩
       ·rw [if_neg c10] at H
        exact absurd H (by simp)
      ·replace c9 := Bool.eq_false_iff.mpr c9
       subst c9
       rw [Sh.nf] at H
       have H' := am_ H
       clear H
       have p288 : 0 ≤ (x11_1 : Int) := Sh.od
       have q288 : x11_1 < (l0_3.length : Int) := Sh.od
       obtain ⟨ad288, A288_0, c288_0, A288_1, c288_1, e288, hx288_0, hx288_1, hl288_0, hi288_0, hl288_1, hi288_1⟩ := at_T71 HR0_3.out x11_1 p288 q288
       cases e288
       (try replace hx288_0 := (HB.out.cell (World.block_lt_of_cell? w _ hx288_0)).trans hx288_0)
       (try replace hx288_1 := (HB.out.cell (World.block_lt_of_cell? w _ hx288_1)).trans hx288_1)
       have HR288_0 := am_ hi288_0
       have HC288_0 := am_ hl288_0
       clear hi288_0 hl288_0
       have HR288_1 := am_ hi288_1
       have HC288_1 := am_ hl288_1
       clear hi288_1 hl288_1
       replace p288 := eq_true p288
       replace q288 := eq_true q288
       go_wp2_with (first | ((with_reducible refine gate_dst (N := 7) rfl ?_); refine Sh.bx (N := 7) (cs := #[.slice none 0 0, .slice none 0 0]) (t := 71) (h := ?_); intro gb289 hg w17 hbox hb; replace HO_5 := am_ (Kd.R_below (by (with_reducible repeat (first | apply Kd.R_alloc | apply Kd.R_drewN | apply Kd.R_drew)); exact HO_5.out) hb); have BK289 := am_ hbox; have GW289 := am_ (Sh.gw (w := w) hg); have GE289 := am_ (Sh.gw (w := w) hg); replace HB := am_ (below_step Sh.bw hb); have NB287_289 := am_ (Sh.nl hg BK287.out); have NB289_287 := am_ (Sh.ng hg BK287.out); replace BK287 := am_ (Sh.bb BK287.out hb); clear hb hbox hg; have hnb18 := NB289_287.out; have hnc18 := NB287_289.out; obtain ⟨hcz19_0, hcz19_1, hfz19_0, hfz19_1⟩ := Sh.b2 BK289.out; obtain ⟨hcz20_0, hcz20_1, hcz20_2, hcz20_3, hfz20_0, hfz20_1, hfz20_2, hfz20_3⟩ := Sh.b4 BK287.out) | ((with_reducible refine gate_callee (f := 35) rfl ?_); refine Sh.gL (some 20) Try.func35 #[.agg #[.int .i64 a0_0, .int .i64 a0_1, .slice A0_2 l0_2.length c0_2, .slice (some ad288) l0_3.length c0_3], .slice A288_0 ((rd_T71 l0_3 x11_1).f0).length c288_0, .slice A1 l1.length c1] (h := ?_); (with_reducible refine (spec_l7Holds.calls k1 a0_0 a0_1 _ _ l0_2 _ _ l0_3 _ _ ((rd_T71 l0_3 x11_1).f0) _ _ l1 false _ (Sh.cB HR0_2.out) HC0_2.out (Sh.cB HR0_3.out) HC0_3.out (Sh.cB HR288_0.out) HC288_0.out (Sh.cB HR1.out) HC1.out A8.out).mono ?_); rintro e w21 ⟨rfl, hb⟩; refine ⟨_, rfl, ?_⟩; have n0_ := am_ (Kd.R_below (by (with_reducible repeat (first | apply Kd.R_alloc | apply Kd.R_drewN | apply Kd.R_drew)); exact (Kd.R_mono (Kd.R_far (p := ⟨gb289, 1, none⟩) (Kd.R_far (p := ⟨gb289, 0, none⟩) (Kd.R_types HO_5.out BK289.out (by decide)) (fun _ hk => hk.2) (.slice A288_0 ((rd_T71 l0_3 x11_1).f0).length c288_0)) (fun _ hk => hk.2) (.slice A288_1 ((rd_T71 l0_3 x11_1).f1).length c288_1)) (fun _ h_ => h_.1))) hb); have n1_ := am_ (blk_below (g := gb287) (o := .cells #[.int .i64 a0_0, .int .i64 a0_1, .slice A0_2 l0_2.length c0_2, .slice (some ad288) l0_3.length c0_3] 33 (0, 0)) (by (with_reducible repeat (first | refine blk_drewN ?_ _ | refine blk_drew ?_ | refine blk_alloc ?_ _)); refine blk_far ?_ NB287_289.out _; (with_reducible repeat (first | refine blk_drewN ?_ _ | refine blk_drew ?_ | refine blk_alloc ?_ _)); refine blk_far ?_ NB287_289.out _; (with_reducible repeat (first | refine blk_drewN ?_ _ | refine blk_drew ?_ | refine blk_alloc ?_ _)); exact BK287.out) hb); have n2_ := am_ (blk_below (g := gb289) (o := .cells #[.slice A288_0 ((rd_T71 l0_3 x11_1).f0).length c288_0, .slice A288_1 ((rd_T71 l0_3 x11_1).f1).length c288_1] 71 (0, 0)) (by (with_reducible repeat (first | refine blk_drewN ?_ _ | refine blk_drew ?_ | refine blk_alloc ?_ _)); refine blk_put (cs := #[.slice A288_0 ((rd_T71 l0_3 x11_1).f0).length c288_0, .slice none 0 0]) ?_ 1 _ rfl; (with_reducible repeat (first | refine blk_drewN ?_ _ | refine blk_drew ?_ | refine blk_alloc ?_ _)); refine blk_put (cs := #[.slice none 0 0, .slice none 0 0]) ?_ 0 _ rfl; (with_reducible repeat (first | refine blk_drewN ?_ _ | refine blk_drew ?_ | refine blk_alloc ?_ _)); exact BK289.out) hb); have n3_ := am_ (below_step Sh.bw hb); clear HO_5; clear BK287; clear BK289; clear HB; have HO_5 := n0_; have BK287 := n1_; have BK289 := n2_; have HB := n3_; clear n0_ n1_ n2_ n3_; (try clear hb); (try clear hb2); (try clear hk); (try clear hi)))
       go_roundg k1
       case measure => have := HK1.out; omega
       case rel => exact ⟨(x5_1), (wrap64 (x11_1 + 1)), (Sh.es), H', ⟨by have := HK1.out; omega⟩, ⟨by (with_reducible repeat (first | apply Kd.R_alloc | apply Kd.R_drewN | apply Kd.R_drew)); exact HO_5.out⟩, ⟨by (with_reducible repeat (first | refine blk_drewN ?_ _ | refine blk_drew ?_ | refine blk_alloc ?_ _)); exact BK287.out⟩, ⟨Sh.bw⟩⟩
     ·rw [if_neg c7] at H
      exact absurd H (by simp)
    ·rw [if_neg c6] at H
     exact absurd H (by simp)
   ·rw [if_neg c5] at H
    have c5b0 : decide (x11_1 < (l0_3.length : Int)) = false := decide_eq_false c5
    clear c5
    obtain rfl := Option.some.inj H
    go_wp2
    go_ret
    exact ⟨_, Sh.eR, by (with_reducible repeat (first | apply Kd.R_alloc | apply Kd.R_drewN | apply Kd.R_drew)); exact HO_5.out, Sh.bw⟩
def spec_Enabled.f (k : Nat) (a0_0 : Int) (a0_1 : Int) (l0_2 : List (S80)) (l0_3 : List (S71)) (l1 : List Int) : Option (List Int × Bool) := (spec_GoodProgram.f k a0_0 a0_1 l0_2 l0_3).bind fun t295 => (if t295 = true then ((spec_l7State.f k a0_0 a0_1 l0_2 l0_3 l1).bind fun t296 => (if t296 = true then ((spec_l7Enabled.f k a0_0 a0_1 l0_2 l0_3 l1).bind fun t297 => (some (t297, true))) else (some (([] : List Int), false)))) else (some (([] : List Int), false)))
theorem spec_Enabled.mono : ∀ a0 a1 a2 a3 a4 k, LeO (spec_Enabled.f k a0 a1 a2 a3 a4) (spec_Enabled.f (k + 1) a0 a1 a2 a3 a4) := by
 intro a0 a1 a2 a3 a4 k
 unfold spec_Enabled.f
 repeat' with_reducible first | apply spec_GoodProgram.mono | apply spec_l7Enabled.mono | apply spec_l7State.mono | exact LeO.refl _ | exact LeO.none _ | apply LeO.ite | refine LeO.bind ?_ fun _ => ?_
set_option maxHeartbeats 8000000 in
set_option maxRecDepth 100000 in
theorem spec_Enabled.calls (k : Nat) (a0_0 : Int) (a0_1 : Int) (A0_2 : Option Addr) (c0_2 : Nat) (l0_2 : List (S80)) (A0_3 : Option Addr) (c0_3 : Nat) (l0_3 : List (S71)) (A1 : Option Addr) (c1 : Nat) (l1 : List Int) (r1 : List Int) (r2 : Bool) (w : World) (hr0_2 : Kd.C k80 w A0_2 l0_2.length l0_2) (hc0_2 : l0_2.length ≤ c0_2) (hr0_3 : Kd.C k71 w A0_3 l0_3.length l0_3) (hc0_3 : l0_3.length ≤ c0_3) (hr1 : Kd.C (Kd.int .u64) w A1 l1.length l1) (hc1 : l1.length ≤ c1) (h : spec_Enabled.f k a0_0 a0_1 l0_2 l0_3 l1 = some (r1, r2)) :
  Calls Try.prog 21 #[.agg #[.int .i64 a0_0, .int .i64 a0_1, .slice A0_2 l0_2.length c0_2, .slice A0_3 l0_3.length c0_3], .slice A1 l1.length c1] w fun e w' => ∃ v0_ : Value, e = .returned (.tuple #[v0_, .bool r2]) ∧ Kd.R (Kd.int .i64) 3 w' w.heap.size (fun _ => True) v0_ r1 ∧ Below w.heap.size w w' := by
 have hu33 := Try.underlying33
 have HR0_2 := am_ hr0_2
 have HC0_2 := am_ hc0_2
 clear hr0_2 hc0_2
 have HR0_3 := am_ hr0_3
 have HC0_3 := am_ hc0_3
 clear hr0_3 hc0_3
 have HR1 := am_ hr1
 have HC1 := am_ hc1
 clear hr1 hc1
 have HB := am_ (Below.refl w.heap.size w)
 have H := h
 clear h
 unfold spec_Enabled.f at H
 obtain ⟨t295, A30, H⟩ := Sh.bd H
 have A3 := am_ A30
 clear A30
 by_cases c4 : t295 = true
 ·subst c4
  rw [if_pos rfl] at H
  obtain ⟨t296, A50, H⟩ := Sh.bd H
  have A5 := am_ A50
  clear A50
  by_cases c6 : t296 = true
  ·subst c6
   rw [if_pos rfl] at H
   obtain ⟨t297, A70, H⟩ := Sh.bd H
   have A7 := am_ A70
   clear A70
   simp only [Option.some.injEq, Prod.mk.injEq] at H
   obtain ⟨rfl, rfl⟩ := H
   go_enter Try.func21, Try.ntmps21
   go_wp2_with (first | ((with_reducible refine gate_dst (N := 2) rfl ?_); refine Sh.bx (N := 2) (cs := #[.int .i64 a0_0, .int .i64 a0_1, .slice A0_2 l0_2.length c0_2, .slice A0_3 l0_3.length c0_3]) (t := 33) (h := ?_); intro gb294 hg w8 hbox hb; have BK294 := am_ hbox; have GW294 := am_ (Sh.gw (w := w) hg); have GE294 := am_ (Sh.gw (w := w) hg); replace HB := am_ (below_step Sh.bw hb); clear hb hbox hg; obtain ⟨hcz9_0, hcz9_1, hcz9_2, hcz9_3, hfz9_0, hfz9_1, hfz9_2, hfz9_3⟩ := Sh.b4 BK294.out) | ((with_reducible refine gate_callee (f := 33) rfl ?_); refine Sh.gL (some 7) Try.func33 #[.agg #[.int .i64 a0_0, .int .i64 a0_1, .slice A0_2 l0_2.length c0_2, .slice A0_3 l0_3.length c0_3]] (h := ?_); (with_reducible refine (spec_GoodProgram.calls k a0_0 a0_1 _ _ l0_2 _ _ l0_3 true _ (Sh.cB HR0_2.out) HC0_2.out (Sh.cB HR0_3.out) HC0_3.out A3.out).mono ?_); rintro e w10 ⟨rfl, hb⟩; refine ⟨_, rfl, ?_⟩; replace BK294 := am_ (Sh.bb BK294.out hb); replace HB := am_ (below_step Sh.bw hb); (try clear hb); (try clear hb2); (try clear hk); (try clear hi); obtain ⟨hcz11_0, hcz11_1, hcz11_2, hcz11_3, hfz11_0, hfz11_1, hfz11_2, hfz11_3⟩ := Sh.b4 BK294.out) | (go_at_call 34; (with_reducible refine (spec_l7State.calls k a0_0 a0_1 _ _ l0_2 _ _ l0_3 _ _ l1 true _ (Sh.cB HR0_2.out) HC0_2.out (Sh.cB HR0_3.out) HC0_3.out (Sh.cB HR1.out) HC1.out A5.out).mono ?_); rintro e w12 ⟨rfl, hb⟩; replace BK294 := am_ (Sh.bb BK294.out hb); replace HB := am_ (below_step Sh.bw hb); (try clear hb); (try clear hb2); (try clear hk); (try clear hi); obtain ⟨hcz13_0, hcz13_1, hcz13_2, hcz13_3, hfz13_0, hfz13_1, hfz13_2, hfz13_3⟩ := Sh.b4 BK294.out) | ((with_reducible refine gate_callee (f := 46) rfl ?_); refine Sh.gL (some 17) Try.func46 #[.agg #[.int .i64 a0_0, .int .i64 a0_1, .slice A0_2 l0_2.length c0_2, .slice A0_3 l0_3.length c0_3], .slice A1 l1.length c1] (h := ?_); (with_reducible refine (spec_l7Enabled.calls k a0_0 a0_1 _ _ l0_2 _ _ l0_3 _ _ l1 t297 _ (Sh.cB HR0_2.out) HC0_2.out (Sh.cB HR0_3.out) HC0_3.out (Sh.cB HR1.out) HC1.out A7.out).mono ?_); rintro e w14 ⟨v298, rfl, ho0, hb⟩; refine ⟨_, rfl, ?_⟩; have HO299 := am_ (Kd.R_lower ho0 (below_size Sh.bw)); replace BK294 := am_ (Sh.bb BK294.out hb); replace HB := am_ (below_step Sh.bw hb); (try clear hb); (try clear hb2); (try clear hk); (try clear hi); (try clear ho0)))
   go_ret2
   exact ⟨_, Sh.eR, by (with_reducible repeat (first | apply Kd.R_alloc | apply Kd.R_drewN | apply Kd.R_drew)); exact HO299.out, Sh.bw⟩
  ·replace c6 := Bool.eq_false_iff.mpr c6
   subst c6
   rw [Sh.nf] at H
   simp only [Option.some.injEq, Prod.mk.injEq] at H
   obtain ⟨rfl, rfl⟩ := H
   go_enter Try.func21, Try.ntmps21
   go_wp2_with (first | ((with_reducible refine gate_dst (N := 2) rfl ?_); refine Sh.bx (N := 2) (cs := #[.int .i64 a0_0, .int .i64 a0_1, .slice A0_2 l0_2.length c0_2, .slice A0_3 l0_3.length c0_3]) (t := 33) (h := ?_); intro gb294 hg w15 hbox hb; have BK294 := am_ hbox; have GW294 := am_ (Sh.gw (w := w) hg); have GE294 := am_ (Sh.gw (w := w) hg); replace HB := am_ (below_step Sh.bw hb); clear hb hbox hg; obtain ⟨hcz16_0, hcz16_1, hcz16_2, hcz16_3, hfz16_0, hfz16_1, hfz16_2, hfz16_3⟩ := Sh.b4 BK294.out) | ((with_reducible refine gate_callee (f := 33) rfl ?_); refine Sh.gL (some 7) Try.func33 #[.agg #[.int .i64 a0_0, .int .i64 a0_1, .slice A0_2 l0_2.length c0_2, .slice A0_3 l0_3.length c0_3]] (h := ?_); (with_reducible refine (spec_GoodProgram.calls k a0_0 a0_1 _ _ l0_2 _ _ l0_3 true _ (Sh.cB HR0_2.out) HC0_2.out (Sh.cB HR0_3.out) HC0_3.out A3.out).mono ?_); rintro e w17 ⟨rfl, hb⟩; refine ⟨_, rfl, ?_⟩; replace BK294 := am_ (Sh.bb BK294.out hb); replace HB := am_ (below_step Sh.bw hb); (try clear hb); (try clear hb2); (try clear hk); (try clear hi); obtain ⟨hcz18_0, hcz18_1, hcz18_2, hcz18_3, hfz18_0, hfz18_1, hfz18_2, hfz18_3⟩ := Sh.b4 BK294.out) | (go_at_call 34; (with_reducible refine (spec_l7State.calls k a0_0 a0_1 _ _ l0_2 _ _ l0_3 _ _ l1 false _ (Sh.cB HR0_2.out) HC0_2.out (Sh.cB HR0_3.out) HC0_3.out (Sh.cB HR1.out) HC1.out A5.out).mono ?_); rintro e w19 ⟨rfl, hb⟩; replace BK294 := am_ (Sh.bb BK294.out hb); replace HB := am_ (below_step Sh.bw hb); (try clear hb); (try clear hb2); (try clear hk); (try clear hi)))
   go_ret2
   exact ⟨_, Sh.eR, by first | exact Kd.R_nil _ _ _ _ _ | exact Kd.N_nil _ _ _ _ _ | exact Kd.V_nil _ _ _ _ _ | exact Kd.Q_nil _ _ _ _ _ | exact Kd.S_nil _ _ _ _ _, Sh.bw⟩
 ·replace c4 := Bool.eq_false_iff.mpr c4
  subst c4
  rw [Sh.nf] at H
  simp only [Option.some.injEq, Prod.mk.injEq] at H
  obtain ⟨rfl, rfl⟩ := H
  go_enter Try.func21, Try.ntmps21
  go_wp2_with (first | ((with_reducible refine gate_dst (N := 2) rfl ?_); refine Sh.bx (N := 2) (cs := #[.int .i64 a0_0, .int .i64 a0_1, .slice A0_2 l0_2.length c0_2, .slice A0_3 l0_3.length c0_3]) (t := 33) (h := ?_); intro gb294 hg w20 hbox hb; have BK294 := am_ hbox; have GW294 := am_ (Sh.gw (w := w) hg); have GE294 := am_ (Sh.gw (w := w) hg); replace HB := am_ (below_step Sh.bw hb); clear hb hbox hg; obtain ⟨hcz21_0, hcz21_1, hcz21_2, hcz21_3, hfz21_0, hfz21_1, hfz21_2, hfz21_3⟩ := Sh.b4 BK294.out) | ((with_reducible refine gate_callee (f := 33) rfl ?_); refine Sh.gL (some 7) Try.func33 #[.agg #[.int .i64 a0_0, .int .i64 a0_1, .slice A0_2 l0_2.length c0_2, .slice A0_3 l0_3.length c0_3]] (h := ?_); (with_reducible refine (spec_GoodProgram.calls k a0_0 a0_1 _ _ l0_2 _ _ l0_3 false _ (Sh.cB HR0_2.out) HC0_2.out (Sh.cB HR0_3.out) HC0_3.out A3.out).mono ?_); rintro e w22 ⟨rfl, hb⟩; refine ⟨_, rfl, ?_⟩; replace BK294 := am_ (Sh.bb BK294.out hb); replace HB := am_ (below_step Sh.bw hb); (try clear hb); (try clear hb2); (try clear hk); (try clear hi)))
  go_ret2
  exact ⟨_, Sh.eR, by first | exact Kd.R_nil _ _ _ _ _ | exact Kd.N_nil _ _ _ _ _ | exact Kd.V_nil _ _ _ _ _ | exact Kd.Q_nil _ _ _ _ _ | exact Kd.S_nil _ _ _ _ _, Sh.bw⟩
def impl_isWide.f (a0 : Int) : Option (Bool) := if a0 ≥ 1 then (some (decide (a0 ≤ 64))) else (some false)
set_option maxHeartbeats 8000000 in
set_option maxRecDepth 100000 in
theorem impl_isWide.calls (a0 : Int) (r : Bool) (w : World) (h : impl_isWide.f a0 = some r) :
  Calls Try.prog 83 #[.int .i64 a0] w fun e w' => e = .returned (.bool r) ∧ Drawn0 w w' := by
 have H := h
 clear h
 unfold impl_isWide.f at H
 by_cases c2 : a0 ≥ 1
 ·rw [if_pos c2] at H
  have c2b0 : decide (1 ≤ a0) = true := decide_eq_true c2
  clear c2
  obtain rfl := Option.some.inj H
  go_enter Try.func83, Try.ntmps83
  go_wp2
  go_ret
  exact ⟨Sh.es, Sh.dr⟩
 ·rw [if_neg c2] at H
  have c2b0 : decide (1 ≤ a0) = false := decide_eq_false c2
  clear c2
  obtain rfl := Option.some.inj H
  go_enter Try.func83, Try.ntmps83
  go_wp2
  go_ret
  exact ⟨Sh.es, Sh.dr⟩
def impl_isVars.f (a0 : Int) : Option (Bool) := if a0 ≥ 1 then (some (decide (a0 ≤ 4))) else (some false)
set_option maxHeartbeats 8000000 in
set_option maxRecDepth 100000 in
theorem impl_isVars.calls (a0 : Int) (r : Bool) (w : World) (h : impl_isVars.f a0 = some r) :
  Calls Try.prog 84 #[.int .i64 a0] w fun e w' => e = .returned (.bool r) ∧ Drawn0 w w' := by
 have H := h
 clear h
 unfold impl_isVars.f at H
 by_cases c2 : a0 ≥ 1
 ·rw [if_pos c2] at H
  have c2b0 : decide (1 ≤ a0) = true := decide_eq_true c2
  clear c2
  obtain rfl := Option.some.inj H
  go_enter Try.func84, Try.ntmps84
  go_wp2
  go_ret
  exact ⟨Sh.es, Sh.dr⟩
 ·rw [if_neg c2] at H
  have c2b0 : decide (1 ≤ a0) = false := decide_eq_false c2
  clear c2
  obtain rfl := Option.some.inj H
  go_enter Try.func84, Try.ntmps84
  go_wp2
  go_ret
  exact ⟨Sh.es, Sh.dr⟩
end Go.Proofs.Ytjnolbjaagmooaa.P
