/- Go functions of this seat as Lean functions, and the proofs that the calls come to what these say; printed by a program of this session. No condition. -/
import Derived.Test.YtaacldndbjmekaaP0
import Derived.Test.YtaacldndbjmekaaP5
import Derived.Test.YtaacldndbjmekaaP6
namespace Go.Proofs.Ytaacldndbjmekaa.P
open Go.RowKit Go.Proofs.YtaacldndbjmekaaW.PrintWords Go.Proofs.YtaacldndbjmekaaW.PrintLast Go.Proofs.YtaacldndbjmekaaW.PrintMore Go.Proofs.Ytaacldndbjmekaa.Hof
attribute [local go_sem] max2_int min2_int max_two min_two max_three min_three max_four min_four   -- for this text's walks alone
set_option linter.unusedVariables false
set_option linter.unusedSimpArgs false

/-! ### spec_AtomsIn: function 11 -/
def spec_AtomsIn.l0 : Nat → List Int → List (S59) → Int → Int → Option (List Int × Bool)
 | 0, _, _, _, _ => none
 | k + 1, x4, x10, x11, x12 => if x12 < x11 then (if 0 ≤ x12 then (if x12 < (x10.length : Int) then (if ((rd_T59 x10 x12).f0) = 1 then ((spec_l1Put.f k x4 ((rd_T59 x10 x12).f1)).bind fun t154 => (spec_AtomsIn.l0 k t154 x10 x11 (wrap64 (x12 + 1)))) else (spec_AtomsIn.l0 k x4 x10 x11 (wrap64 (x12 + 1)))) else (none)) else (none)) else (some (x4, true))
def spec_AtomsIn.f (k : Nat) (l0 : List (S59)) : Option (List Int × Bool) := (spec_GoodSaid.f k l0).bind fun t151 => (if t151 = true then (spec_AtomsIn.l0 k ([] : List Int) l0 (l0.length : Int) 0) else (some (([] : List Int), false)))
theorem spec_AtomsIn.mono_l : ∀ k, (∀ y0 y1 y2 y3, LeO (spec_AtomsIn.l0 k y0 y1 y2 y3) (spec_AtomsIn.l0 (k + 1) y0 y1 y2 y3))
 | 0 => fun _ _ _ _ r h => by simp [spec_AtomsIn.l0] at h
 | k + 1 => by
  have ih0 := spec_AtomsIn.mono_l k
  ·intro y0 y1 y2 y3
   unfold spec_AtomsIn.l0
   repeat' with_reducible first | apply ih0 | apply spec_GoodSaid.mono | apply spec_l1Put.mono | exact LeO.refl _ | exact LeO.none _ | apply LeO.ite | refine LeO.bind ?_ fun _ => ?_
theorem spec_AtomsIn.mono : ∀ a0 k, LeO (spec_AtomsIn.f k a0) (spec_AtomsIn.f (k + 1) a0) := by
 intro a0 k
 have ih0 := spec_AtomsIn.mono_l k
 unfold spec_AtomsIn.f
 repeat' with_reducible first | apply ih0 | apply spec_GoodSaid.mono | apply spec_l1Put.mono | exact LeO.refl _ | exact LeO.none _ | apply LeO.ite | refine LeO.bind ?_ fun _ => ?_
set_option maxHeartbeats 8000000 in
set_option maxRecDepth 100000 in
theorem spec_AtomsIn.calls (k : Nat) (A0 : Option Addr) (c0 : Nat) (l0 : List (S59)) (r1 : List Int) (r2 : Bool) (w : World) (hr0 : Kd.C k59 w A0 l0.length l0) (hc0 : l0.length ≤ c0) (h : spec_AtomsIn.f k l0 = some (r1, r2)) :
  Calls Try.prog 11 #[.slice A0 l0.length c0] w fun e w' => ∃ v0_ : Value, e = .returned (.tuple #[v0_, .bool r2]) ∧ Kd.R (Kd.int .i64) 3 w' w.heap.size (fun _ => True) v0_ r1 ∧ Below w.heap.size w w' := by
 have hu59 := Try.underlying59
 have HR0 := am_ hr0
 have HC0 := am_ hc0
 clear hr0 hc0
 have HB := am_ (Below.refl w.heap.size w)
 have H := h
 clear h
 unfold spec_AtomsIn.f at H
 obtain ⟨t151, A2, H⟩ := Sh.ba H
 by_cases c3 : t151 = true
 ·subst c3
  rw [if_pos rfl] at H
  have H' := am_ H
  clear H
  go_enter Try.func11, Try.ntmps11
  go_wp2_with (first | ((with_reducible refine Sh.k 37 ?_); refine Sh.gL (some 8) Try.func37 #[.slice A0 l0.length c0] (h := ?_); (with_reducible refine (spec_GoodSaid.calls k _ _ l0 true _ ?side1 ?side2 A2.out).mono ?_); (case side1 => repeat (first | exact HR0.out | (with_reducible first | refine Kd.C_alloc ?_ _ | refine Kd.C_drewN ?_ _ | refine Kd.C_drew ?_))); (case side2 => exact HC0.out); rintro e w4 ⟨rfl, hb⟩; refine ⟨_, rfl, ?_⟩; replace HB := Sh.hb hb; (try clear hb); (try clear hb2); (try clear hk); (try clear hi)))
  go_loopg [4, 12] k (fun kq v4 v12 w' => ∃ (x4_1 : List Int) (x12_1 : Int), v12 = .int .i64 x12_1 ∧ Aside0 (spec_AtomsIn.l0 kq x4_1 l0 (l0.length : Int) x12_1 = some (r1, r2)) ∧ Aside0 (kq ≤ k) ∧ Aside0 (Kd.R (Kd.int .i64) 3 w' w.heap.size (fun _ => True) v4 x4_1) ∧ Aside0 (Below w.heap.size w w'))
  case atStart => exact ⟨(([] : List Int)), (0), (Sh.es), H', ⟨Nat.le_refl _⟩, ⟨by first | exact Kd.R_nil _ _ _ _ _ | exact Kd.N_nil _ _ _ _ _ | exact Kd.V_nil _ _ _ _ _ | exact Kd.Q_nil _ _ _ _ _ | exact Kd.S_nil _ _ _ _ _⟩, ⟨Sh.bw⟩⟩
  case round =>
   clear H'
   obtain ⟨x4_1, x12_1, rfl, HA, HK1, HO_4, HB⟩ := hrel
   cases gk with
   | zero => exact absurd HA.out (by simp [spec_AtomsIn.l0])
   | succ k1 =>
    have H := HA.out
    clear HA
    simp only [spec_AtomsIn.l0] at H
    by_cases c5 : x12_1 < (l0.length : Int)
    ·rw [if_pos c5] at H
     have c5b0 := decide_eq_true c5
     clear c5
     by_cases c6 : 0 ≤ x12_1
     ·rw [if_pos c6] at H
      have c6b0 := decide_eq_true c6
      clear c6
      by_cases c7 : x12_1 < (l0.length : Int)
      ·rw [if_pos c7] at H
       have c7b0 := decide_eq_true c7
       clear c7
       by_cases c8 : ((rd_T59 l0 x12_1).f0) = 1
       ·rw [if_pos c8] at H
        have c8b0 : (((rd_T59 l0 x12_1).f0) == 1) = true := beq_iff_eq.mpr c8
        have c8b1 : (((rd_T59 l0 x12_1).f0) != 1) = false := bne_eq_false_iff_eq.mpr c8
        clear c8
        obtain ⟨t154, A9, H⟩ := Sh.ba H
        have H' := am_ H
        clear H
        have p152 : 0 ≤ (x12_1 : Int) := Sh.od
        have q152 : x12_1 < (l0.length : Int) := Sh.od
        obtain ⟨ad152, e152, hx152_0, hx152_1⟩ := at_T59 HR0.out x12_1 p152 q152
        cases e152
        try replace hx152_0 := Sh.cw hx152_0
        try replace hx152_1 := Sh.cw hx152_1
        replace p152 := eq_true p152
        replace q152 := eq_true q152
        go_wp2_with (first | ((with_reducible refine Sh.d 6 ?_); refine Sh.bx (N := 6) (cs := #[.int .i64 0, .int .i64 0]) (t := 59) (h := ?_); intro gb153 hg w10 hbox hb; replace HO_4 := am_ (Kd.R_below (Sh.rl HO_4.out) hb); have BK153 := am_ hbox; have GE153 := Sh.ag w hg; replace HB := Sh.hb hb; clear hb hbox hg; obtain ⟨hcz11_0, hcz11_1, hfz11_0, hfz11_1⟩ := Sh.b2 BK153.out) | ((with_reducible refine gate_store (t := 59) (p := 6) rfl ?_); refine store_event (t := 59) (p := 6) (v := ?vo_w12) (w1 := ((w10.setCell ⟨gb153, 0, none⟩ (.int .i64 ((rd_T59 l0 x12_1).f0))).setCell ⟨gb153, 1, none⟩ (.int .i64 ((rd_T59 l0 x12_1).f1)))) ?hg ?ho ?hn ?hr ?_; (case ho => rfl); (case hg => rfl); (case hn => rfl); (case hr => first | (go_simp; done) | (go_simp; rfl)); intro w12 hw; have n0_ : Aside0 (Kd.R (Kd.int .i64) 3 w12 w.heap.size (fun _ => True) u4 x4_1) := ⟨(by rw [hw]; exact (Sh.rl (Kd.R_mono (Kd.R_far (p := ⟨gb153, 1, none⟩) (Kd.R_far (p := ⟨gb153, 0, none⟩) (Kd.R_types HO_4.out BK153.out (by decide)) (fun _ hk => hk.2) (.int .i64 ((rd_T59 l0 x12_1).f0))) (fun _ hk => hk.2) (.int .i64 ((rd_T59 l0 x12_1).f1))) (fun _ hk => trivial))))⟩; have n1_ : Aside0 (w12.heap[gb153]? = some (.cells #[.int .i64 ((rd_T59 l0 x12_1).f0), .int .i64 ((rd_T59 l0 x12_1).f1)] 59 (0, 0))) := ⟨(by rw [hw]; exact (by refine Sh.pl ?_; refine blk_put (cs := #[.int .i64 ((rd_T59 l0 x12_1).f0), .int .i64 0]) ?_ 1 _ rfl; refine Sh.pl ?_; refine blk_put (cs := #[.int .i64 0, .int .i64 0]) ?_ 0 _ rfl; refine Sh.pl ?_; exact BK153.out))⟩; have n2_ : Aside0 (Below w.heap.size w w12) := ⟨(by rw [hw]; exact Sh.bw)⟩; clear hw; clear HO_4; clear BK153; clear HB; have HO_4 := n0_; have BK153 := n1_; have HB := n2_; clear n0_ n1_ n2_; obtain ⟨hcz13_0, hcz13_1, hfz13_0, hfz13_1⟩ := Sh.b2 BK153.out; obtain ⟨Ao14, co14, eo14⟩ := Kd.R_slice HO_4.out; subst eo14) | ((with_reducible refine Sh.k 38 ?_); refine Sh.gL (some 22) Try.func38 #[.slice Ao14 x4_1.length co14, .int .i64 ((rd_T59 l0 x12_1).f1)] (h := ?_); (with_reducible refine (spec_l1Put.calls k1 (fun k_ => some k_ = (.slice Ao14 x4_1.length co14 : Value).ownBlock) (.slice Ao14 x4_1.length co14) x4_1 ((rd_T59 l0 x12_1).f1) t154 w _ ?side1 ?side2 A9.out).mono ?_); (case side1 => repeat (first | (with_reducible first | exact HB.out | apply below_alloc | apply pw_below_drewN | apply below_drew1 | refine below_set ?_ GE153.out) | exact HB.out)); (case side2 => exact Kd.R_tight rfl HO_4.out); rintro e w15 ⟨v155, rfl, ho0, hb, hkp⟩; refine ⟨_, rfl, ?_⟩; have n0_ := am_ (blk_kept (Sh.pl BK153.out) hkp (fun hs_ => (fun e_ => (Kd.R_ne HO_4.out BK153.out (by decide)) e_) hs_)); have n1_ := am_ (Kd.R_mono (ok' := fun k_ => True) ho0 (fun k_ hk_ => trivial)); have n2_ := am_ hb; clear BK153; clear HB; clear HO_4; have BK153 := n0_; have HO156 := n1_; have HB := n2_; clear n0_ n1_ n2_; (try clear hb); (try clear hkp); (try clear ho0)))
        go_roundg k1
        case measure => have := HK1.out; omega
        case rel => exact ⟨(t154), (wrap64 (x12_1 + 1)), (Sh.es), H', ⟨by have := HK1.out; omega⟩, ⟨Sh.rl HO156.out⟩, ⟨Sh.bw⟩⟩
       ·rw [if_neg c8] at H
        have c8b0 : (((rd_T59 l0 x12_1).f0) == 1) = false := beq_eq_false_iff_ne.mpr c8
        have c8b1 : (((rd_T59 l0 x12_1).f0) != 1) = true := bne_iff_ne.mpr c8
        have H' := am_ H
        clear H
        have p152 : 0 ≤ (x12_1 : Int) := Sh.od
        have q152 : x12_1 < (l0.length : Int) := Sh.od
        obtain ⟨ad152, e152, hx152_0, hx152_1⟩ := at_T59 HR0.out x12_1 p152 q152
        cases e152
        try replace hx152_0 := Sh.cw hx152_0
        try replace hx152_1 := Sh.cw hx152_1
        replace p152 := eq_true p152
        replace q152 := eq_true q152
        go_wp2_with (first | ((with_reducible refine Sh.d 6 ?_); refine Sh.bx (N := 6) (cs := #[.int .i64 0, .int .i64 0]) (t := 59) (h := ?_); intro gb153 hg w16 hbox hb; replace HO_4 := am_ (Kd.R_below (Sh.rl HO_4.out) hb); have BK153 := am_ hbox; have GE153 := Sh.ag w hg; replace HB := Sh.hb hb; clear hb hbox hg; obtain ⟨hcz17_0, hcz17_1, hfz17_0, hfz17_1⟩ := Sh.b2 BK153.out))
        go_roundg k1
        case measure => have := HK1.out; omega
        case rel => exact ⟨(x4_1), (wrap64 (x12_1 + 1)), (Sh.es), H', ⟨by have := HK1.out; omega⟩, ⟨Sh.rl (Kd.R_mono (Kd.R_far (p := ⟨gb153, 1, none⟩) (Kd.R_far (p := ⟨gb153, 0, none⟩) (Kd.R_types HO_4.out BK153.out (by decide)) (fun _ hk => hk.2) (.int .i64 ((rd_T59 l0 x12_1).f0))) (fun _ hk => hk.2) (.int .i64 ((rd_T59 l0 x12_1).f1))) (fun _ hk => trivial))⟩, ⟨Sh.bw⟩⟩
      ·rw [if_neg c7] at H
       exact absurd H (by simp)
     ·rw [if_neg c6] at H
      exact absurd H (by simp)
    ·rw [if_neg c5] at H
     have c5b0 := decide_eq_false c5
     clear c5
     simp only [Option.some.injEq, Prod.mk.injEq] at H
     obtain ⟨rfl, rfl⟩ := H
     go_wp2
     go_ret2
     exact ⟨_, Sh.eR, Sh.rl HO_4.out, Sh.bw⟩
 ·replace c3 := Bool.eq_false_iff.mpr c3
  subst c3
  rw [Sh.nf] at H
  simp only [Option.some.injEq, Prod.mk.injEq] at H
  obtain ⟨rfl, rfl⟩ := H
  go_enter Try.func11, Try.ntmps11
  go_wp2_with (first | ((with_reducible refine Sh.k 37 ?_); refine Sh.gL (some 8) Try.func37 #[.slice A0 l0.length c0] (h := ?_); (with_reducible refine (spec_GoodSaid.calls k _ _ l0 false _ ?side1 ?side2 A2.out).mono ?_); (case side1 => repeat (first | exact HR0.out | (with_reducible first | refine Kd.C_alloc ?_ _ | refine Kd.C_drewN ?_ _ | refine Kd.C_drew ?_))); (case side2 => exact HC0.out); rintro e w18 ⟨rfl, hb⟩; refine ⟨_, rfl, ?_⟩; replace HB := Sh.hb hb; (try clear hb); (try clear hb2); (try clear hk); (try clear hi)))
  go_ret2
  exact ⟨_, Sh.eR, by first | exact Kd.R_nil _ _ _ _ _ | exact Kd.N_nil _ _ _ _ _ | exact Kd.V_nil _ _ _ _ _ | exact Kd.Q_nil _ _ _ _ _ | exact Kd.S_nil _ _ _ _ _, Sh.bw⟩

end Go.Proofs.Ytaacldndbjmekaa.P
