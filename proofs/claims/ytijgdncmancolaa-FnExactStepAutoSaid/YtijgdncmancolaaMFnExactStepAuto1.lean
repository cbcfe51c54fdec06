/- Go functions of this seat as Lean functions, and the proofs that the calls come to what these say; printed by a program of this session. No condition. -/
import Derived.Test.YtijgdncmancolaaP0
namespace Go.Proofs.Ytijgdncmancolaa.P
open Go.RowKit Go.Proofs.YtijgdncmancolaaW.PrintWords Go.Proofs.YtijgdncmancolaaW.PrintLast Go.Proofs.YtijgdncmancolaaW.PrintMore Go.Proofs.Ytijgdncmancolaa.Hof
attribute [local go_sem] max2_int min2_int max_two min_two max_three min_three max_four min_four   -- for this text's walks alone
set_option linter.unusedVariables false
set_option linter.unusedSimpArgs false

/-! ### laws_szIntS: function 14 -/
def laws_szIntS.f (l0 : List Int) (a1 : Int) : Option (Int) := if (wrap64 (a1 - (l0.length : Int))) < 0 then (some (-1)) else (some (wrap64 (a1 - (l0.length : Int))))
set_option maxHeartbeats 8000000 in
set_option maxRecDepth 100000 in
theorem laws_szIntS.calls (A0 : Option Addr) (c0 : Nat) (l0 : List Int) (a1 : Int) (r : Int) (w : World) (hr0 : Kd.C (Kd.int .i64) w A0 l0.length l0) (hc0 : l0.length ≤ c0) (h : laws_szIntS.f l0 a1 = some r) :
  Calls Try.prog 14 #[.slice A0 l0.length c0, .int .i64 a1] w fun e w' => e = .returned (.int .i64 r) ∧ Drawn0 w w' := by
 have HR0 := am_ hr0
 have HC0 := am_ hc0
 clear hr0 hc0
 have H : (if (wrap64 (a1 - (l0.length : Int))) < 0 then (some (-1)) else (some (wrap64 (a1 - (l0.length : Int))))) = some r := h
 clear h
 by_cases c3 : (wrap64 (a1 - (l0.length : Int))) < 0
 ·rw [if_pos c3] at H
  have c3b0 : decide ((wrap64 (a1 - (l0.length : Int))) < 0) = true := decide_eq_true c3
  clear c3
  obtain rfl := Option.some.inj H
  go_enter Try.func14, Try.ntmps14
  go_wp2
  go_ret
  exact ⟨by first | rfl | (simp; done) | (simp [*]; done), by repeat (first | exact Drawn0.refl _ | apply Drawn0.step)⟩
 ·rw [if_neg c3] at H
  have c3b0 : decide ((wrap64 (a1 - (l0.length : Int))) < 0) = false := decide_eq_false c3
  clear c3
  obtain rfl := Option.some.inj H
  go_enter Try.func14, Try.ntmps14
  go_wp2
  go_ret
  exact ⟨by first | rfl | (simp; done) | (simp [*]; done), by repeat (first | exact Drawn0.refl _ | apply Drawn0.step)⟩

end Go.Proofs.Ytijgdncmancolaa.P
namespace Go.Proofs.Ytijgdncmancolaa.P
open Go.RowKit Go.Proofs.YtijgdncmancolaaW.PrintWords Go.Proofs.YtijgdncmancolaaW.PrintLast Go.Proofs.YtijgdncmancolaaW.PrintMore Go.Proofs.Ytijgdncmancolaa.Hof
attribute [local go_sem] max2_int min2_int max_two min_two max_three min_three max_four min_four   -- for this text's walks alone
set_option linter.unusedVariables false
set_option linter.unusedSimpArgs false

/-! ### laws_szEdgeS: function 15 -/
def laws_szEdgeS.f (l0 : List (S61)) (a1 : Int) : Option (Int) := if (wrap64 (a1 - (l0.length : Int))) < 0 then (some (-1)) else (some (wrap64 (a1 - (l0.length : Int))))
set_option maxHeartbeats 8000000 in
set_option maxRecDepth 100000 in
theorem laws_szEdgeS.calls (A0 : Option Addr) (c0 : Nat) (l0 : List (S61)) (a1 : Int) (r : Int) (w : World) (hr0 : Kd.C k61 w A0 l0.length l0) (hc0 : l0.length ≤ c0) (h : laws_szEdgeS.f l0 a1 = some r) :
  Calls Try.prog 15 #[.slice A0 l0.length c0, .int .i64 a1] w fun e w' => e = .returned (.int .i64 r) ∧ Drawn0 w w' := by
 have HR0 := am_ hr0
 have HC0 := am_ hc0
 clear hr0 hc0
 have H : (if (wrap64 (a1 - (l0.length : Int))) < 0 then (some (-1)) else (some (wrap64 (a1 - (l0.length : Int))))) = some r := h
 clear h
 by_cases c3 : (wrap64 (a1 - (l0.length : Int))) < 0
 ·rw [if_pos c3] at H
  have c3b0 : decide ((wrap64 (a1 - (l0.length : Int))) < 0) = true := decide_eq_true c3
  clear c3
  obtain rfl := Option.some.inj H
  go_enter Try.func15, Try.ntmps15
  go_wp2
  go_ret
  exact ⟨by first | rfl | (simp; done) | (simp [*]; done), by repeat (first | exact Drawn0.refl _ | apply Drawn0.step)⟩
 ·rw [if_neg c3] at H
  have c3b0 : decide ((wrap64 (a1 - (l0.length : Int))) < 0) = false := decide_eq_false c3
  clear c3
  obtain rfl := Option.some.inj H
  go_enter Try.func15, Try.ntmps15
  go_wp2
  go_ret
  exact ⟨by first | rfl | (simp; done) | (simp [*]; done), by repeat (first | exact Drawn0.refl _ | apply Drawn0.step)⟩

end Go.Proofs.Ytijgdncmancolaa.P
namespace Go.Proofs.Ytijgdncmancolaa.P
open Go.RowKit Go.Proofs.YtijgdncmancolaaW.PrintWords Go.Proofs.YtijgdncmancolaaW.PrintLast Go.Proofs.YtijgdncmancolaaW.PrintMore Go.Proofs.Ytijgdncmancolaa.Hof
attribute [local go_sem] max2_int min2_int max_two min_two max_three min_three max_four min_four   -- for this text's walks alone
set_option linter.unusedVariables false
set_option linter.unusedSimpArgs false

/-! ### laws_szIntSS: function 16 -/
def laws_szIntSS.l0 : Nat → List (List Int) → Int → Int → Option (Int)
 | 0, _, _, _ => none
 | k + 1, x0, x1, x5 => if x5 < (x0.length : Int) then (if 0 ≤ x5 then ((laws_szIntS.f (rd_L2 x0 x5) x1).bind fun t102 => (if t102 < 0 then (some (-1)) else (laws_szIntSS.l0 k x0 t102 (wrap64 (x5 + 1))))) else (none)) else (some x1)
def laws_szIntSS.f (k : Nat) (l0 : List (List Int)) (a1 : Int) : Option (Int) := if (wrap64 (a1 - (l0.length : Int))) < 0 then (some (-1)) else (laws_szIntSS.l0 k l0 (wrap64 (a1 - (l0.length : Int))) 0)
theorem laws_szIntSS.mono_l : ∀ k, (∀ y0 y1 y2, LeO (laws_szIntSS.l0 k y0 y1 y2) (laws_szIntSS.l0 (k + 1) y0 y1 y2))
 | 0 => fun _ _ _ r h => by simp [laws_szIntSS.l0] at h
 | k + 1 => by
  have ih0 := laws_szIntSS.mono_l k
  ·intro y0 y1 y2
   unfold laws_szIntSS.l0
   repeat' first
   | (with_reducible exact ih0 _ _ _)
   | (with_reducible exact LeO.refl _)
   | (with_reducible exact LeO.none _)
   | (with_reducible refine LeO.ite ?_ ?_)
   | (with_reducible refine LeO.bind ?_ (fun _ => ?_))
   | exact ih0 _ _ _
   | exact LeO.none _
   | refine LeO.ite ?_ ?_
   | refine LeO.bind ?_ (fun _ => ?_)
theorem laws_szIntSS.mono : ∀ a0 a1 k, LeO (laws_szIntSS.f k a0 a1) (laws_szIntSS.f (k + 1) a0 a1) := by
 intro a0 a1 k
 have ih0 := laws_szIntSS.mono_l k
 unfold laws_szIntSS.f
 repeat' first
   | (with_reducible exact ih0 _ _ _)
   | (with_reducible exact LeO.refl _)
   | (with_reducible exact LeO.none _)
   | (with_reducible refine LeO.ite ?_ ?_)
   | (with_reducible refine LeO.bind ?_ (fun _ => ?_))
   | exact ih0 _ _ _
   | exact LeO.none _
   | refine LeO.ite ?_ ?_
   | refine LeO.bind ?_ (fun _ => ?_)
set_option maxHeartbeats 8000000 in
set_option maxRecDepth 100000 in
theorem laws_szIntSS.calls (k : Nat) (A0 : Option Addr) (c0 : Nat) (l0 : List (List Int)) (a1 : Int) (r : Int) (w : World) (hr0 : Kd.C (Kd.slice 3 (Kd.int .i64)) w A0 l0.length l0) (hc0 : l0.length ≤ c0) (h : laws_szIntSS.f k l0 a1 = some r) :
  Calls Try.prog 16 #[.slice A0 l0.length c0, .int .i64 a1] w fun e w' => e = .returned (.int .i64 r) ∧ Drawn0 w w' := by
 have HR0 := am_ hr0
 have HC0 := am_ hc0
 clear hr0 hc0
 have H : (if (wrap64 (a1 - (l0.length : Int))) < 0 then (some (-1)) else (laws_szIntSS.l0 k l0 (wrap64 (a1 - (l0.length : Int))) 0)) = some r := h
 clear h
 by_cases c3 : (wrap64 (a1 - (l0.length : Int))) < 0
 ·rw [if_pos c3] at H
  have c3b0 : decide ((wrap64 (a1 - (l0.length : Int))) < 0) = true := decide_eq_true c3
  clear c3
  obtain rfl := Option.some.inj H
  go_enter Try.func16, Try.ntmps16
  go_wp2
  go_ret
  exact ⟨by first | rfl | (simp; done) | (simp [*]; done), by repeat (first | exact Drawn0.refl _ | apply Drawn0.step)⟩
 ·rw [if_neg c3] at H
  have c3b0 : decide ((wrap64 (a1 - (l0.length : Int))) < 0) = false := decide_eq_false c3
  clear c3
  have H' := am_ H
  clear H
  go_enter Try.func16, Try.ntmps16
  go_wp2
  go_loopg [1, 5] k (fun kq v1 v5 w' => ∃ (x1_1 : Int) (x5_1 : Int), v1 = .int .i64 x1_1 ∧ v5 = .int .i64 x5_1 ∧ Aside0 (laws_szIntSS.l0 kq l0 x1_1 x5_1 = some r) ∧ Aside0 (kq ≤ k) ∧ Drawn0 w w')
  case atStart => exact ⟨(wrap64 (a1 - (l0.length : Int))), (0), (by first | rfl | (simp; done) | (simp [*]; done)), (by first | rfl | (simp; done) | (simp [*]; done)), H', ⟨Nat.le_refl _⟩, by repeat (first | exact Drawn0.refl _ | apply Drawn0.step)⟩
  case round =>
   clear H'
   try clear c1
   try clear p2
   try clear c3
   try clear c3b0
   obtain ⟨x1_1, x5_1, rfl, rfl, HA, HK1, ⟨m1, rfl⟩⟩ := hrel
   cases gk with
   | zero => exact absurd HA.out (by simp [laws_szIntSS.l0])
   | succ k1 =>
    have H := HA.out
    clear HA
    simp only [laws_szIntSS.l0] at H
    by_cases c4 : x5_1 < (l0.length : Int)
    ·rw [if_pos c4] at H
     have c4b0 : decide (x5_1 < (l0.length : Int)) = true := decide_eq_true c4
     clear c4
     by_cases c5 : 0 ≤ x5_1
     ·rw [if_pos c5] at H
      have c5b0 : decide (0 ≤ x5_1) = true := decide_eq_true c5
      clear c5
      replace H := Option.bind_eq_some_iff.mp H
      obtain ⟨t102, A60, H⟩ := H
      replace H : (if t102 < 0 then (some (-1)) else (laws_szIntSS.l0 k1 l0 t102 (wrap64 (x5_1 + 1)))) = some r := H
      have A6 := am_ A60
      clear A60
      by_cases c7 : t102 < 0
      ·rw [if_pos c7] at H
       have c7b0 : decide (t102 < 0) = true := decide_eq_true c7
       clear c7
       obtain rfl := Option.some.inj H
       have p101 : 0 ≤ (x5_1 : Int) := of_decide_eq_true (by first | (with_reducible assumption) | assumption)
       have q101 : x5_1 < (l0.length : Int) := of_decide_eq_true (by first | (with_reducible assumption) | assumption)
       obtain ⟨ad101, A101_0, c101_0, e101, hx101_0, hl101_0, hi101_0⟩ := at_L2 HR0.out x5_1 p101 q101
       cases e101
       have HR101_0 := am_ hi101_0
       have HC101_0 := am_ hl101_0
       clear hi101_0 hl101_0
       replace p101 := eq_true p101
       replace q101 := eq_true q101
       go_wp2_with (first | ((with_reducible refine gate_callee (f := 14) rfl ?_); refine Sh.gL (some 23) Try.func14 #[.slice A101_0 (rd_L2 l0 x5_1).length c101_0, .int .i64 x1_1] (h := ?_); (with_reducible refine (laws_szIntS.calls _ _ (rd_L2 l0 x5_1) x1_1 t102 _ ?side1 ?side2 A6.out).mono ?_); (case side1 => repeat (first | exact HR101_0.out | (with_reducible first | refine Kd.C_alloc ?_ _ | refine Kd.C_drewN ?_ _ | refine Kd.C_drew ?_))); (case side2 => exact HC101_0.out); rintro e w' ⟨rfl, ⟨nd, rfl⟩⟩; refine ⟨_, rfl, ?_⟩))
       go_ret
       exact ⟨by first | rfl | (simp; done) | (simp [*]; done), by repeat (first | exact Drawn0.refl _ | apply Drawn0.step)⟩
      ·rw [if_neg c7] at H
       have c7b0 : decide (t102 < 0) = false := decide_eq_false c7
       clear c7
       have H' := am_ H
       clear H
       have p101 : 0 ≤ (x5_1 : Int) := of_decide_eq_true (by first | (with_reducible assumption) | assumption)
       have q101 : x5_1 < (l0.length : Int) := of_decide_eq_true (by first | (with_reducible assumption) | assumption)
       obtain ⟨ad101, A101_0, c101_0, e101, hx101_0, hl101_0, hi101_0⟩ := at_L2 HR0.out x5_1 p101 q101
       cases e101
       have HR101_0 := am_ hi101_0
       have HC101_0 := am_ hl101_0
       clear hi101_0 hl101_0
       replace p101 := eq_true p101
       replace q101 := eq_true q101
       go_wp2_with (first | ((with_reducible refine gate_callee (f := 14) rfl ?_); refine Sh.gL (some 23) Try.func14 #[.slice A101_0 (rd_L2 l0 x5_1).length c101_0, .int .i64 x1_1] (h := ?_); (with_reducible refine (laws_szIntS.calls _ _ (rd_L2 l0 x5_1) x1_1 t102 _ ?side1 ?side2 A6.out).mono ?_); (case side1 => repeat (first | exact HR101_0.out | (with_reducible first | refine Kd.C_alloc ?_ _ | refine Kd.C_drewN ?_ _ | refine Kd.C_drew ?_))); (case side2 => exact HC101_0.out); rintro e w' ⟨rfl, ⟨nd, rfl⟩⟩; refine ⟨_, rfl, ?_⟩))
       go_roundg k1
       case measure => have := HK1.out; omega
       case rel => exact ⟨(t102), (wrap64 (x5_1 + 1)), (by first | rfl | (simp; done) | (simp [*]; done)), (by first | rfl | (simp; done) | (simp [*]; done)), H', ⟨by have := HK1.out; omega⟩, by repeat (first | exact Drawn0.refl _ | apply Drawn0.step)⟩
     ·rw [if_neg c5] at H
      exact absurd H (by simp)
    ·rw [if_neg c4] at H
     have c4b0 : decide (x5_1 < (l0.length : Int)) = false := decide_eq_false c4
     clear c4
     obtain rfl := Option.some.inj H
     go_wp2
     go_ret
     exact ⟨by first | rfl | (simp; done) | (simp [*]; done), by repeat (first | exact Drawn0.refl _ | apply Drawn0.step)⟩

end Go.Proofs.Ytijgdncmancolaa.P
namespace Go.Proofs.Ytijgdncmancolaa.P
open Go.RowKit Go.Proofs.YtijgdncmancolaaW.PrintWords Go.Proofs.YtijgdncmancolaaW.PrintLast Go.Proofs.YtijgdncmancolaaW.PrintMore Go.Proofs.Ytijgdncmancolaa.Hof
attribute [local go_sem] max2_int min2_int max_two min_two max_three min_three max_four min_four   -- for this text's walks alone
set_option linter.unusedVariables false
set_option linter.unusedSimpArgs false

/-! ### laws_szAuto: function 4 -/
def laws_szAuto.f (k : Nat) (a0_0 : Int) (l0_1 : List Int) (l0_2 : List (S61)) (l0_3 : List (List Int)) (a1 : Int) : Option (Int) := (laws_szIntS.f l0_1 a1).bind fun t104 => (if t104 < 0 then (some (-1)) else ((laws_szEdgeS.f l0_2 t104).bind fun t105 => (if t105 < 0 then (some (-1)) else ((laws_szIntSS.f k l0_3 t105).bind fun t106 => (if t106 < 0 then (some (-1)) else (some t106))))))
theorem laws_szAuto.mono : ∀ a0 a1 a2 a3 a4 k, LeO (laws_szAuto.f k a0 a1 a2 a3 a4) (laws_szAuto.f (k + 1) a0 a1 a2 a3 a4) := by
 intro a0 a1 a2 a3 a4 k
 unfold laws_szAuto.f
 repeat' first
   | (with_reducible exact laws_szIntSS.mono _ _ _)
   | (with_reducible exact LeO.refl _)
   | (with_reducible exact LeO.none _)
   | (with_reducible refine LeO.ite ?_ ?_)
   | (with_reducible refine LeO.bind ?_ (fun _ => ?_))
   | exact laws_szIntSS.mono _ _ _
   | exact LeO.none _
   | refine LeO.ite ?_ ?_
   | refine LeO.bind ?_ (fun _ => ?_)
set_option maxHeartbeats 8000000 in
set_option maxRecDepth 100000 in
theorem laws_szAuto.calls (k : Nat) (a0_0 : Int) (A0_1 : Option Addr) (c0_1 : Nat) (l0_1 : List Int) (A0_2 : Option Addr) (c0_2 : Nat) (l0_2 : List (S61)) (A0_3 : Option Addr) (c0_3 : Nat) (l0_3 : List (List Int)) (a1 : Int) (r : Int) (w : World) (hr0_1 : Kd.C (Kd.int .i64) w A0_1 l0_1.length l0_1) (hc0_1 : l0_1.length ≤ c0_1) (hr0_2 : Kd.C k61 w A0_2 l0_2.length l0_2) (hc0_2 : l0_2.length ≤ c0_2) (hr0_3 : Kd.C (Kd.slice 3 (Kd.int .i64)) w A0_3 l0_3.length l0_3) (hc0_3 : l0_3.length ≤ c0_3) (h : laws_szAuto.f k a0_0 l0_1 l0_2 l0_3 a1 = some r) :
  Calls Try.prog 4 #[.agg #[.int .i64 a0_0, .slice A0_1 l0_1.length c0_1, .slice A0_2 l0_2.length c0_2, .slice A0_3 l0_3.length c0_3], .int .i64 a1] w fun e w' => e = .returned (.int .i64 r) ∧ Below w.heap.size w w' := by
 have hu26 := Try.underlying26
 have HR0_1 := am_ hr0_1
 have HC0_1 := am_ hc0_1
 clear hr0_1 hc0_1
 have HR0_2 := am_ hr0_2
 have HC0_2 := am_ hc0_2
 clear hr0_2 hc0_2
 have HR0_3 := am_ hr0_3
 have HC0_3 := am_ hc0_3
 clear hr0_3 hc0_3
 have HB := am_ (Below.refl w.heap.size w)
 have H : ((laws_szIntS.f l0_1 a1).bind fun t104 => (if t104 < 0 then (some (-1)) else ((laws_szEdgeS.f l0_2 t104).bind fun t105 => (if t105 < 0 then (some (-1)) else ((laws_szIntSS.f k l0_3 t105).bind fun t106 => (if t106 < 0 then (some (-1)) else (some t106))))))) = some r := h
 clear h
 replace H := Option.bind_eq_some_iff.mp H
 obtain ⟨t104, A30, H⟩ := H
 replace H : (if t104 < 0 then (some (-1)) else ((laws_szEdgeS.f l0_2 t104).bind fun t105 => (if t105 < 0 then (some (-1)) else ((laws_szIntSS.f k l0_3 t105).bind fun t106 => (if t106 < 0 then (some (-1)) else (some t106)))))) = some r := H
 have A3 := am_ A30
 clear A30
 by_cases c4 : t104 < 0
 ·rw [if_pos c4] at H
  have c4b0 : decide (t104 < 0) = true := decide_eq_true c4
  clear c4
  obtain rfl := Option.some.inj H
  go_enter Try.func4, Try.ntmps4
  go_wp2_with (first | ((with_reducible refine gate_dst (N := 2) rfl ?_); refine Sh.bx (N := 2) (cs := #[.int .i64 a0_0, .slice A0_1 l0_1.length c0_1, .slice A0_2 l0_2.length c0_2, .slice A0_3 l0_3.length c0_3]) (t := 26) (h := ?_); intro gb103 hg w5 hbox hb; have n0_ := am_ (below_step Sh.bw hb); have n1_ := am_ (hbox); have n2_ := am_ (Sh.gw (w := w) hg); have n3_ := am_ (Sh.gw (w := w) hg); clear HB; have HB := n0_; have BK103 := n1_; have GW103 := n2_; have GE103 := n3_; clear n0_ n1_ n2_ n3_; clear hb hbox hg; have hcz6_0 := Sh.bc BK103.out 0; have hcz6_1 := Sh.bc BK103.out 1; have hcz6_2 := Sh.bc BK103.out 2; have hcz6_3 := Sh.bc BK103.out 3; have hfz6_0 := blk_frozen BK103.out 0; have hfz6_1 := blk_frozen BK103.out 1; have hfz6_2 := blk_frozen BK103.out 2; have hfz6_3 := blk_frozen BK103.out 3) | ((with_reducible refine gate_callee (f := 14) rfl ?_); refine Sh.gL (some 8) Try.func14 #[.slice A0_1 l0_1.length c0_1, .int .i64 a1] (h := ?_); (with_reducible refine (laws_szIntS.calls _ _ l0_1 a1 t104 _ (Sh.cB HR0_1.out) HC0_1.out A3.out).mono ?_); rintro e w' ⟨rfl, ⟨nd, rfl⟩⟩; refine ⟨_, rfl, ?_⟩))
  go_ret
  exact ⟨Sh.eR, Sh.bw⟩
 ·rw [if_neg c4] at H
  have c4b0 : decide (t104 < 0) = false := decide_eq_false c4
  clear c4
  replace H := Option.bind_eq_some_iff.mp H
  obtain ⟨t105, A70, H⟩ := H
  replace H : (if t105 < 0 then (some (-1)) else ((laws_szIntSS.f k l0_3 t105).bind fun t106 => (if t106 < 0 then (some (-1)) else (some t106)))) = some r := H
  have A7 := am_ A70
  clear A70
  by_cases c8 : t105 < 0
  ·rw [if_pos c8] at H
   have c8b0 : decide (t105 < 0) = true := decide_eq_true c8
   clear c8
   obtain rfl := Option.some.inj H
   go_enter Try.func4, Try.ntmps4
   go_wp2_with (first | ((with_reducible refine gate_dst (N := 2) rfl ?_); refine Sh.bx (N := 2) (cs := #[.int .i64 a0_0, .slice A0_1 l0_1.length c0_1, .slice A0_2 l0_2.length c0_2, .slice A0_3 l0_3.length c0_3]) (t := 26) (h := ?_); intro gb103 hg w9 hbox hb; have n0_ := am_ (below_step Sh.bw hb); have n1_ := am_ (hbox); have n2_ := am_ (Sh.gw (w := w) hg); have n3_ := am_ (Sh.gw (w := w) hg); clear HB; have HB := n0_; have BK103 := n1_; have GW103 := n2_; have GE103 := n3_; clear n0_ n1_ n2_ n3_; clear hb hbox hg; have hcz10_0 := Sh.bc BK103.out 0; have hcz10_1 := Sh.bc BK103.out 1; have hcz10_2 := Sh.bc BK103.out 2; have hcz10_3 := Sh.bc BK103.out 3; have hfz10_0 := blk_frozen BK103.out 0; have hfz10_1 := blk_frozen BK103.out 1; have hfz10_2 := blk_frozen BK103.out 2; have hfz10_3 := blk_frozen BK103.out 3) | ((with_reducible refine gate_callee (f := 14) rfl ?_); refine Sh.gL (some 8) Try.func14 #[.slice A0_1 l0_1.length c0_1, .int .i64 a1] (h := ?_); (with_reducible refine (laws_szIntS.calls _ _ l0_1 a1 t104 _ (Sh.cB HR0_1.out) HC0_1.out A3.out).mono ?_); rintro e w' ⟨rfl, ⟨nd, rfl⟩⟩; refine ⟨_, rfl, ?_⟩) | ((with_reducible refine gate_callee (f := 15) rfl ?_); refine Sh.gL (some 14) Try.func15 #[.slice A0_2 l0_2.length c0_2, .int .i64 t104] (h := ?_); (with_reducible refine (laws_szEdgeS.calls _ _ l0_2 t104 t105 _ ?side1 ?side2 A7.out).mono ?_); (case side1 => repeat (first | exact (Kd.C_below HR0_2.out Sh.bw) | (with_reducible first | refine Kd.C_alloc ?_ _ | refine Kd.C_drewN ?_ _ | refine Kd.C_drew ?_))); (case side2 => exact HC0_2.out); rintro e w' ⟨rfl, ⟨nd, rfl⟩⟩; refine ⟨_, rfl, ?_⟩))
   go_ret
   exact ⟨Sh.eR, Sh.bw⟩
  ·rw [if_neg c8] at H
   have c8b0 : decide (t105 < 0) = false := decide_eq_false c8
   clear c8
   replace H := Option.bind_eq_some_iff.mp H
   obtain ⟨t106, A110, H⟩ := H
   replace H : (if t106 < 0 then (some (-1)) else (some t106)) = some r := H
   have A11 := am_ A110
   clear A110
   by_cases c12 : t106 < 0
   ·rw [if_pos c12] at H
    have c12b0 : decide (t106 < 0) = true := decide_eq_true c12
    clear c12
    obtain rfl := Option.some.inj H
    go_enter Try.func4, Try.ntmps4
    go_wp2_with (first | ((with_reducible refine gate_dst (N := 2) rfl ?_); refine Sh.bx (N := 2) (cs := #[.int .i64 a0_0, .slice A0_1 l0_1.length c0_1, .slice A0_2 l0_2.length c0_2, .slice A0_3 l0_3.length c0_3]) (t := 26) (h := ?_); intro gb103 hg w13 hbox hb; have n0_ := am_ (below_step Sh.bw hb); have n1_ := am_ (hbox); have n2_ := am_ (Sh.gw (w := w) hg); have n3_ := am_ (Sh.gw (w := w) hg); clear HB; have HB := n0_; have BK103 := n1_; have GW103 := n2_; have GE103 := n3_; clear n0_ n1_ n2_ n3_; clear hb hbox hg; have hcz14_0 := Sh.bc BK103.out 0; have hcz14_1 := Sh.bc BK103.out 1; have hcz14_2 := Sh.bc BK103.out 2; have hcz14_3 := Sh.bc BK103.out 3; have hfz14_0 := blk_frozen BK103.out 0; have hfz14_1 := blk_frozen BK103.out 1; have hfz14_2 := blk_frozen BK103.out 2; have hfz14_3 := blk_frozen BK103.out 3) | ((with_reducible refine gate_callee (f := 14) rfl ?_); refine Sh.gL (some 8) Try.func14 #[.slice A0_1 l0_1.length c0_1, .int .i64 a1] (h := ?_); (with_reducible refine (laws_szIntS.calls _ _ l0_1 a1 t104 _ (Sh.cB HR0_1.out) HC0_1.out A3.out).mono ?_); rintro e w' ⟨rfl, ⟨nd, rfl⟩⟩; refine ⟨_, rfl, ?_⟩) | ((with_reducible refine gate_callee (f := 15) rfl ?_); refine Sh.gL (some 14) Try.func15 #[.slice A0_2 l0_2.length c0_2, .int .i64 t104] (h := ?_); (with_reducible refine (laws_szEdgeS.calls _ _ l0_2 t104 t105 _ ?side1 ?side2 A7.out).mono ?_); (case side1 => repeat (first | exact (Kd.C_below HR0_2.out Sh.bw) | (with_reducible first | refine Kd.C_alloc ?_ _ | refine Kd.C_drewN ?_ _ | refine Kd.C_drew ?_))); (case side2 => exact HC0_2.out); rintro e w' ⟨rfl, ⟨nd, rfl⟩⟩; refine ⟨_, rfl, ?_⟩) | ((with_reducible refine gate_callee (f := 16) rfl ?_); refine Sh.gL (some 20) Try.func16 #[.slice A0_3 l0_3.length c0_3, .int .i64 t105] (h := ?_); (with_reducible refine (laws_szIntSS.calls k _ _ l0_3 t105 t106 _ ?side1 ?side2 A11.out).mono ?_); (case side1 => repeat (first | exact (Kd.C_below HR0_3.out Sh.bw) | (with_reducible first | refine Kd.C_alloc ?_ _ | refine Kd.C_drewN ?_ _ | refine Kd.C_drew ?_))); (case side2 => exact HC0_3.out); rintro e w' ⟨rfl, ⟨nd, rfl⟩⟩; refine ⟨_, rfl, ?_⟩))
    go_ret
    exact ⟨Sh.eR, Sh.bw⟩
   ·rw [if_neg c12] at H
    have c12b0 : decide (t106 < 0) = false := decide_eq_false c12
    clear c12
    obtain rfl := Option.some.inj H
    go_enter Try.func4, Try.ntmps4
    go_wp2_with (first | ((with_reducible refine gate_dst (N := 2) rfl ?_); refine Sh.bx (N := 2) (cs := #[.int .i64 a0_0, .slice A0_1 l0_1.length c0_1, .slice A0_2 l0_2.length c0_2, .slice A0_3 l0_3.length c0_3]) (t := 26) (h := ?_); intro gb103 hg w15 hbox hb; have n0_ := am_ (below_step Sh.bw hb); have n1_ := am_ (hbox); have n2_ := am_ (Sh.gw (w := w) hg); have n3_ := am_ (Sh.gw (w := w) hg); clear HB; have HB := n0_; have BK103 := n1_; have GW103 := n2_; have GE103 := n3_; clear n0_ n1_ n2_ n3_; clear hb hbox hg; have hcz16_0 := Sh.bc BK103.out 0; have hcz16_1 := Sh.bc BK103.out 1; have hcz16_2 := Sh.bc BK103.out 2; have hcz16_3 := Sh.bc BK103.out 3; have hfz16_0 := blk_frozen BK103.out 0; have hfz16_1 := blk_frozen BK103.out 1; have hfz16_2 := blk_frozen BK103.out 2; have hfz16_3 := blk_frozen BK103.out 3) | ((with_reducible refine gate_callee (f := 14) rfl ?_); refine Sh.gL (some 8) Try.func14 #[.slice A0_1 l0_1.length c0_1, .int .i64 a1] (h := ?_); (with_reducible refine (laws_szIntS.calls _ _ l0_1 a1 t104 _ (Sh.cB HR0_1.out) HC0_1.out A3.out).mono ?_); rintro e w' ⟨rfl, ⟨nd, rfl⟩⟩; refine ⟨_, rfl, ?_⟩) | ((with_reducible refine gate_callee (f := 15) rfl ?_); refine Sh.gL (some 14) Try.func15 #[.slice A0_2 l0_2.length c0_2, .int .i64 t104] (h := ?_); (with_reducible refine (laws_szEdgeS.calls _ _ l0_2 t104 t105 _ ?side1 ?side2 A7.out).mono ?_); (case side1 => repeat (first | exact (Kd.C_below HR0_2.out Sh.bw) | (with_reducible first | refine Kd.C_alloc ?_ _ | refine Kd.C_drewN ?_ _ | refine Kd.C_drew ?_))); (case side2 => exact HC0_2.out); rintro e w' ⟨rfl, ⟨nd, rfl⟩⟩; refine ⟨_, rfl, ?_⟩) | ((with_reducible refine gate_callee (f := 16) rfl ?_); refine Sh.gL (some 20) Try.func16 #[.slice A0_3 l0_3.length c0_3, .int .i64 t105] (h := ?_); (with_reducible refine (laws_szIntSS.calls k _ _ l0_3 t105 t106 _ ?side1 ?side2 A11.out).mono ?_); (case side1 => repeat (first | exact (Kd.C_below HR0_3.out Sh.bw) | (with_reducible first | refine Kd.C_alloc ?_ _ | refine Kd.C_drewN ?_ _ | refine Kd.C_drew ?_))); (case side2 => exact HC0_3.out); rintro e w' ⟨rfl, ⟨nd, rfl⟩⟩; refine ⟨_, rfl, ?_⟩))
    go_ret
    exact ⟨Sh.eR, Sh.bw⟩

end Go.Proofs.Ytijgdncmancolaa.P
namespace Go.Proofs.Ytijgdncmancolaa.P
open Go.RowKit Go.Proofs.YtijgdncmancolaaW.PrintWords Go.Proofs.YtijgdncmancolaaW.PrintLast Go.Proofs.YtijgdncmancolaaW.PrintMore Go.Proofs.Ytijgdncmancolaa.Hof
attribute [local go_sem] max2_int min2_int max_two min_two max_three min_three max_four min_four   -- for this text's walks alone
set_option linter.unusedVariables false
set_option linter.unusedSimpArgs false

/-! ### spec_l1In: function 19 -/
def spec_l1In.f (a0 : Int) (a1 : Int) (a2 : Int) : Option (Bool) := if a0 ≥ a1 then (some (decide (a0 ≤ a2))) else (some false)
set_option maxHeartbeats 8000000 in
set_option maxRecDepth 100000 in
theorem spec_l1In.calls (a0 : Int) (a1 : Int) (a2 : Int) (r : Bool) (w : World) (h : spec_l1In.f a0 a1 a2 = some r) :
  Calls Try.prog 19 #[.int .i64 a0, .int .i64 a1, .int .i64 a2] w fun e w' => e = .returned (.bool r) ∧ Drawn0 w w' := by
 have H : (if a0 ≥ a1 then (some (decide (a0 ≤ a2))) else (some false)) = some r := h
 clear h
 by_cases c4 : a0 ≥ a1
 ·rw [if_pos c4] at H
  have c4b0 : decide (a1 ≤ a0) = true := decide_eq_true c4
  clear c4
  obtain rfl := Option.some.inj H
  go_enter Try.func19, Try.ntmps19
  go_wp2
  go_ret
  exact ⟨by first | rfl | (simp; done) | (simp [*]; done), by repeat (first | exact Drawn0.refl _ | apply Drawn0.step)⟩
 ·rw [if_neg c4] at H
  have c4b0 : decide (a1 ≤ a0) = false := decide_eq_false c4
  clear c4
  obtain rfl := Option.some.inj H
  go_enter Try.func19, Try.ntmps19
  go_wp2
  go_ret
  exact ⟨by first | rfl | (simp; done) | (simp [*]; done), by repeat (first | exact Drawn0.refl _ | apply Drawn0.step)⟩

end Go.Proofs.Ytijgdncmancolaa.P
namespace Go.Proofs.Ytijgdncmancolaa.P
open Go.RowKit Go.Proofs.YtijgdncmancolaaW.PrintWords Go.Proofs.YtijgdncmancolaaW.PrintLast Go.Proofs.YtijgdncmancolaaW.PrintMore Go.Proofs.Ytijgdncmancolaa.Hof
attribute [local go_sem] max2_int min2_int max_two min_two max_three min_three max_four min_four   -- for this text's walks alone
set_option linter.unusedVariables false
set_option linter.unusedSimpArgs false

/-! ### spec_l1Rising: function 34 -/
def spec_l1Rising.l0 : Nat → List Int → Int → Int → List Int → Int → Int → Option (Bool)
 | 0, _, _, _, _, _, _ => none
 | k + 1, x0, x1, x2, x9, x10, x11 => if x11 < x10 then (if 0 ≤ x11 then (if x11 < (x9.length : Int) then ((spec_l1In.f (rd x9 x11) x1 x2).bind fun t108 => (if t108 = true then (if x11 > 0 then (if 0 ≤ (wrap64 (x11 - 1)) then (if (wrap64 (x11 - 1)) < (x0.length : Int) then (if (rd x0 (wrap64 (x11 - 1))) ≥ (rd x9 x11) then (some false) else (spec_l1Rising.l0 k x0 x1 x2 x9 x10 (wrap64 (x11 + 1)))) else (none)) else (none)) else (spec_l1Rising.l0 k x0 x1 x2 x9 x10 (wrap64 (x11 + 1)))) else (some false))) else (none)) else (none)) else (some true)
def spec_l1Rising.f (k : Nat) (l0 : List Int) (a1 : Int) (a2 : Int) : Option (Bool) := spec_l1Rising.l0 k l0 a1 a2 l0 (l0.length : Int) 0
theorem spec_l1Rising.mono_l : ∀ k, (∀ y0 y1 y2 y3 y4 y5, LeO (spec_l1Rising.l0 k y0 y1 y2 y3 y4 y5) (spec_l1Rising.l0 (k + 1) y0 y1 y2 y3 y4 y5))
 | 0 => fun _ _ _ _ _ _ r h => by simp [spec_l1Rising.l0] at h
 | k + 1 => by
  have ih0 := spec_l1Rising.mono_l k
  ·intro y0 y1 y2 y3 y4 y5
   unfold spec_l1Rising.l0
   repeat' first
   | (with_reducible exact ih0 _ _ _ _ _ _)
   | (with_reducible exact LeO.refl _)
   | (with_reducible exact LeO.none _)
   | (with_reducible refine LeO.ite ?_ ?_)
   | (with_reducible refine LeO.bind ?_ (fun _ => ?_))
   | exact ih0 _ _ _ _ _ _
   | exact LeO.none _
   | refine LeO.ite ?_ ?_
   | refine LeO.bind ?_ (fun _ => ?_)
theorem spec_l1Rising.mono : ∀ a0 a1 a2 k, LeO (spec_l1Rising.f k a0 a1 a2) (spec_l1Rising.f (k + 1) a0 a1 a2) := by
 intro a0 a1 a2 k
 have ih0 := spec_l1Rising.mono_l k
 unfold spec_l1Rising.f
 repeat' first
   | (with_reducible exact ih0 _ _ _ _ _ _)
   | (with_reducible exact LeO.refl _)
   | (with_reducible exact LeO.none _)
   | (with_reducible refine LeO.ite ?_ ?_)
   | (with_reducible refine LeO.bind ?_ (fun _ => ?_))
   | exact ih0 _ _ _ _ _ _
   | exact LeO.none _
   | refine LeO.ite ?_ ?_
   | refine LeO.bind ?_ (fun _ => ?_)
set_option maxHeartbeats 8000000 in
set_option maxRecDepth 100000 in
theorem spec_l1Rising.calls (k : Nat) (A0 : Option Addr) (c0 : Nat) (l0 : List Int) (a1 : Int) (a2 : Int) (r : Bool) (w : World) (hr0 : Kd.C (Kd.int .i64) w A0 l0.length l0) (hc0 : l0.length ≤ c0) (h : spec_l1Rising.f k l0 a1 a2 = some r) :
  Calls Try.prog 34 #[.slice A0 l0.length c0, .int .i64 a1, .int .i64 a2] w fun e w' => e = .returned (.bool r) ∧ Drawn0 w w' := by
 have HR0 := am_ hr0
 have HC0 := am_ hc0
 clear hr0 hc0
 have H : (spec_l1Rising.l0 k l0 a1 a2 l0 (l0.length : Int) 0) = some r := h
 clear h
 have H' := am_ H
 clear H
 go_enter Try.func34, Try.ntmps34
 go_wp2
 go_loopg [11] k (fun kq v11 w' => ∃ (x11_1 : Int), v11 = .int .i64 x11_1 ∧ Aside0 (spec_l1Rising.l0 kq l0 a1 a2 l0 (l0.length : Int) x11_1 = some r) ∧ Aside0 (kq ≤ k) ∧ Drawn0 w w')
 case atStart => exact ⟨(0), (by first | rfl | (simp; done) | (simp [*]; done)), H', ⟨Nat.le_refl _⟩, by repeat (first | exact Drawn0.refl _ | apply Drawn0.step)⟩
 case round =>
  clear H'
  try clear p2
  try clear c3
  obtain ⟨x11_1, rfl, HA, HK1, ⟨m1, rfl⟩⟩ := hrel
  cases gk with
  | zero => exact absurd HA.out (by simp [spec_l1Rising.l0])
  | succ k1 =>
   have H := HA.out
   clear HA
   simp only [spec_l1Rising.l0] at H
   by_cases c4 : x11_1 < (l0.length : Int)
   ·rw [if_pos c4] at H
    have c4b0 : decide (x11_1 < (l0.length : Int)) = true := decide_eq_true c4
    clear c4
    by_cases c5 : 0 ≤ x11_1
    ·rw [if_pos c5] at H
     have c5b0 : decide (0 ≤ x11_1) = true := decide_eq_true c5
     clear c5
     by_cases c6 : x11_1 < (l0.length : Int)
     ·rw [if_pos c6] at H
      have c6b0 : decide (x11_1 < (l0.length : Int)) = true := decide_eq_true c6
      clear c6
      replace H := Option.bind_eq_some_iff.mp H
      obtain ⟨t108, A70, H⟩ := H
      replace H : (if t108 = true then (if x11_1 > 0 then (if 0 ≤ (wrap64 (x11_1 - 1)) then (if (wrap64 (x11_1 - 1)) < (l0.length : Int) then (if (rd l0 (wrap64 (x11_1 - 1))) ≥ (rd l0 x11_1) then (some false) else (spec_l1Rising.l0 k1 l0 a1 a2 l0 (l0.length : Int) (wrap64 (x11_1 + 1)))) else (none)) else (none)) else (spec_l1Rising.l0 k1 l0 a1 a2 l0 (l0.length : Int) (wrap64 (x11_1 + 1)))) else (some false)) = some r := H
      have A7 := am_ A70
      clear A70
      by_cases c8 : t108 = true
      ·subst c8
       have H1 : (if x11_1 > 0 then (if 0 ≤ (wrap64 (x11_1 - 1)) then (if (wrap64 (x11_1 - 1)) < (l0.length : Int) then (if (rd l0 (wrap64 (x11_1 - 1))) ≥ (rd l0 x11_1) then (some false) else (spec_l1Rising.l0 k1 l0 a1 a2 l0 (l0.length : Int) (wrap64 (x11_1 + 1)))) else (none)) else (none)) else (spec_l1Rising.l0 k1 l0 a1 a2 l0 (l0.length : Int) (wrap64 (x11_1 + 1)))) = some r := by rw [if_pos rfl] at H; exact H
       clear H
       have H := H1
       clear H1
       by_cases c9 : x11_1 > 0
       ·rw [if_pos c9] at H
        have c9b0 : decide (0 < x11_1) = true := decide_eq_true c9
        clear c9
        obtain ⟨ji10, hji10⟩ : ∃ j_ : Int, (wrap64 (x11_1 - 1)) = j_ := ⟨_, rfl⟩
        replace H : (if 0 ≤ (ji10) then (if (ji10) < (l0.length : Int) then (if (rd l0 (ji10)) ≥ (rd l0 x11_1) then (some false) else (spec_l1Rising.l0 k1 l0 a1 a2 l0 (l0.length : Int) (wrap64 (x11_1 + 1)))) else (none)) else (none)) = some r := by first | (rw [hji10] at H; exact H) | (simp only [hji10] at H ⊢; exact H)
        (try rw [hji10] at A7)
        have hji10w : (IntKind.i64.wrap (x11_1 - 1)) = ji10 := (i64_w _).trans hji10
        by_cases c11 : 0 ≤ (ji10)
        ·rw [if_pos c11] at H
         have c11b0 : decide (0 ≤ (ji10)) = true := decide_eq_true c11
         clear c11
         by_cases c12 : (ji10) < (l0.length : Int)
         ·rw [if_pos c12] at H
          have c12b0 : decide ((ji10) < (l0.length : Int)) = true := decide_eq_true c12
          clear c12
          by_cases c13 : (rd l0 (ji10)) ≥ (rd l0 x11_1)
          ·rw [if_pos c13] at H
           have c13b0 : decide ((rd l0 x11_1) ≤ (rd l0 (ji10))) = true := decide_eq_true c13
           clear c13
           obtain rfl := Option.some.inj H
           have p107 : 0 ≤ (x11_1 : Int) := of_decide_eq_true (by first | (with_reducible assumption) | assumption)
           have q107 : x11_1 < (l0.length : Int) := of_decide_eq_true (by first | (with_reducible assumption) | assumption)
           obtain ⟨ad107, e107, hx107_0⟩ := Kd.at_int HR0.out x11_1 p107 q107
           cases e107
           replace p107 := eq_true p107
           replace q107 := eq_true q107
           go_wp2_with (first | ((with_reducible refine gate_callee (f := 19) rfl ?_); refine Sh.gL (some 19) Try.func19 #[.int .i64 (rd l0 x11_1), .int .i64 a1, .int .i64 a2] (h := ?_); (with_reducible refine (spec_l1In.calls (rd l0 x11_1) a1 a2 true _ A7.out).mono ?_); rintro e w' ⟨rfl, ⟨nd, rfl⟩⟩; refine ⟨_, rfl, ?_⟩; have p109 : 0 ≤ ((ji10) : Int) := of_decide_eq_true (by first | (with_reducible assumption) | assumption); have q109 : (ji10) < (l0.length : Int) := of_decide_eq_true (by first | (with_reducible assumption) | assumption); obtain ⟨ad109, e109, hx109_0⟩ := Kd.at_int HR0.out (ji10) p109 q109; obtain rfl : ad107 = ad109 := (by injection e109); replace p109 := eq_true p109; replace q109 := eq_true q109))
           go_ret
           exact ⟨by first | rfl | (simp; done) | (simp only [← hji10] <;> (first | rfl | simp)) | (simp [*]; done), by repeat (first | exact Drawn0.refl _ | apply Drawn0.step)⟩
          ·rw [if_neg c13] at H
           have c13b0 : decide ((rd l0 x11_1) ≤ (rd l0 (ji10))) = false := decide_eq_false c13
           clear c13
           have H' := am_ H
           clear H
           have p107 : 0 ≤ (x11_1 : Int) := of_decide_eq_true (by first | (with_reducible assumption) | assumption)
           have q107 : x11_1 < (l0.length : Int) := of_decide_eq_true (by first | (with_reducible assumption) | assumption)
           obtain ⟨ad107, e107, hx107_0⟩ := Kd.at_int HR0.out x11_1 p107 q107
           cases e107
           replace p107 := eq_true p107
           replace q107 := eq_true q107
           go_wp2_with (first | ((with_reducible refine gate_callee (f := 19) rfl ?_); refine Sh.gL (some 19) Try.func19 #[.int .i64 (rd l0 x11_1), .int .i64 a1, .int .i64 a2] (h := ?_); (with_reducible refine (spec_l1In.calls (rd l0 x11_1) a1 a2 true _ A7.out).mono ?_); rintro e w' ⟨rfl, ⟨nd, rfl⟩⟩; refine ⟨_, rfl, ?_⟩; have p109 : 0 ≤ ((ji10) : Int) := of_decide_eq_true (by first | (with_reducible assumption) | assumption); have q109 : (ji10) < (l0.length : Int) := of_decide_eq_true (by first | (with_reducible assumption) | assumption); obtain ⟨ad109, e109, hx109_0⟩ := Kd.at_int HR0.out (ji10) p109 q109; obtain rfl : ad107 = ad109 := (by injection e109); replace p109 := eq_true p109; replace q109 := eq_true q109))
           go_roundg k1
           case measure => have := HK1.out; omega
           case rel => exact ⟨(wrap64 (x11_1 + 1)), (by first | rfl | (simp; done) | (simp [*]; done)), H', ⟨by have := HK1.out; omega⟩, by repeat (first | exact Drawn0.refl _ | apply Drawn0.step)⟩
         ·rw [if_neg c12] at H
          exact absurd H (by simp)
        ·rw [if_neg c11] at H
         exact absurd H (by simp)
       ·rw [if_neg c9] at H
        have c9b0 : decide (0 < x11_1) = false := decide_eq_false c9
        clear c9
        have H' := am_ H
        clear H
        have p107 : 0 ≤ (x11_1 : Int) := of_decide_eq_true (by first | (with_reducible assumption) | assumption)
        have q107 : x11_1 < (l0.length : Int) := of_decide_eq_true (by first | (with_reducible assumption) | assumption)
        obtain ⟨ad107, e107, hx107_0⟩ := Kd.at_int HR0.out x11_1 p107 q107
        cases e107
        replace p107 := eq_true p107
        replace q107 := eq_true q107
        go_wp2_with (first | ((with_reducible refine gate_callee (f := 19) rfl ?_); refine Sh.gL (some 19) Try.func19 #[.int .i64 (rd l0 x11_1), .int .i64 a1, .int .i64 a2] (h := ?_); (with_reducible refine (spec_l1In.calls (rd l0 x11_1) a1 a2 true _ A7.out).mono ?_); rintro e w' ⟨rfl, ⟨nd, rfl⟩⟩; refine ⟨_, rfl, ?_⟩))
        go_roundg k1
        case measure => have := HK1.out; omega
        case rel => exact ⟨(wrap64 (x11_1 + 1)), (by first | rfl | (simp; done) | (simp [*]; done)), H', ⟨by have := HK1.out; omega⟩, by repeat (first | exact Drawn0.refl _ | apply Drawn0.step)⟩
      ·replace c8 := Bool.eq_false_iff.mpr c8
       subst c8
       have H1 : (some false) = some r := by rw [if_neg (show ¬ (false = true) by decide)] at H; exact H
       clear H
       have H := H1
       clear H1
       obtain rfl := Option.some.inj H
       have p107 : 0 ≤ (x11_1 : Int) := of_decide_eq_true (by first | (with_reducible assumption) | assumption)
       have q107 : x11_1 < (l0.length : Int) := of_decide_eq_true (by first | (with_reducible assumption) | assumption)
       obtain ⟨ad107, e107, hx107_0⟩ := Kd.at_int HR0.out x11_1 p107 q107
       cases e107
       replace p107 := eq_true p107
       replace q107 := eq_true q107
       go_wp2_with (first | ((with_reducible refine gate_callee (f := 19) rfl ?_); refine Sh.gL (some 19) Try.func19 #[.int .i64 (rd l0 x11_1), .int .i64 a1, .int .i64 a2] (h := ?_); (with_reducible refine (spec_l1In.calls (rd l0 x11_1) a1 a2 false _ A7.out).mono ?_); rintro e w' ⟨rfl, ⟨nd, rfl⟩⟩; refine ⟨_, rfl, ?_⟩))
       go_ret
       exact ⟨by first | rfl | (simp; done) | (simp [*]; done), by repeat (first | exact Drawn0.refl _ | apply Drawn0.step)⟩
     ·rw [if_neg c6] at H
      exact absurd H (by simp)
    ·rw [if_neg c5] at H
     exact absurd H (by simp)
   ·rw [if_neg c4] at H
    have c4b0 : decide (x11_1 < (l0.length : Int)) = false := decide_eq_false c4
    clear c4
    obtain rfl := Option.some.inj H
    go_wp2
    go_ret
    exact ⟨by first | rfl | (simp; done) | (simp [*]; done), by repeat (first | exact Drawn0.refl _ | apply Drawn0.step)⟩

end Go.Proofs.Ytijgdncmancolaa.P
namespace Go.Proofs.Ytijgdncmancolaa.P
open Go.RowKit Go.Proofs.YtijgdncmancolaaW.PrintWords Go.Proofs.YtijgdncmancolaaW.PrintLast Go.Proofs.YtijgdncmancolaaW.PrintMore Go.Proofs.Ytijgdncmancolaa.Hof
attribute [local go_sem] max2_int min2_int max_two min_two max_three min_three max_four min_four   -- for this text's walks alone
set_option linter.unusedVariables false
set_option linter.unusedSimpArgs false

/-! ### spec_l11Points: function 18 -/
def spec_l11Points.f (k : Nat) (l0 : List Int) (a1 : Int) : Option (Bool) := (spec_l1Rising.f k l0 0 (wrap64 (a1 - 1))).bind fun t110 => (some t110)
theorem spec_l11Points.mono : ∀ a0 a1 k, LeO (spec_l11Points.f k a0 a1) (spec_l11Points.f (k + 1) a0 a1) := by
 intro a0 a1 k
 unfold spec_l11Points.f
 repeat' first
   | (with_reducible exact spec_l1Rising.mono _ _ _ _)
   | (with_reducible exact LeO.refl _)
   | (with_reducible exact LeO.none _)
   | (with_reducible refine LeO.ite ?_ ?_)
   | (with_reducible refine LeO.bind ?_ (fun _ => ?_))
   | exact spec_l1Rising.mono _ _ _ _
   | exact LeO.none _
   | refine LeO.ite ?_ ?_
   | refine LeO.bind ?_ (fun _ => ?_)
set_option maxHeartbeats 8000000 in
set_option maxRecDepth 100000 in
theorem spec_l11Points.calls (k : Nat) (A0 : Option Addr) (c0 : Nat) (l0 : List Int) (a1 : Int) (r : Bool) (w : World) (hr0 : Kd.C (Kd.int .i64) w A0 l0.length l0) (hc0 : l0.length ≤ c0) (h : spec_l11Points.f k l0 a1 = some r) :
  Calls Try.prog 18 #[.slice A0 l0.length c0, .int .i64 a1] w fun e w' => e = .returned (.bool r) ∧ Drawn0 w w' := by
 have HR0 := am_ hr0
 have HC0 := am_ hc0
 clear hr0 hc0
 have H : ((spec_l1Rising.f k l0 0 (wrap64 (a1 - 1))).bind fun t110 => (some t110)) = some r := h
 clear h
 replace H := Option.bind_eq_some_iff.mp H
 obtain ⟨t110, A30, H⟩ := H
 replace H : (some t110) = some r := H
 have A3 := am_ A30
 clear A30
 obtain rfl := Option.some.inj H
 go_enter Try.func18, Try.ntmps18
 go_wp2_with (first | ((with_reducible refine gate_callee (f := 34) rfl ?_); refine Sh.gL (some 8) Try.func34 #[.slice A0 l0.length c0, .int .i64 0, .int .i64 (wrap64 (a1 - 1))] (h := ?_); (with_reducible refine (spec_l1Rising.calls k _ _ l0 0 (wrap64 (a1 - 1)) t110 _ ?side1 ?side2 A3.out).mono ?_); (case side1 => repeat (first | exact HR0.out | (with_reducible first | refine Kd.C_alloc ?_ _ | refine Kd.C_drewN ?_ _ | refine Kd.C_drew ?_))); (case side2 => exact HC0.out); rintro e w' ⟨rfl, ⟨nd, rfl⟩⟩; refine ⟨_, rfl, ?_⟩))
 go_ret
 exact ⟨by first | rfl | (simp; done) | (simp [*]; done), by repeat (first | exact Drawn0.refl _ | apply Drawn0.step)⟩

end Go.Proofs.Ytijgdncmancolaa.P
namespace Go.Proofs.Ytijgdncmancolaa.P
open Go.RowKit Go.Proofs.YtijgdncmancolaaW.PrintWords Go.Proofs.YtijgdncmancolaaW.PrintLast Go.Proofs.YtijgdncmancolaaW.PrintMore Go.Proofs.Ytijgdncmancolaa.Hof
attribute [local go_sem] max2_int min2_int max_two min_two max_three min_three max_four min_four   -- for this text's walks alone
set_option linter.unusedVariables false
set_option linter.unusedSimpArgs false

/-! ### spec_l11Goals: function 32 -/
def spec_l11Goals.l0 : Nat → Int → List (List Int) → Int → Int → Option (Bool)
 | 0, _, _, _, _ => none
 | k + 1, x1, x10, x11, x12 => if x12 < x11 then (if 0 ≤ x12 then (if x12 < (x10.length : Int) then ((spec_l11Points.f k (rd_L2 x10 x12) x1).bind fun t112 => (if t112 = true then (spec_l11Goals.l0 k x1 x10 x11 (wrap64 (x12 + 1))) else (some false))) else (none)) else (none)) else (some true)
def spec_l11Goals.f (k : Nat) (l0 : List (List Int)) (a1 : Int) : Option (Bool) := if (l0.length : Int) > 6 then (some false) else (spec_l11Goals.l0 k a1 l0 (l0.length : Int) 0)
theorem spec_l11Goals.mono_l : ∀ k, (∀ y0 y1 y2 y3, LeO (spec_l11Goals.l0 k y0 y1 y2 y3) (spec_l11Goals.l0 (k + 1) y0 y1 y2 y3))
 | 0 => fun _ _ _ _ r h => by simp [spec_l11Goals.l0] at h
 | k + 1 => by
  have ih0 := spec_l11Goals.mono_l k
  ·intro y0 y1 y2 y3
   unfold spec_l11Goals.l0
   repeat' first
   | (with_reducible exact ih0 _ _ _ _)
   | (with_reducible exact spec_l11Points.mono _ _ _)
   | (with_reducible exact LeO.refl _)
   | (with_reducible exact LeO.none _)
   | (with_reducible refine LeO.ite ?_ ?_)
   | (with_reducible refine LeO.bind ?_ (fun _ => ?_))
   | exact ih0 _ _ _ _
   | exact spec_l11Points.mono _ _ _
   | exact LeO.none _
   | refine LeO.ite ?_ ?_
   | refine LeO.bind ?_ (fun _ => ?_)
theorem spec_l11Goals.mono : ∀ a0 a1 k, LeO (spec_l11Goals.f k a0 a1) (spec_l11Goals.f (k + 1) a0 a1) := by
 intro a0 a1 k
 have ih0 := spec_l11Goals.mono_l k
 unfold spec_l11Goals.f
 repeat' first
   | (with_reducible exact ih0 _ _ _ _)
   | (with_reducible exact spec_l11Points.mono _ _ _)
   | (with_reducible exact LeO.refl _)
   | (with_reducible exact LeO.none _)
   | (with_reducible refine LeO.ite ?_ ?_)
   | (with_reducible refine LeO.bind ?_ (fun _ => ?_))
   | exact ih0 _ _ _ _
   | exact spec_l11Points.mono _ _ _
   | exact LeO.none _
   | refine LeO.ite ?_ ?_
   | refine LeO.bind ?_ (fun _ => ?_)
set_option maxHeartbeats 8000000 in
set_option maxRecDepth 100000 in
theorem spec_l11Goals.calls (k : Nat) (A0 : Option Addr) (c0 : Nat) (l0 : List (List Int)) (a1 : Int) (r : Bool) (w : World) (hr0 : Kd.C (Kd.slice 3 (Kd.int .i64)) w A0 l0.length l0) (hc0 : l0.length ≤ c0) (h : spec_l11Goals.f k l0 a1 = some r) :
  Calls Try.prog 32 #[.slice A0 l0.length c0, .int .i64 a1] w fun e w' => e = .returned (.bool r) ∧ Drawn0 w w' := by
 have HR0 := am_ hr0
 have HC0 := am_ hc0
 clear hr0 hc0
 have H : (if (l0.length : Int) > 6 then (some false) else (spec_l11Goals.l0 k a1 l0 (l0.length : Int) 0)) = some r := h
 clear h
 by_cases c3 : (l0.length : Int) > 6
 ·rw [if_pos c3] at H
  have c3b0 : decide (6 < (l0.length : Int)) = true := decide_eq_true c3
  have c3b1 : decide (6 < l0.length) = true := decide_eq_true (by omega)
  clear c3
  obtain rfl := Option.some.inj H
  go_enter Try.func32, Try.ntmps32
  go_wp2
  go_ret
  exact ⟨by first | rfl | (simp; done) | (simp [*]; done), by repeat (first | exact Drawn0.refl _ | apply Drawn0.step)⟩
 ·rw [if_neg c3] at H
  have c3b0 : decide (6 < (l0.length : Int)) = false := decide_eq_false c3
  have c3b1 : decide (6 < l0.length) = false := decide_eq_false (by omega)
  clear c3
  have H' := am_ H
  clear H
  go_enter Try.func32, Try.ntmps32
  go_wp2
  go_loopg [12] k (fun kq v12 w' => ∃ (x12_1 : Int), v12 = .int .i64 x12_1 ∧ Aside0 (spec_l11Goals.l0 kq a1 l0 (l0.length : Int) x12_1 = some r) ∧ Aside0 (kq ≤ k) ∧ Drawn0 w w')
  case atStart => exact ⟨(0), (by first | rfl | (simp; done) | (simp [*]; done)), H', ⟨Nat.le_refl _⟩, by repeat (first | exact Drawn0.refl _ | apply Drawn0.step)⟩
  case round =>
   clear H'
   try clear p2
   try clear c3
   try clear c3b0
   try clear c3b1
   obtain ⟨x12_1, rfl, HA, HK1, ⟨m1, rfl⟩⟩ := hrel
   cases gk with
   | zero => exact absurd HA.out (by simp [spec_l11Goals.l0])
   | succ k1 =>
    have H := HA.out
    clear HA
    simp only [spec_l11Goals.l0] at H
    by_cases c4 : x12_1 < (l0.length : Int)
    ·rw [if_pos c4] at H
     have c4b0 : decide (x12_1 < (l0.length : Int)) = true := decide_eq_true c4
     clear c4
     by_cases c5 : 0 ≤ x12_1
     ·rw [if_pos c5] at H
      have c5b0 : decide (0 ≤ x12_1) = true := decide_eq_true c5
      clear c5
      by_cases c6 : x12_1 < (l0.length : Int)
      ·rw [if_pos c6] at H
       have c6b0 : decide (x12_1 < (l0.length : Int)) = true := decide_eq_true c6
       clear c6
       replace H := Option.bind_eq_some_iff.mp H
       obtain ⟨t112, A70, H⟩ := H
       replace H : (if t112 = true then (spec_l11Goals.l0 k1 a1 l0 (l0.length : Int) (wrap64 (x12_1 + 1))) else (some false)) = some r := H
       have A7 := am_ A70
       clear A70
       by_cases c8 : t112 = true
       ·subst c8
        have H1 : (spec_l11Goals.l0 k1 a1 l0 (l0.length : Int) (wrap64 (x12_1 + 1))) = some r := by rw [if_pos rfl] at H; exact H
        clear H
        have H := H1
        clear H1
        have H' := am_ H
        clear H
        have p111 : 0 ≤ (x12_1 : Int) := of_decide_eq_true (by first | (with_reducible assumption) | assumption)
        have q111 : x12_1 < (l0.length : Int) := of_decide_eq_true (by first | (with_reducible assumption) | assumption)
        obtain ⟨ad111, A111_0, c111_0, e111, hx111_0, hl111_0, hi111_0⟩ := at_L2 HR0.out x12_1 p111 q111
        cases e111
        have HR111_0 := am_ hi111_0
        have HC111_0 := am_ hl111_0
        clear hi111_0 hl111_0
        replace p111 := eq_true p111
        replace q111 := eq_true q111
        go_wp2_with (first | ((with_reducible refine gate_callee (f := 18) rfl ?_); refine Sh.gL (some 18) Try.func18 #[.slice A111_0 (rd_L2 l0 x12_1).length c111_0, .int .i64 a1] (h := ?_); (with_reducible refine (spec_l11Points.calls k1 _ _ (rd_L2 l0 x12_1) a1 true _ ?side1 ?side2 A7.out).mono ?_); (case side1 => repeat (first | exact HR111_0.out | (with_reducible first | refine Kd.C_alloc ?_ _ | refine Kd.C_drewN ?_ _ | refine Kd.C_drew ?_))); (case side2 => exact HC111_0.out); rintro e w' ⟨rfl, ⟨nd, rfl⟩⟩; refine ⟨_, rfl, ?_⟩))
        go_roundg k1
        case measure => have := HK1.out; omega
        case rel => exact ⟨(wrap64 (x12_1 + 1)), (by first | rfl | (simp; done) | (simp [*]; done)), H', ⟨by have := HK1.out; omega⟩, by repeat (first | exact Drawn0.refl _ | apply Drawn0.step)⟩
       ·replace c8 := Bool.eq_false_iff.mpr c8
        subst c8
        have H1 : (some false) = some r := by rw [if_neg (show ¬ (false = true) by decide)] at H; exact H
        clear H
        have H := H1
        clear H1
        obtain rfl := Option.some.inj H
        have p111 : 0 ≤ (x12_1 : Int) := of_decide_eq_true (by first | (with_reducible assumption) | assumption)
        have q111 : x12_1 < (l0.length : Int) := of_decide_eq_true (by first | (with_reducible assumption) | assumption)
        obtain ⟨ad111, A111_0, c111_0, e111, hx111_0, hl111_0, hi111_0⟩ := at_L2 HR0.out x12_1 p111 q111
        cases e111
        have HR111_0 := am_ hi111_0
        have HC111_0 := am_ hl111_0
        clear hi111_0 hl111_0
        replace p111 := eq_true p111
        replace q111 := eq_true q111
        go_wp2_with (first | ((with_reducible refine gate_callee (f := 18) rfl ?_); refine Sh.gL (some 18) Try.func18 #[.slice A111_0 (rd_L2 l0 x12_1).length c111_0, .int .i64 a1] (h := ?_); (with_reducible refine (spec_l11Points.calls k1 _ _ (rd_L2 l0 x12_1) a1 false _ ?side1 ?side2 A7.out).mono ?_); (case side1 => repeat (first | exact HR111_0.out | (with_reducible first | refine Kd.C_alloc ?_ _ | refine Kd.C_drewN ?_ _ | refine Kd.C_drew ?_))); (case side2 => exact HC111_0.out); rintro e w' ⟨rfl, ⟨nd, rfl⟩⟩; refine ⟨_, rfl, ?_⟩))
        go_ret
        exact ⟨by first | rfl | (simp; done) | (simp [*]; done), by repeat (first | exact Drawn0.refl _ | apply Drawn0.step)⟩
      ·rw [if_neg c6] at H
       exact absurd H (by simp)
     ·rw [if_neg c5] at H
      exact absurd H (by simp)
    ·rw [if_neg c4] at H
     have c4b0 : decide (x12_1 < (l0.length : Int)) = false := decide_eq_false c4
     clear c4
     obtain rfl := Option.some.inj H
     go_wp2
     go_ret
     exact ⟨by first | rfl | (simp; done) | (simp [*]; done), by repeat (first | exact Drawn0.refl _ | apply Drawn0.step)⟩

end Go.Proofs.Ytijgdncmancolaa.P
namespace Go.Proofs.Ytijgdncmancolaa.P
open Go.RowKit Go.Proofs.YtijgdncmancolaaW.PrintWords Go.Proofs.YtijgdncmancolaaW.PrintLast Go.Proofs.YtijgdncmancolaaW.PrintMore Go.Proofs.Ytijgdncmancolaa.Hof
attribute [local go_sem] max2_int min2_int max_two min_two max_three min_three max_four min_four   -- for this text's walks alone
set_option linter.unusedVariables false
set_option linter.unusedSimpArgs false

/-! ### spec_l12Less: function 33 -/
def spec_l12Less.f (a0_0 : Int) (a0_1 : Int) (a0_2 : Int) (a1_0 : Int) (a1_1 : Int) (a1_2 : Int) : Option (Bool) := if a0_0 = a1_0 then (if a0_1 = a1_1 then (some (decide (a0_2 < a1_2))) else (some (decide (a0_1 < a1_1)))) else (some (decide (a0_0 < a1_0)))
set_option maxHeartbeats 8000000 in
set_option maxRecDepth 100000 in
theorem spec_l12Less.calls (a0_0 : Int) (a0_1 : Int) (a0_2 : Int) (a1_0 : Int) (a1_1 : Int) (a1_2 : Int) (r : Bool) (w : World) (h : spec_l12Less.f a0_0 a0_1 a0_2 a1_0 a1_1 a1_2 = some r) :
  Calls Try.prog 33 #[.agg #[.int .i64 a0_0, .int .i64 a0_1, .int .i64 a0_2], .agg #[.int .i64 a1_0, .int .i64 a1_1, .int .i64 a1_2]] w fun e w' => e = .returned (.bool r) ∧ Below w.heap.size w w' := by
 have hu51 := Try.underlying51
 have HB := am_ (Below.refl w.heap.size w)
 have H : (if a0_0 = a1_0 then (if a0_1 = a1_1 then (some (decide (a0_2 < a1_2))) else (some (decide (a0_1 < a1_1)))) else (some (decide (a0_0 < a1_0)))) = some r := h
 clear h
 by_cases c3 : a0_0 = a1_0
 ·rw [if_pos c3] at H
  have c3b0 : (a0_0 == a1_0) = true := beq_iff_eq.mpr c3
  have c3b1 : (a0_0 != a1_0) = false := bne_eq_false_iff_eq.mpr c3
  clear c3
  by_cases c4 : a0_1 = a1_1
  ·rw [if_pos c4] at H
   have c4b0 : (a0_1 == a1_1) = true := beq_iff_eq.mpr c4
   have c4b1 : (a0_1 != a1_1) = false := bne_eq_false_iff_eq.mpr c4
   clear c4
   obtain rfl := Option.some.inj H
   go_enter Try.func33, Try.ntmps33
   go_wp2_with (first | ((with_reducible refine gate_dst (N := 2) rfl ?_); refine Sh.bx (N := 2) (cs := #[.int .i64 a0_0, .int .i64 a0_1, .int .i64 a0_2]) (t := 51) (h := ?_); intro gb113 hg w5 hbox hb; have n0_ := am_ (below_step Sh.bw hb); have n1_ := am_ (hbox); have n2_ := am_ (Sh.gw (w := w) hg); have n3_ := am_ (Sh.gw (w := w) hg); clear HB; have HB := n0_; have BK113 := n1_; have GW113 := n2_; have GE113 := n3_; clear n0_ n1_ n2_ n3_; clear hb hbox hg) | ((with_reducible refine gate_dst (N := 3) rfl ?_); refine Sh.bx (N := 3) (cs := #[.int .i64 a1_0, .int .i64 a1_1, .int .i64 a1_2]) (t := 51) (h := ?_); intro gb114 hg w6 hbox hb; have n0_ := am_ (Sh.bb BK113.out hb); have n1_ := am_ (below_step Sh.bw hb); have n2_ := am_ (hbox); have n3_ := am_ (Sh.gw (w := w) hg); have n4_ := am_ (Sh.gw (w := w) hg); have n5_ := am_ (Sh.nl hg BK113.out); have n6_ := am_ (Sh.ng hg BK113.out); clear BK113; clear HB; have BK113 := n0_; have HB := n1_; have BK114 := n2_; have GW114 := n3_; have GE114 := n4_; have NB113_114 := n5_; have NB114_113 := n6_; clear n0_ n1_ n2_ n3_ n4_ n5_ n6_; clear hb hbox hg; have hnb7 := NB113_114.out; have hnc7 := NB114_113.out; have hcz8_0 := Sh.bc BK113.out 0; have hcz8_1 := Sh.bc BK113.out 1; have hcz8_2 := Sh.bc BK113.out 2; have hfz8_0 := blk_frozen BK113.out 0; have hfz8_1 := blk_frozen BK113.out 1; have hfz8_2 := blk_frozen BK113.out 2; have hcz9_0 := Sh.bc BK114.out 0; have hcz9_1 := Sh.bc BK114.out 1; have hcz9_2 := Sh.bc BK114.out 2; have hfz9_0 := blk_frozen BK114.out 0; have hfz9_1 := blk_frozen BK114.out 1; have hfz9_2 := blk_frozen BK114.out 2))
   go_ret
   exact ⟨Sh.eR, Sh.bw⟩
  ·rw [if_neg c4] at H
   have c4b0 : (a0_1 == a1_1) = false := beq_eq_false_iff_ne.mpr c4
   have c4b1 : (a0_1 != a1_1) = true := bne_iff_ne.mpr c4
   obtain rfl := Option.some.inj H
   go_enter Try.func33, Try.ntmps33
   go_wp2_with (first | ((with_reducible refine gate_dst (N := 2) rfl ?_); refine Sh.bx (N := 2) (cs := #[.int .i64 a0_0, .int .i64 a0_1, .int .i64 a0_2]) (t := 51) (h := ?_); intro gb113 hg w10 hbox hb; have n0_ := am_ (below_step Sh.bw hb); have n1_ := am_ (hbox); have n2_ := am_ (Sh.gw (w := w) hg); have n3_ := am_ (Sh.gw (w := w) hg); clear HB; have HB := n0_; have BK113 := n1_; have GW113 := n2_; have GE113 := n3_; clear n0_ n1_ n2_ n3_; clear hb hbox hg) | ((with_reducible refine gate_dst (N := 3) rfl ?_); refine Sh.bx (N := 3) (cs := #[.int .i64 a1_0, .int .i64 a1_1, .int .i64 a1_2]) (t := 51) (h := ?_); intro gb114 hg w11 hbox hb; have n0_ := am_ (Sh.bb BK113.out hb); have n1_ := am_ (below_step Sh.bw hb); have n2_ := am_ (hbox); have n3_ := am_ (Sh.gw (w := w) hg); have n4_ := am_ (Sh.gw (w := w) hg); have n5_ := am_ (Sh.nl hg BK113.out); have n6_ := am_ (Sh.ng hg BK113.out); clear BK113; clear HB; have BK113 := n0_; have HB := n1_; have BK114 := n2_; have GW114 := n3_; have GE114 := n4_; have NB113_114 := n5_; have NB114_113 := n6_; clear n0_ n1_ n2_ n3_ n4_ n5_ n6_; clear hb hbox hg; have hnb12 := NB113_114.out; have hnc12 := NB114_113.out; have hcz13_0 := Sh.bc BK113.out 0; have hcz13_1 := Sh.bc BK113.out 1; have hcz13_2 := Sh.bc BK113.out 2; have hfz13_0 := blk_frozen BK113.out 0; have hfz13_1 := blk_frozen BK113.out 1; have hfz13_2 := blk_frozen BK113.out 2; have hcz14_0 := Sh.bc BK114.out 0; have hcz14_1 := Sh.bc BK114.out 1; have hcz14_2 := Sh.bc BK114.out 2; have hfz14_0 := blk_frozen BK114.out 0; have hfz14_1 := blk_frozen BK114.out 1; have hfz14_2 := blk_frozen BK114.out 2))
   go_ret
   exact ⟨Sh.eR, Sh.bw⟩
 ·rw [if_neg c3] at H
  have c3b0 : (a0_0 == a1_0) = false := beq_eq_false_iff_ne.mpr c3
  have c3b1 : (a0_0 != a1_0) = true := bne_iff_ne.mpr c3
  obtain rfl := Option.some.inj H
  go_enter Try.func33, Try.ntmps33
  go_wp2_with (first | ((with_reducible refine gate_dst (N := 2) rfl ?_); refine Sh.bx (N := 2) (cs := #[.int .i64 a0_0, .int .i64 a0_1, .int .i64 a0_2]) (t := 51) (h := ?_); intro gb113 hg w15 hbox hb; have n0_ := am_ (below_step Sh.bw hb); have n1_ := am_ (hbox); have n2_ := am_ (Sh.gw (w := w) hg); have n3_ := am_ (Sh.gw (w := w) hg); clear HB; have HB := n0_; have BK113 := n1_; have GW113 := n2_; have GE113 := n3_; clear n0_ n1_ n2_ n3_; clear hb hbox hg) | ((with_reducible refine gate_dst (N := 3) rfl ?_); refine Sh.bx (N := 3) (cs := #[.int .i64 a1_0, .int .i64 a1_1, .int .i64 a1_2]) (t := 51) (h := ?_); intro gb114 hg w16 hbox hb; have n0_ := am_ (Sh.bb BK113.out hb); have n1_ := am_ (below_step Sh.bw hb); have n2_ := am_ (hbox); have n3_ := am_ (Sh.gw (w := w) hg); have n4_ := am_ (Sh.gw (w := w) hg); have n5_ := am_ (Sh.nl hg BK113.out); have n6_ := am_ (Sh.ng hg BK113.out); clear BK113; clear HB; have BK113 := n0_; have HB := n1_; have BK114 := n2_; have GW114 := n3_; have GE114 := n4_; have NB113_114 := n5_; have NB114_113 := n6_; clear n0_ n1_ n2_ n3_ n4_ n5_ n6_; clear hb hbox hg; have hnb17 := NB113_114.out; have hnc17 := NB114_113.out; have hcz18_0 := Sh.bc BK113.out 0; have hcz18_1 := Sh.bc BK113.out 1; have hcz18_2 := Sh.bc BK113.out 2; have hfz18_0 := blk_frozen BK113.out 0; have hfz18_1 := blk_frozen BK113.out 1; have hfz18_2 := blk_frozen BK113.out 2; have hcz19_0 := Sh.bc BK114.out 0; have hcz19_1 := Sh.bc BK114.out 1; have hcz19_2 := Sh.bc BK114.out 2; have hfz19_0 := blk_frozen BK114.out 0; have hfz19_1 := blk_frozen BK114.out 1; have hfz19_2 := blk_frozen BK114.out 2))
  go_ret
  exact ⟨Sh.eR, Sh.bw⟩

end Go.Proofs.Ytijgdncmancolaa.P
namespace Go.Proofs.Ytijgdncmancolaa.P
open Go.RowKit Go.Proofs.YtijgdncmancolaaW.PrintWords Go.Proofs.YtijgdncmancolaaW.PrintLast Go.Proofs.YtijgdncmancolaaW.PrintMore Go.Proofs.Ytijgdncmancolaa.Hof
attribute [local go_sem] max2_int min2_int max_two min_two max_three min_three max_four min_four   -- for this text's walks alone
set_option linter.unusedVariables false
set_option linter.unusedSimpArgs false

/-! ### spec_GoodAuto: function 17 -/
mutual
def spec_GoodAuto.j0 : Nat → Bool → Int → List Int → List (S51) → List (List Int) → Option (Bool)
 | 0, _, _, _, _, _ => none
 | k + 1, x30, x116000, x116001, x116002, x116003 => if x30 = true then (some false) else (spec_GoodAuto.l0 k x116002 (x116002.length : Int) 0 x116000 x116001 x116002 x116003)
def spec_GoodAuto.l0 : Nat → List (S51) → Int → Int → Int → List Int → List (S51) → List (List Int) → Option (Bool)
 | 0, _, _, _, _, _, _, _ => none
 | k + 1, x32, x33, x34, x116000, x116001, x116002, x116003 => if x34 < x33 then (if 0 ≤ x34 then (if x34 < (x32.length : Int) then ((spec_l1In.f ((rd_T51 x32 x34).f0) 0 (wrap64 (x116000 - 1))).bind fun t121 => (if t121 = true then ((spec_l1In.f ((rd_T51 x32 x34).f1) 0 7).bind fun t122 => (if t122 = true then ((spec_l1In.f ((rd_T51 x32 x34).f2) 0 (wrap64 (x116000 - 1))).bind fun t123 => (if t123 = true then (if x34 > 0 then (if 0 ≤ (wrap64 (x34 - 1)) then (if (wrap64 (x34 - 1)) < (x116002.length : Int) then ((spec_l12Less.f ((rd_T51 x116002 (wrap64 (x34 - 1))).f0) ((rd_T51 x116002 (wrap64 (x34 - 1))).f1) ((rd_T51 x116002 (wrap64 (x34 - 1))).f2) ((rd_T51 x32 x34).f0) ((rd_T51 x32 x34).f1) ((rd_T51 x32 x34).f2)).bind fun t125 => (if t125 = true then (spec_GoodAuto.l0 k x32 x33 (wrap64 (x34 + 1)) x116000 x116001 x116002 x116003) else (some false))) else (none)) else (none)) else (spec_GoodAuto.l0 k x32 x33 (wrap64 (x34 + 1)) x116000 x116001 x116002 x116003)) else (some false))) else (some false))) else (some false))) else (none)) else (none)) else (some true)
end
def spec_GoodAuto.f (k : Nat) (a0_0 : Int) (l0_1 : List Int) (l0_2 : List (S51)) (l0_3 : List (List Int)) : Option (Bool) := (spec_l1In.f a0_0 1 96).bind fun t116 => (if t116 = true then ((spec_l11Points.f k l0_1 a0_0).bind fun t117 => (if t117 = true then (if (l0_2.length : Int) > 2400 then (spec_GoodAuto.j0 k true a0_0 l0_1 l0_2 l0_3) else ((spec_l11Goals.f k l0_3 a0_0).bind fun t118 => (spec_GoodAuto.j0 k (!t118) a0_0 l0_1 l0_2 l0_3))) else (spec_GoodAuto.j0 k true a0_0 l0_1 l0_2 l0_3))) else (spec_GoodAuto.j0 k true a0_0 l0_1 l0_2 l0_3))
theorem spec_GoodAuto.mono_l : ∀ k, (∀ y0 y1 y2 y3 y4, LeO (spec_GoodAuto.j0 k y0 y1 y2 y3 y4) (spec_GoodAuto.j0 (k + 1) y0 y1 y2 y3 y4)) ∧ (∀ y0 y1 y2 y3 y4 y5 y6, LeO (spec_GoodAuto.l0 k y0 y1 y2 y3 y4 y5 y6) (spec_GoodAuto.l0 (k + 1) y0 y1 y2 y3 y4 y5 y6))
 | 0 => ⟨fun _ _ _ _ _ r h => by simp [spec_GoodAuto.j0] at h, fun _ _ _ _ _ _ _ r h => by simp [spec_GoodAuto.l0] at h⟩
 | k + 1 => by
  obtain ⟨ih0, ih1⟩ := spec_GoodAuto.mono_l k
  refine ⟨?_, ?_⟩
  ·intro y0 y1 y2 y3 y4
   unfold spec_GoodAuto.j0
   repeat' first
   | (with_reducible exact ih0 _ _ _ _ _)
   | (with_reducible exact ih1 _ _ _ _ _ _ _)
   | (with_reducible exact spec_l11Goals.mono _ _ _)
   | (with_reducible exact spec_l11Points.mono _ _ _)
   | (with_reducible exact LeO.refl _)
   | (with_reducible exact LeO.none _)
   | (with_reducible refine LeO.ite ?_ ?_)
   | (with_reducible refine LeO.bind ?_ (fun _ => ?_))
   | exact ih0 _ _ _ _ _
   | exact ih1 _ _ _ _ _ _ _
   | exact spec_l11Goals.mono _ _ _
   | exact spec_l11Points.mono _ _ _
   | exact LeO.none _
   | refine LeO.ite ?_ ?_
   | refine LeO.bind ?_ (fun _ => ?_)
  ·intro y0 y1 y2 y3 y4 y5 y6
   unfold spec_GoodAuto.l0
   repeat' first
   | (with_reducible exact ih0 _ _ _ _ _)
   | (with_reducible exact ih1 _ _ _ _ _ _ _)
   | (with_reducible exact spec_l11Goals.mono _ _ _)
   | (with_reducible exact spec_l11Points.mono _ _ _)
   | (with_reducible exact LeO.refl _)
   | (with_reducible exact LeO.none _)
   | (with_reducible refine LeO.ite ?_ ?_)
   | (with_reducible refine LeO.bind ?_ (fun _ => ?_))
   | exact ih0 _ _ _ _ _
   | exact ih1 _ _ _ _ _ _ _
   | exact spec_l11Goals.mono _ _ _
   | exact spec_l11Points.mono _ _ _
   | exact LeO.none _
   | refine LeO.ite ?_ ?_
   | refine LeO.bind ?_ (fun _ => ?_)
theorem spec_GoodAuto.mono : ∀ a0 a1 a2 a3 k, LeO (spec_GoodAuto.f k a0 a1 a2 a3) (spec_GoodAuto.f (k + 1) a0 a1 a2 a3) := by
 intro a0 a1 a2 a3 k
 obtain ⟨ih0, ih1⟩ := spec_GoodAuto.mono_l k
 unfold spec_GoodAuto.f
 repeat' first
   | (with_reducible exact ih0 _ _ _ _ _)
   | (with_reducible exact ih1 _ _ _ _ _ _ _)
   | (with_reducible exact spec_l11Goals.mono _ _ _)
   | (with_reducible exact spec_l11Points.mono _ _ _)
   | (with_reducible exact LeO.refl _)
   | (with_reducible exact LeO.none _)
   | (with_reducible refine LeO.ite ?_ ?_)
   | (with_reducible refine LeO.bind ?_ (fun _ => ?_))
   | exact ih0 _ _ _ _ _
   | exact ih1 _ _ _ _ _ _ _
   | exact spec_l11Goals.mono _ _ _
   | exact spec_l11Points.mono _ _ _
   | exact LeO.none _
   | refine LeO.ite ?_ ?_
   | refine LeO.bind ?_ (fun _ => ?_)
def spec_GoodAuto.T6 : Bool × List (List Nat × List Nat) := (true, [([], []), ([0], [0]), ([], []), ([2], [2]), ([3], [3]), ([1, 4], [1, 4]), ([5], [5]), ([6, 5], [6]), ([7], [7]), ([8, 7], [7, 8]), ([9, 7, 7], [7, 9]), ([10, 7], [7, 10]), ([7, 11], [7, 11]), ([12, 10], [12]), ([13], [13]), ([14, 13], [13, 14]), ([13], [13]), ([16, 13], [13, 16]), ([17, 13], [13, 17]), ([15, 18, 13, 13], [13, 15, 18]), ([19, 13], [13, 19]), ([13, 20], [13, 20]), ([21, 19], [21]), ([22], [22]), ([23, 22], [22, 23]), ([24, 22, 22], [22, 24]), ([25], [25]), ([26, 25], [25, 26]), ([25], [25]), ([28, 25], [25, 28]), ([27, 29, 25], [25, 27, 29]), ([30, 25], [25, 30]), ([25], [25]), ([31, 32, 25, 25], [25, 31, 32]), ([33, 25], [25, 33]), ([25, 34, 22], [22, 25, 34]), ([22, 35], [22, 35])])
def spec_GoodAuto.B6 : List Nat := [0, 1, 0, 4, 12, 31, 63, 127, 255, 511, 1023, 2047, 4095, 8191, 16383, 32767, 16383, 81919, 212991, 524287, 1048575, 2097151, 4194303, 8388607, 16777215, 33554431, 67108863, 134217727, 67108863, 335544319, 1073741823, 2147483647, 67108863, 8589934591, 17179869183, 34359738367, 68719476735]
theorem spec_GoodAuto.tab6 : rtab .any (opsOf Try.f17 6) = spec_GoodAuto.T6 := by kernel_rfl
theorem spec_GoodAuto.bits6 : waitsOk spec_GoodAuto.T6.2 spec_GoodAuto.B6 = true := by kernel_rfl
set_option maxHeartbeats 8000000 in
set_option maxRecDepth 100000 in
theorem spec_GoodAuto.calls (k : Nat) (a0_0 : Int) (A0_1 : Option Addr) (c0_1 : Nat) (l0_1 : List Int) (A0_2 : Option Addr) (c0_2 : Nat) (l0_2 : List (S51)) (A0_3 : Option Addr) (c0_3 : Nat) (l0_3 : List (List Int)) (r : Bool) (w : World) (hr0_1 : Kd.C (Kd.int .i64) w A0_1 l0_1.length l0_1) (hc0_1 : l0_1.length ≤ c0_1) (hr0_2 : Kd.C k51 w A0_2 l0_2.length l0_2) (hc0_2 : l0_2.length ≤ c0_2) (hr0_3 : Kd.C (Kd.slice 3 (Kd.int .i64)) w A0_3 l0_3.length l0_3) (hc0_3 : l0_3.length ≤ c0_3) (h : spec_GoodAuto.f k a0_0 l0_1 l0_2 l0_3 = some r) :
  Calls Try.prog 17 #[.agg #[.int .i64 a0_0, .slice A0_1 l0_1.length c0_1, .slice A0_2 l0_2.length c0_2, .slice A0_3 l0_3.length c0_3]] w fun e w' => e = .returned (.bool r) ∧ Below w.heap.size w w' := by
 have hu32 := Try.underlying32
 have hu51 := Try.underlying51
 have HR0_1 := am_ hr0_1
 have HC0_1 := am_ hc0_1
 clear hr0_1 hc0_1
 have HR0_2 := am_ hr0_2
 have HC0_2 := am_ hc0_2
 clear hr0_2 hc0_2
 have HR0_3 := am_ hr0_3
 have HC0_3 := am_ hc0_3
 clear hr0_3 hc0_3
 have HB := am_ (Below.refl w.heap.size w)
 have H : ((spec_l1In.f a0_0 1 96).bind fun t116 => (if t116 = true then ((spec_l11Points.f k l0_1 a0_0).bind fun t117 => (if t117 = true then (if (l0_2.length : Int) > 2400 then (spec_GoodAuto.j0 k true a0_0 l0_1 l0_2 l0_3) else ((spec_l11Goals.f k l0_3 a0_0).bind fun t118 => (spec_GoodAuto.j0 k (!t118) a0_0 l0_1 l0_2 l0_3))) else (spec_GoodAuto.j0 k true a0_0 l0_1 l0_2 l0_3))) else (spec_GoodAuto.j0 k true a0_0 l0_1 l0_2 l0_3))) = some r := h
 clear h
 have HC2 := am_ H
 clear H
 go_enter Try.func17, Try.ntmps17
 go_upto_region 1 with (first | ((with_reducible refine gate_dst (N := 1) rfl ?_); (try (refine gate_guard (by rfl) ?_; dsimp only)); refine Sh.bx (N := 1) (cs := #[.int .i64 a0_0, .slice A0_1 l0_1.length c0_1, .slice A0_2 l0_2.length c0_2, .slice A0_3 l0_3.length c0_3]) (t := 32) (h := ?_); intro gb115 hg w3 hbox hb; have n0_ := am_ (below_step Sh.bw hb); have n1_ := am_ (hbox); have n2_ := am_ (Sh.gw (w := w) hg); have n3_ := am_ (Sh.gw (w := w) hg); clear HB; have HB := n0_; have BK115 := n1_; have GW115 := n2_; have GE115 := n3_; clear n0_ n1_ n2_ n3_; clear hb hbox hg))
 (try simp only [Act.put, List.setIfInBounds_toArray, List.set_cons_zero, List.set_cons_succ])
 go_cut [30] (fun v30 wc => ∃ (kq : Nat) (x30_1 : Bool), v30 = .bool x30_1 ∧ Aside0 (spec_GoodAuto.j0 kq x30_1 a0_0 l0_1 l0_2 l0_3 = some r) ∧ Aside0 (kq ≤ k) ∧ Aside0 (wc.heap[gb115]? = some (.cells #[.int .i64 a0_0, (.slice A0_1 l0_1.length c0_1), (.slice A0_2 l0_2.length c0_2), (.slice A0_3 l0_3.length c0_3)] 32 (0, 0))) ∧ Aside0 (Below w.heap.size w wc))
 case first =>
  have H := HC2.out
  clear HC2
  replace H := Option.bind_eq_some_iff.mp H
  obtain ⟨t116, A40, H⟩ := H
  replace H : (if t116 = true then ((spec_l11Points.f k l0_1 a0_0).bind fun t117 => (if t117 = true then (if (l0_2.length : Int) > 2400 then (spec_GoodAuto.j0 k true a0_0 l0_1 l0_2 l0_3) else ((spec_l11Goals.f k l0_3 a0_0).bind fun t118 => (spec_GoodAuto.j0 k (!t118) a0_0 l0_1 l0_2 l0_3))) else (spec_GoodAuto.j0 k true a0_0 l0_1 l0_2 l0_3))) else (spec_GoodAuto.j0 k true a0_0 l0_1 l0_2 l0_3)) = some r := H
  have A4 := am_ A40
  clear A40
  by_cases c5 : t116 = true
  ·subst c5
   have H1 : ((spec_l11Points.f k l0_1 a0_0).bind fun t117 => (if t117 = true then (if (l0_2.length : Int) > 2400 then (spec_GoodAuto.j0 k true a0_0 l0_1 l0_2 l0_3) else ((spec_l11Goals.f k l0_3 a0_0).bind fun t118 => (spec_GoodAuto.j0 k (!t118) a0_0 l0_1 l0_2 l0_3))) else (spec_GoodAuto.j0 k true a0_0 l0_1 l0_2 l0_3))) = some r := by rw [if_pos rfl] at H; exact H
   clear H
   have H := H1
   clear H1
   replace H := Option.bind_eq_some_iff.mp H
   obtain ⟨t117, A60, H⟩ := H
   replace H : (if t117 = true then (if (l0_2.length : Int) > 2400 then (spec_GoodAuto.j0 k true a0_0 l0_1 l0_2 l0_3) else ((spec_l11Goals.f k l0_3 a0_0).bind fun t118 => (spec_GoodAuto.j0 k (!t118) a0_0 l0_1 l0_2 l0_3))) else (spec_GoodAuto.j0 k true a0_0 l0_1 l0_2 l0_3)) = some r := H
   have A6 := am_ A60
   clear A60
   by_cases c7 : t117 = true
   ·subst c7
    have H1 : (if (l0_2.length : Int) > 2400 then (spec_GoodAuto.j0 k true a0_0 l0_1 l0_2 l0_3) else ((spec_l11Goals.f k l0_3 a0_0).bind fun t118 => (spec_GoodAuto.j0 k (!t118) a0_0 l0_1 l0_2 l0_3))) = some r := by rw [if_pos rfl] at H; exact H
    clear H
    have H := H1
    clear H1
    by_cases c8 : (l0_2.length : Int) > 2400
    ·rw [if_pos c8] at H
     have c8b0 : decide (2400 < (l0_2.length : Int)) = true := decide_eq_true c8
     have c8b1 : decide (2400 < l0_2.length) = true := decide_eq_true (by omega)
     clear c8
     (first | rw [c8b0] | (simp only [i64_w, i32_w]; rw [c8b0]) | skip)
     have H' := am_ H
     clear H
     have hcz9_0 := Sh.bc BK115.out 0
     have hcz9_1 := Sh.bc BK115.out 1
     have hcz9_2 := Sh.bc BK115.out 2
     have hcz9_3 := Sh.bc BK115.out 3
     have hfz9_0 := blk_frozen BK115.out 0
     have hfz9_1 := blk_frozen BK115.out 1
     have hfz9_2 := blk_frozen BK115.out 2
     have hfz9_3 := blk_frozen BK115.out 3
     go_wp2_with (first | ((with_reducible refine gate_callee (f := 19) rfl ?_); refine Sh.gL (some 7) Try.func19 #[.int .i64 a0_0, .int .i64 1, .int .i64 96] (h := ?_); (with_reducible refine (spec_l1In.calls a0_0 1 96 true _ A4.out).mono ?_); rintro e w' ⟨rfl, ⟨nd, rfl⟩⟩; refine ⟨_, rfl, ?_⟩) | (go_at_call 18; (with_reducible refine (spec_l11Points.calls k _ _ l0_1 a0_0 true _ ?side1 ?side2 A6.out).mono ?_); (case side1 => repeat (first | exact (Kd.C_below HR0_1.out Sh.bw) | (with_reducible first | refine Kd.C_alloc ?_ _ | refine Kd.C_drewN ?_ _ | refine Kd.C_drew ?_))); (case side2 => exact HC0_1.out); rintro e w' ⟨rfl, ⟨nd, rfl⟩⟩))
     go_meet
     case rel => exact ⟨_, (true), (by first | rfl | (simp; done) | (simp [*]; done)), H', ⟨by first | omega | exact Nat.le_refl _⟩, ⟨by (with_reducible repeat (first | refine blk_drewN ?_ _ | refine blk_drew ?_ | refine blk_alloc ?_ _)); exact BK115.out⟩, ⟨by repeat (first | (with_reducible first | exact HB.out | apply below_alloc | apply pw_below_drewN | apply below_drew1 | refine below_set ?_ GE115.out) | exact HB.out)⟩⟩
    ·rw [if_neg c8] at H
     have c8b0 : decide (2400 < (l0_2.length : Int)) = false := decide_eq_false c8
     have c8b1 : decide (2400 < l0_2.length) = false := decide_eq_false (by omega)
     clear c8
     (first | rw [c8b0] | (simp only [i64_w, i32_w]; rw [c8b0]) | skip)
     replace H := Option.bind_eq_some_iff.mp H
     obtain ⟨t118, A100, H⟩ := H
     replace H : (spec_GoodAuto.j0 k (!t118) a0_0 l0_1 l0_2 l0_3) = some r := H
     have A10 := am_ A100
     clear A100
     have H' := am_ H
     clear H
     have hcz11_0 := Sh.bc BK115.out 0
     have hcz11_1 := Sh.bc BK115.out 1
     have hcz11_2 := Sh.bc BK115.out 2
     have hcz11_3 := Sh.bc BK115.out 3
     have hfz11_0 := blk_frozen BK115.out 0
     have hfz11_1 := blk_frozen BK115.out 1
     have hfz11_2 := blk_frozen BK115.out 2
     have hfz11_3 := blk_frozen BK115.out 3
     go_wp2_with (first | ((with_reducible refine gate_callee (f := 19) rfl ?_); refine Sh.gL (some 7) Try.func19 #[.int .i64 a0_0, .int .i64 1, .int .i64 96] (h := ?_); (with_reducible refine (spec_l1In.calls a0_0 1 96 true _ A4.out).mono ?_); rintro e w' ⟨rfl, ⟨nd, rfl⟩⟩; refine ⟨_, rfl, ?_⟩) | (go_at_call 18; (with_reducible refine (spec_l11Points.calls k _ _ l0_1 a0_0 true _ ?side1 ?side2 A6.out).mono ?_); (case side1 => repeat (first | exact (Kd.C_below HR0_1.out Sh.bw) | (with_reducible first | refine Kd.C_alloc ?_ _ | refine Kd.C_drewN ?_ _ | refine Kd.C_drew ?_))); (case side2 => exact HC0_1.out); rintro e w' ⟨rfl, ⟨nd, rfl⟩⟩) | (go_at_call 32; (with_reducible refine (spec_l11Goals.calls k _ _ l0_3 a0_0 t118 _ ?side1 ?side2 A10.out).mono ?_); (case side1 => repeat (first | exact (Kd.C_below HR0_3.out Sh.bw) | (with_reducible first | refine Kd.C_alloc ?_ _ | refine Kd.C_drewN ?_ _ | refine Kd.C_drew ?_))); (case side2 => exact HC0_3.out); rintro e w' ⟨rfl, ⟨nd, rfl⟩⟩))
     go_meet
     case rel => exact ⟨_, (!t118), (by first | rfl | (simp; done) | (simp [*]; done)), H', ⟨by first | omega | exact Nat.le_refl _⟩, ⟨by (with_reducible repeat (first | refine blk_drewN ?_ _ | refine blk_drew ?_ | refine blk_alloc ?_ _)); exact BK115.out⟩, ⟨by repeat (first | (with_reducible first | exact HB.out | apply below_alloc | apply pw_below_drewN | apply below_drew1 | refine below_set ?_ GE115.out) | exact HB.out)⟩⟩
   ·replace c7 := Bool.eq_false_iff.mpr c7
    subst c7
    have H1 : (spec_GoodAuto.j0 k true a0_0 l0_1 l0_2 l0_3) = some r := by rw [if_neg (show ¬ (false = true) by decide)] at H; exact H
    clear H
    have H := H1
    clear H1
    have H' := am_ H
    clear H
    have hcz12_0 := Sh.bc BK115.out 0
    have hcz12_1 := Sh.bc BK115.out 1
    have hcz12_2 := Sh.bc BK115.out 2
    have hcz12_3 := Sh.bc BK115.out 3
    have hfz12_0 := blk_frozen BK115.out 0
    have hfz12_1 := blk_frozen BK115.out 1
    have hfz12_2 := blk_frozen BK115.out 2
    have hfz12_3 := blk_frozen BK115.out 3
    go_wp2_with (first | ((with_reducible refine gate_callee (f := 19) rfl ?_); refine Sh.gL (some 7) Try.func19 #[.int .i64 a0_0, .int .i64 1, .int .i64 96] (h := ?_); (with_reducible refine (spec_l1In.calls a0_0 1 96 true _ A4.out).mono ?_); rintro e w' ⟨rfl, ⟨nd, rfl⟩⟩; refine ⟨_, rfl, ?_⟩) | (go_at_call 18; (with_reducible refine (spec_l11Points.calls k _ _ l0_1 a0_0 false _ ?side1 ?side2 A6.out).mono ?_); (case side1 => repeat (first | exact (Kd.C_below HR0_1.out Sh.bw) | (with_reducible first | refine Kd.C_alloc ?_ _ | refine Kd.C_drewN ?_ _ | refine Kd.C_drew ?_))); (case side2 => exact HC0_1.out); rintro e w' ⟨rfl, ⟨nd, rfl⟩⟩))
    go_meet
    case rel => exact ⟨_, (true), (by first | rfl | (simp; done) | (simp [*]; done)), H', ⟨by first | omega | exact Nat.le_refl _⟩, ⟨by (with_reducible repeat (first | refine blk_drewN ?_ _ | refine blk_drew ?_ | refine blk_alloc ?_ _)); exact BK115.out⟩, ⟨by repeat (first | (with_reducible first | exact HB.out | apply below_alloc | apply pw_below_drewN | apply below_drew1 | refine below_set ?_ GE115.out) | exact HB.out)⟩⟩
  ·replace c5 := Bool.eq_false_iff.mpr c5
   subst c5
   have H1 : (spec_GoodAuto.j0 k true a0_0 l0_1 l0_2 l0_3) = some r := by rw [if_neg (show ¬ (false = true) by decide)] at H; exact H
   clear H
   have H := H1
   clear H1
   have H' := am_ H
   clear H
   have hcz13_0 := Sh.bc BK115.out 0
   have hcz13_1 := Sh.bc BK115.out 1
   have hcz13_2 := Sh.bc BK115.out 2
   have hcz13_3 := Sh.bc BK115.out 3
   have hfz13_0 := blk_frozen BK115.out 0
   have hfz13_1 := blk_frozen BK115.out 1
   have hfz13_2 := blk_frozen BK115.out 2
   have hfz13_3 := blk_frozen BK115.out 3
   go_wp2_with (first | ((with_reducible refine gate_callee (f := 19) rfl ?_); refine Sh.gL (some 7) Try.func19 #[.int .i64 a0_0, .int .i64 1, .int .i64 96] (h := ?_); (with_reducible refine (spec_l1In.calls a0_0 1 96 false _ A4.out).mono ?_); rintro e w' ⟨rfl, ⟨nd, rfl⟩⟩; refine ⟨_, rfl, ?_⟩))
   go_meet
   case rel => exact ⟨_, (true), (by first | rfl | (simp; done) | (simp [*]; done)), H', ⟨by first | omega | exact Nat.le_refl _⟩, ⟨by (with_reducible repeat (first | refine blk_drewN ?_ _ | refine blk_drew ?_ | refine blk_alloc ?_ _)); exact BK115.out⟩, ⟨by repeat (first | (with_reducible first | exact HB.out | apply below_alloc | apply pw_below_drewN | apply below_drew1 | refine below_set ?_ GE115.out) | exact HB.out)⟩⟩
 case rest =>
  clear HC2
  try clear c1
  try clear p2
  try clear c5
  try clear c7
  try clear c8
  try clear c8b0
  try clear c8b1
  try clear hcz11_0
  try clear hcz11_1
  try clear hcz11_2
  try clear hcz11_3
  try clear hcz12_0
  try clear hcz12_1
  try clear hcz12_2
  try clear hcz12_3
  try clear hcz13_0
  try clear hcz13_1
  try clear hcz13_2
  try clear hcz13_3
  try clear hcz9_0
  try clear hcz9_1
  try clear hcz9_2
  try clear hcz9_3
  try clear hfz11_0
  try clear hfz11_1
  try clear hfz11_2
  try clear hfz11_3
  try clear hfz12_0
  try clear hfz12_1
  try clear hfz12_2
  try clear hfz12_3
  try clear hfz13_0
  try clear hfz13_1
  try clear hfz13_2
  try clear hfz13_3
  try clear hfz9_0
  try clear hfz9_1
  try clear hfz9_2
  try clear hfz9_3
  obtain ⟨kq, x30_1, rfl, HA, HJ1, BK115, HB⟩ := hcut
  cases kq with
  | zero => exact absurd HA.out (by simp [spec_GoodAuto.j0])
  | succ kj1 =>
   have H := HA.out
   clear HA
   simp only [spec_GoodAuto.j0] at H
   by_cases c14 : x30_1 = true
   ·subst c14
    have H1 : (some false) = some r := by rw [if_pos rfl] at H; exact H
    clear H
    have H := H1
    clear H1
    obtain rfl := Option.some.inj H
    go_wp2
    go_ret
    exact ⟨Sh.eR, Sh.bw⟩
   ·replace c14 := Bool.eq_false_iff.mpr c14
    subst c14
    have H1 : (spec_GoodAuto.l0 kj1 l0_2 (l0_2.length : Int) 0 a0_0 l0_1 l0_2 l0_3) = some r := by rw [if_neg (show ¬ (false = true) by decide)] at H; exact H
    clear H
    have H := H1
    clear H1
    have H' := am_ H
    clear H
    have hcz15_0 := Sh.bc BK115.out 0
    have hcz15_1 := Sh.bc BK115.out 1
    have hcz15_2 := Sh.bc BK115.out 2
    have hcz15_3 := Sh.bc BK115.out 3
    have hfz15_0 := blk_frozen BK115.out 0
    have hfz15_1 := blk_frozen BK115.out 1
    have hfz15_2 := blk_frozen BK115.out 2
    have hfz15_3 := blk_frozen BK115.out 3
    go_wp2
    go_loopg [34] kj1 (fun kq v34 w' => ∃ (x34_2 : Int), v34 = .int .i64 x34_2 ∧ Aside0 (spec_GoodAuto.l0 kq l0_2 (l0_2.length : Int) x34_2 a0_0 l0_1 l0_2 l0_3 = some r) ∧ Aside0 (kq ≤ kj1) ∧ Aside0 (w'.heap[gb115]? = some (.cells #[.int .i64 a0_0, (.slice A0_1 l0_1.length c0_1), (.slice A0_2 l0_2.length c0_2), (.slice A0_3 l0_3.length c0_3)] 32 (0, 0))) ∧ Aside0 (Below w.heap.size w w'))
    case atStart => exact ⟨(0), (by first | rfl | (simp; done) | (simp [*]; done)), H', ⟨Nat.le_refl _⟩, ⟨by (with_reducible repeat (first | refine blk_drewN ?_ _ | refine blk_drew ?_ | refine blk_alloc ?_ _)); exact BK115.out⟩, ⟨by repeat (first | (with_reducible first | exact HB.out | apply below_alloc | apply pw_below_drewN | apply below_drew1 | refine below_set ?_ GE115.out) | exact HB.out)⟩⟩
    case round =>
     clear H'
     try clear c1
     try clear p2
     try clear c5
     try clear c7
     try clear c8
     try clear c8b0
     try clear c8b1
     try clear c14
     try clear hcz11_0
     try clear hcz11_1
     try clear hcz11_2
     try clear hcz11_3
     try clear hcz12_0
     try clear hcz12_1
     try clear hcz12_2
     try clear hcz12_3
     try clear hcz13_0
     try clear hcz13_1
     try clear hcz13_2
     try clear hcz13_3
     try clear hcz15_0
     try clear hcz15_1
     try clear hcz15_2
     try clear hcz15_3
     try clear hcz9_0
     try clear hcz9_1
     try clear hcz9_2
     try clear hcz9_3
     try clear hfz11_0
     try clear hfz11_1
     try clear hfz11_2
     try clear hfz11_3
     try clear hfz12_0
     try clear hfz12_1
     try clear hfz12_2
     try clear hfz12_3
     try clear hfz13_0
     try clear hfz13_1
     try clear hfz13_2
     try clear hfz13_3
     try clear hfz15_0
     try clear hfz15_1
     try clear hfz15_2
     try clear hfz15_3
     try clear hfz9_0
     try clear hfz9_1
     try clear hfz9_2
     try clear hfz9_3
     try clear p2
     obtain ⟨x34_2, rfl, HA, HK2, BK115, HB⟩ := hrel
     cases gk with
     | zero => exact absurd HA.out (by simp [spec_GoodAuto.l0])
     | succ k2 =>
      have H := HA.out
      clear HA
      simp only [spec_GoodAuto.l0] at H
      by_cases c16 : x34_2 < (l0_2.length : Int)
      ·rw [if_pos c16] at H
       have c16b0 : decide (x34_2 < (l0_2.length : Int)) = true := decide_eq_true c16
       clear c16
       by_cases c17 : 0 ≤ x34_2
       ·rw [if_pos c17] at H
        have c17b0 : decide (0 ≤ x34_2) = true := decide_eq_true c17
        clear c17
        by_cases c18 : x34_2 < (l0_2.length : Int)
        ·rw [if_pos c18] at H
         have c18b0 : decide (x34_2 < (l0_2.length : Int)) = true := decide_eq_true c18
         clear c18
         replace H := Option.bind_eq_some_iff.mp H
         obtain ⟨t121, A190, H⟩ := H
         replace H : (if t121 = true then ((spec_l1In.f ((rd_T51 l0_2 x34_2).f1) 0 7).bind fun t122 => (if t122 = true then ((spec_l1In.f ((rd_T51 l0_2 x34_2).f2) 0 (wrap64 (a0_0 - 1))).bind fun t123 => (if t123 = true then (if x34_2 > 0 then (if 0 ≤ (wrap64 (x34_2 - 1)) then (if (wrap64 (x34_2 - 1)) < (l0_2.length : Int) then ((spec_l12Less.f ((rd_T51 l0_2 (wrap64 (x34_2 - 1))).f0) ((rd_T51 l0_2 (wrap64 (x34_2 - 1))).f1) ((rd_T51 l0_2 (wrap64 (x34_2 - 1))).f2) ((rd_T51 l0_2 x34_2).f0) ((rd_T51 l0_2 x34_2).f1) ((rd_T51 l0_2 x34_2).f2)).bind fun t125 => (if t125 = true then (spec_GoodAuto.l0 k2 l0_2 (l0_2.length : Int) (wrap64 (x34_2 + 1)) a0_0 l0_1 l0_2 l0_3) else (some false))) else (none)) else (none)) else (spec_GoodAuto.l0 k2 l0_2 (l0_2.length : Int) (wrap64 (x34_2 + 1)) a0_0 l0_1 l0_2 l0_3)) else (some false))) else (some false))) else (some false)) = some r := H
         have A19 := am_ A190
         clear A190
         by_cases c20 : t121 = true
         ·subst c20
          have H1 : ((spec_l1In.f ((rd_T51 l0_2 x34_2).f1) 0 7).bind fun t122 => (if t122 = true then ((spec_l1In.f ((rd_T51 l0_2 x34_2).f2) 0 (wrap64 (a0_0 - 1))).bind fun t123 => (if t123 = true then (if x34_2 > 0 then (if 0 ≤ (wrap64 (x34_2 - 1)) then (if (wrap64 (x34_2 - 1)) < (l0_2.length : Int) then ((spec_l12Less.f ((rd_T51 l0_2 (wrap64 (x34_2 - 1))).f0) ((rd_T51 l0_2 (wrap64 (x34_2 - 1))).f1) ((rd_T51 l0_2 (wrap64 (x34_2 - 1))).f2) ((rd_T51 l0_2 x34_2).f0) ((rd_T51 l0_2 x34_2).f1) ((rd_T51 l0_2 x34_2).f2)).bind fun t125 => (if t125 = true then (spec_GoodAuto.l0 k2 l0_2 (l0_2.length : Int) (wrap64 (x34_2 + 1)) a0_0 l0_1 l0_2 l0_3) else (some false))) else (none)) else (none)) else (spec_GoodAuto.l0 k2 l0_2 (l0_2.length : Int) (wrap64 (x34_2 + 1)) a0_0 l0_1 l0_2 l0_3)) else (some false))) else (some false))) = some r := by rw [if_pos rfl] at H; exact H
          clear H
          have H := H1
          clear H1
          replace H := Option.bind_eq_some_iff.mp H
          obtain ⟨t122, A210, H⟩ := H
          replace H : (if t122 = true then ((spec_l1In.f ((rd_T51 l0_2 x34_2).f2) 0 (wrap64 (a0_0 - 1))).bind fun t123 => (if t123 = true then (if x34_2 > 0 then (if 0 ≤ (wrap64 (x34_2 - 1)) then (if (wrap64 (x34_2 - 1)) < (l0_2.length : Int) then ((spec_l12Less.f ((rd_T51 l0_2 (wrap64 (x34_2 - 1))).f0) ((rd_T51 l0_2 (wrap64 (x34_2 - 1))).f1) ((rd_T51 l0_2 (wrap64 (x34_2 - 1))).f2) ((rd_T51 l0_2 x34_2).f0) ((rd_T51 l0_2 x34_2).f1) ((rd_T51 l0_2 x34_2).f2)).bind fun t125 => (if t125 = true then (spec_GoodAuto.l0 k2 l0_2 (l0_2.length : Int) (wrap64 (x34_2 + 1)) a0_0 l0_1 l0_2 l0_3) else (some false))) else (none)) else (none)) else (spec_GoodAuto.l0 k2 l0_2 (l0_2.length : Int) (wrap64 (x34_2 + 1)) a0_0 l0_1 l0_2 l0_3)) else (some false))) else (some false)) = some r := H
          have A21 := am_ A210
          clear A210
          by_cases c22 : t122 = true
          ·subst c22
           have H1 : ((spec_l1In.f ((rd_T51 l0_2 x34_2).f2) 0 (wrap64 (a0_0 - 1))).bind fun t123 => (if t123 = true then (if x34_2 > 0 then (if 0 ≤ (wrap64 (x34_2 - 1)) then (if (wrap64 (x34_2 - 1)) < (l0_2.length : Int) then ((spec_l12Less.f ((rd_T51 l0_2 (wrap64 (x34_2 - 1))).f0) ((rd_T51 l0_2 (wrap64 (x34_2 - 1))).f1) ((rd_T51 l0_2 (wrap64 (x34_2 - 1))).f2) ((rd_T51 l0_2 x34_2).f0) ((rd_T51 l0_2 x34_2).f1) ((rd_T51 l0_2 x34_2).f2)).bind fun t125 => (if t125 = true then (spec_GoodAuto.l0 k2 l0_2 (l0_2.length : Int) (wrap64 (x34_2 + 1)) a0_0 l0_1 l0_2 l0_3) else (some false))) else (none)) else (none)) else (spec_GoodAuto.l0 k2 l0_2 (l0_2.length : Int) (wrap64 (x34_2 + 1)) a0_0 l0_1 l0_2 l0_3)) else (some false))) = some r := by rw [if_pos rfl] at H; exact H
           clear H
           have H := H1
           clear H1
           replace H := Option.bind_eq_some_iff.mp H
           obtain ⟨t123, A230, H⟩ := H
           replace H : (if t123 = true then (if x34_2 > 0 then (if 0 ≤ (wrap64 (x34_2 - 1)) then (if (wrap64 (x34_2 - 1)) < (l0_2.length : Int) then ((spec_l12Less.f ((rd_T51 l0_2 (wrap64 (x34_2 - 1))).f0) ((rd_T51 l0_2 (wrap64 (x34_2 - 1))).f1) ((rd_T51 l0_2 (wrap64 (x34_2 - 1))).f2) ((rd_T51 l0_2 x34_2).f0) ((rd_T51 l0_2 x34_2).f1) ((rd_T51 l0_2 x34_2).f2)).bind fun t125 => (if t125 = true then (spec_GoodAuto.l0 k2 l0_2 (l0_2.length : Int) (wrap64 (x34_2 + 1)) a0_0 l0_1 l0_2 l0_3) else (some false))) else (none)) else (none)) else (spec_GoodAuto.l0 k2 l0_2 (l0_2.length : Int) (wrap64 (x34_2 + 1)) a0_0 l0_1 l0_2 l0_3)) else (some false)) = some r := H
           have A23 := am_ A230
           clear A230
           by_cases c24 : t123 = true
           ·subst c24
            have H1 : (if x34_2 > 0 then (if 0 ≤ (wrap64 (x34_2 - 1)) then (if (wrap64 (x34_2 - 1)) < (l0_2.length : Int) then ((spec_l12Less.f ((rd_T51 l0_2 (wrap64 (x34_2 - 1))).f0) ((rd_T51 l0_2 (wrap64 (x34_2 - 1))).f1) ((rd_T51 l0_2 (wrap64 (x34_2 - 1))).f2) ((rd_T51 l0_2 x34_2).f0) ((rd_T51 l0_2 x34_2).f1) ((rd_T51 l0_2 x34_2).f2)).bind fun t125 => (if t125 = true then (spec_GoodAuto.l0 k2 l0_2 (l0_2.length : Int) (wrap64 (x34_2 + 1)) a0_0 l0_1 l0_2 l0_3) else (some false))) else (none)) else (none)) else (spec_GoodAuto.l0 k2 l0_2 (l0_2.length : Int) (wrap64 (x34_2 + 1)) a0_0 l0_1 l0_2 l0_3)) = some r := by rw [if_pos rfl] at H; exact H
            clear H
            have H := H1
            clear H1
            by_cases c25 : x34_2 > 0
            ·rw [if_pos c25] at H
             have c25b0 : decide (0 < x34_2) = true := decide_eq_true c25
             clear c25
             obtain ⟨ji26, hji26⟩ : ∃ j_ : Int, (wrap64 (x34_2 - 1)) = j_ := ⟨_, rfl⟩
             replace H : (if 0 ≤ (ji26) then (if (ji26) < (l0_2.length : Int) then ((spec_l12Less.f ((rd_T51 l0_2 (ji26)).f0) ((rd_T51 l0_2 (ji26)).f1) ((rd_T51 l0_2 (ji26)).f2) ((rd_T51 l0_2 x34_2).f0) ((rd_T51 l0_2 x34_2).f1) ((rd_T51 l0_2 x34_2).f2)).bind fun t125 => (if t125 = true then (spec_GoodAuto.l0 k2 l0_2 (l0_2.length : Int) (wrap64 (x34_2 + 1)) a0_0 l0_1 l0_2 l0_3) else (some false))) else (none)) else (none)) = some r := by first | (rw [hji26] at H; exact H) | (simp only [hji26] at H ⊢; exact H)
             (try rw [hji26] at A19)
             (try rw [hji26] at A21)
             (try rw [hji26] at A23)
             have hji26w : (IntKind.i64.wrap (x34_2 - 1)) = ji26 := (i64_w _).trans hji26
             by_cases c27 : 0 ≤ (ji26)
             ·rw [if_pos c27] at H
              have c27b0 : decide (0 ≤ (ji26)) = true := decide_eq_true c27
              clear c27
              by_cases c28 : (ji26) < (l0_2.length : Int)
              ·rw [if_pos c28] at H
               have c28b0 : decide ((ji26) < (l0_2.length : Int)) = true := decide_eq_true c28
               clear c28
               replace H := Option.bind_eq_some_iff.mp H
               obtain ⟨t125, A290, H⟩ := H
               replace H : (if t125 = true then (spec_GoodAuto.l0 k2 l0_2 (l0_2.length : Int) (wrap64 (x34_2 + 1)) a0_0 l0_1 l0_2 l0_3) else (some false)) = some r := H
               have A29 := am_ A290
               clear A290
               by_cases c30 : t125 = true
               ·subst c30
                have H1 : (spec_GoodAuto.l0 k2 l0_2 (l0_2.length : Int) (wrap64 (x34_2 + 1)) a0_0 l0_1 l0_2 l0_3) = some r := by rw [if_pos rfl] at H; exact H
                clear H
                have H := H1
                clear H1
                have H' := am_ H
                clear H
                have p119 : 0 ≤ (x34_2 : Int) := of_decide_eq_true (by first | (with_reducible assumption) | assumption)
                have q119 : x34_2 < (l0_2.length : Int) := of_decide_eq_true (by first | (with_reducible assumption) | assumption)
                obtain ⟨ad119, e119, hx119_0, hx119_1, hx119_2⟩ := at_T51 HR0_2.out x34_2 p119 q119
                cases e119
                (try replace hx119_0 := (HB.out.cell (World.block_lt_of_cell? w _ hx119_0)).trans hx119_0)
                (try replace hx119_1 := (HB.out.cell (World.block_lt_of_cell? w _ hx119_1)).trans hx119_1)
                (try replace hx119_2 := (HB.out.cell (World.block_lt_of_cell? w _ hx119_2)).trans hx119_2)
                replace p119 := eq_true p119
                replace q119 := eq_true q119
                try go_wp2_with (first | ((with_reducible refine gate_dst (N := 4) rfl ?_); (try (refine gate_guard (by rfl) ?_; dsimp only)); refine Sh.bx (N := 4) (cs := #[.int .i64 0, .int .i64 0, .int .i64 0]) (t := 51) (h := ?_); intro gb120 hg w31 hbox hb; have n0_ := am_ (Sh.bb BK115.out hb); have n1_ := am_ (below_step Sh.bw hb); have n2_ := am_ (hbox); have n3_ := am_ (Sh.gw (w := w) hg); have n4_ := am_ (Sh.gw (w := w) hg); have n5_ := am_ (Sh.nl hg BK115.out); have n6_ := am_ (Sh.ng hg BK115.out); clear BK115; clear HB; have BK115 := n0_; have HB := n1_; have BK120 := n2_; have GW120 := n3_; have GE120 := n4_; have NB115_120 := n5_; have NB120_115 := n6_; clear n0_ n1_ n2_ n3_ n4_ n5_ n6_; clear hb hbox hg; have hnb32 := NB120_115.out; have hnc32 := NB115_120.out; have hcz33_0 := Sh.bc BK120.out 0; have hcz33_1 := Sh.bc BK120.out 1; have hcz33_2 := Sh.bc BK120.out 2; have hfz33_0 := blk_frozen BK120.out 0; have hfz33_1 := blk_frozen BK120.out 1; have hfz33_2 := blk_frozen BK120.out 2))
                have n0_ : Aside0 ((((w31.setCell ⟨gb120, 0, none⟩ (.int .i64 ((rd_T51 l0_2 x34_2).f0))).setCell ⟨gb120, 1, none⟩ (.int .i64 ((rd_T51 l0_2 x34_2).f1))).setCell ⟨gb120, 2, none⟩ (.int .i64 ((rd_T51 l0_2 x34_2).f2))).heap[gb115]? = some (.cells #[.int .i64 a0_0, .slice A0_1 l0_1.length c0_1, .slice (some ad119) l0_2.length c0_2, .slice A0_3 l0_3.length c0_3] 32 (0, 0))) := ⟨by (with_reducible repeat (first | refine blk_drewN ?_ _ | refine blk_drew ?_ | refine blk_alloc ?_ _)); refine blk_far ?_ NB115_120.out _; (with_reducible repeat (first | refine blk_drewN ?_ _ | refine blk_drew ?_ | refine blk_alloc ?_ _)); refine blk_far ?_ NB115_120.out _; (with_reducible repeat (first | refine blk_drewN ?_ _ | refine blk_drew ?_ | refine blk_alloc ?_ _)); refine blk_far ?_ NB115_120.out _; (with_reducible repeat (first | refine blk_drewN ?_ _ | refine blk_drew ?_ | refine blk_alloc ?_ _)); exact BK115.out⟩
                have n1_ : Aside0 ((((w31.setCell ⟨gb120, 0, none⟩ (.int .i64 ((rd_T51 l0_2 x34_2).f0))).setCell ⟨gb120, 1, none⟩ (.int .i64 ((rd_T51 l0_2 x34_2).f1))).setCell ⟨gb120, 2, none⟩ (.int .i64 ((rd_T51 l0_2 x34_2).f2))).heap[gb120]? = some (.cells #[.int .i64 ((rd_T51 l0_2 x34_2).f0), .int .i64 ((rd_T51 l0_2 x34_2).f1), .int .i64 ((rd_T51 l0_2 x34_2).f2)] 51 (0, 0))) := ⟨by (with_reducible repeat (first | refine blk_drewN ?_ _ | refine blk_drew ?_ | refine blk_alloc ?_ _)); refine blk_put (cs := #[.int .i64 ((rd_T51 l0_2 x34_2).f0), .int .i64 ((rd_T51 l0_2 x34_2).f1), .int .i64 0]) ?_ 2 _ rfl; (with_reducible repeat (first | refine blk_drewN ?_ _ | refine blk_drew ?_ | refine blk_alloc ?_ _)); refine blk_put (cs := #[.int .i64 ((rd_T51 l0_2 x34_2).f0), .int .i64 0, .int .i64 0]) ?_ 1 _ rfl; (with_reducible repeat (first | refine blk_drewN ?_ _ | refine blk_drew ?_ | refine blk_alloc ?_ _)); refine blk_put (cs := #[.int .i64 0, .int .i64 0, .int .i64 0]) ?_ 0 _ rfl; (with_reducible repeat (first | refine blk_drewN ?_ _ | refine blk_drew ?_ | refine blk_alloc ?_ _)); exact BK120.out⟩
                have n2_ : Aside0 (Below w.heap.size w (((w31.setCell ⟨gb120, 0, none⟩ (.int .i64 ((rd_T51 l0_2 x34_2).f0))).setCell ⟨gb120, 1, none⟩ (.int .i64 ((rd_T51 l0_2 x34_2).f1))).setCell ⟨gb120, 2, none⟩ (.int .i64 ((rd_T51 l0_2 x34_2).f2)))) := ⟨by repeat (first | (with_reducible first | exact HB.out | apply below_alloc | apply pw_below_drewN | apply below_drew1 | refine below_set ?_ GE115.out | refine below_set ?_ GE120.out) | exact HB.out)⟩
                (try clear BK115)
                (try clear BK120)
                (try clear HB)
                generalize (((w31.setCell ⟨gb120, 0, none⟩ (.int .i64 ((rd_T51 l0_2 x34_2).f0))).setCell ⟨gb120, 1, none⟩ (.int .i64 ((rd_T51 l0_2 x34_2).f1))).setCell ⟨gb120, 2, none⟩ (.int .i64 ((rd_T51 l0_2 x34_2).f2))) = w34 at n0_ n1_ n2_ ⊢
                have BK115 := n0_
                have BK120 := n1_
                have HB := n2_
                clear n0_ n1_ n2_
                have n0_ := am_ (blk_drew BK115.out)
                have n1_ := am_ (blk_drew BK120.out)
                have n2_ := am_ (below_drew1 HB.out)
                clear BK115
                clear BK120
                clear HB
                have BK115 := n0_
                have BK120 := n1_
                have HB := n2_
                clear n0_ n1_ n2_
                have p124 : 0 ≤ ((ji26) : Int) := of_decide_eq_true (by first | (with_reducible assumption) | assumption)
                have q124 : (ji26) < (l0_2.length : Int) := of_decide_eq_true (by first | (with_reducible assumption) | assumption)
                obtain ⟨ad124, e124, hx124_0, hx124_1, hx124_2⟩ := at_T51 HR0_2.out (ji26) p124 q124
                have hw124_2 := hx124_2
                have hw124_1 := hx124_1
                have hw124_0 := hx124_0
                obtain rfl : ad119 = ad124 := (by injection e124)
                (try replace hx124_0 := (HB.out.cell (World.block_lt_of_cell? w _ hx124_0)).trans hx124_0)
                (try replace hx124_1 := (HB.out.cell (World.block_lt_of_cell? w _ hx124_1)).trans hx124_1)
                (try replace hx124_2 := (HB.out.cell (World.block_lt_of_cell? w _ hx124_2)).trans hx124_2)
                replace p124 := eq_true p124
                replace q124 := eq_true q124
                refine start_ (n := 37) (S := fun w' => w'.cell? ⟨gb120, 0, none⟩ = some (.int .i64 ((rd_T51 l0_2 x34_2).f0)) ∧ w'.cell? ⟨gb120, 1, none⟩ = some (.int .i64 ((rd_T51 l0_2 x34_2).f1)) ∧ w'.cell? ⟨gb120, 2, none⟩ = some (.int .i64 ((rd_T51 l0_2 x34_2).f2)) ∧ w'.cell? ⟨gb115, 0, none⟩ = some (.int .i64 a0_0) ∧ w'.cell? ⟨gb115, 1, none⟩ = some (.slice A0_1 l0_1.length c0_1) ∧ w'.cell? ⟨gb115, 2, none⟩ = some (.slice (some ad119) l0_2.length c0_2) ∧ w'.cell? ⟨gb115, 3, none⟩ = some (.slice A0_3 l0_3.length c0_3) ∧ w'.cell? (ad119.add (((ji26)).toNat * 3)) = some (.int .i64 ((rd_T51 l0_2 (ji26)).f0)) ∧ w'.cell? ⟨(ad119.add (((ji26)).toNat * 3)).block, (ad119.add (((ji26)).toNat * 3)).off + 1, none⟩ = some (.int .i64 ((rd_T51 l0_2 (ji26)).f1)) ∧ w'.cell? ⟨(ad119.add (((ji26)).toNat * 3)).block, (ad119.add (((ji26)).toNat * 3)).off + 2, none⟩ = some (.int .i64 ((rd_T51 l0_2 (ji26)).f2))) (ds := []) #[false, false, false, false, false, false, false, false, false, false, false, false, false, false, false, false, false, false, false, false, false, false, false, false, false, false, false, false, false, false, false, false, false, false, false, false, false] (by kernel_rfl) rfl rfl ⟨(blk_cell BK120.out 0).trans rfl, (blk_cell BK120.out 1).trans rfl, (blk_cell BK120.out 2).trans rfl, (blk_cell BK115.out 0).trans rfl, (blk_cell BK115.out 1).trans rfl, (blk_cell BK115.out 2).trans rfl, (blk_cell BK115.out 3).trans rfl, ((HB.out.cell (World.block_lt_of_cell? w _ hw124_0)).trans hw124_0), ((HB.out.cell (World.block_lt_of_cell? w _ hw124_1)).trans hw124_1), ((HB.out.cell (World.block_lt_of_cell? w _ hw124_2)).trans hw124_2)⟩ (fun hHeld => ?_); refine with_tabW spec_GoodAuto.tab6 spec_GoodAuto.bits6 (fun HT_ HW_ => ?_)
                generalize w34.drew = w35 at BK115 BK120 HB hx124_0 hx124_1 hx124_2 hHeld ⊢
                refine Sh.pA 0 39 (Sh.pre 37 1) (any_of HT_.out (by kernel_rfl)) ?_ (ha := by simp only [Act.put, List.setIfInBounds_toArray, List.set_cons_zero, List.set_cons_succ, i64_w, i32_w, hji26]; rfl)
                refine Sh.pA 2 41 #[true, false, true, false, false, false, false, false, false, false, false, false, false, false, false, false, false, false, false, false, false, false, false, false, false, false, false, false, false, false, false, false, false, false, false, false, false] (any_of HT_.out (by kernel_rfl)) ?_ (ha := by simp only [Act.put, List.setIfInBounds_toArray, List.set_cons_zero, List.set_cons_succ, i64_w, i32_w, hji26]; rfl)
                refine Sh.tA 1 40 (Sh.pre 37 3) (take_ofW HT_.out HW_.out (by kernel_rfl)) hHeld ?_ (hy := by rintro w' ⟨s0, s1, s2, s3, s4, s5, s6, s7, s8, s9⟩; go_simp; with_reducible rfl) (ha := by simp only [Act.put, List.setIfInBounds_toArray, List.set_cons_zero, List.set_cons_succ, i64_w, i32_w, hji26]; rfl)
                refine Sh.tA 3 42 (Sh.pre 37 4) (take_ofW HT_.out HW_.out (by kernel_rfl)) hHeld ?_ (hy := by rintro w' ⟨s0, s1, s2, s3, s4, s5, s6, s7, s8, s9⟩; go_simp; with_reducible rfl) (ha := by simp only [Act.put, List.setIfInBounds_toArray, List.set_cons_zero, List.set_cons_succ, i64_w, i32_w, hji26]; rfl)
                refine Sh.pA 4 43 (Sh.pre 37 5) (any_of HT_.out (by kernel_rfl)) ?_ (ha := by simp only [Act.put, List.setIfInBounds_toArray, List.set_cons_zero, List.set_cons_succ, i64_w, i32_w, hji26]; rfl)
                refine one_ (i := 5) (N := some 44) #[true, true, true, true, true, true, false, false, false, false, false, false, false, false, false, false, false, false, false, false, false, false, false, false, false, false, false, false, false, false, false, false, false, false, false, false, false] rfl rfl (one_of HT_.out (by kernel_rfl)) (by decide) (fun K hK => ?_)
                refine goes_ Try.func19 (by kernel_rfl) rfl #[.int .i64 ((rd_T51 l0_2 x34_2).f0), .int .i64 0, .int .i64 (wrap64 (a0_0 - 1))] (by rfl) rfl rfl (by (try simp only [List.map_toArray, List.map_cons, List.map_nil]); first | done | rfl | (simp only [List.length_drop, List.length_take]; rfl)) ?_
                with_reducible refine (spec_l1In.calls ((rd_T51 l0_2 x34_2).f0) 0 (wrap64 (a0_0 - 1)) true _ A19.out).mono ?_
                rintro e w' ⟨rfl, ⟨nd, rfl⟩⟩
                refine ⟨_, rfl, ?_⟩
                refine hK.out _ _ ⟨(blk_cell BK120.out 0).trans rfl, (blk_cell BK120.out 1).trans rfl, (blk_cell BK120.out 2).trans rfl, (blk_cell BK115.out 0).trans rfl, (blk_cell BK115.out 1).trans rfl, (blk_cell BK115.out 2).trans rfl, (blk_cell BK115.out 3).trans rfl, ((HB.out.cell (World.block_lt_of_cell? w _ hw124_0)).trans hw124_0), ((HB.out.cell (World.block_lt_of_cell? w _ hw124_1)).trans hw124_1), ((HB.out.cell (World.block_lt_of_cell? w _ hw124_2)).trans hw124_2)⟩ (fun hHeld => ?_)
                clear hK K
                refine norm_ (a' := ?_) ?_ ?_
                rotate_left
                ·show Act.put _ (some 44) _ = _
                 simp only [Act.put, List.setIfInBounds_toArray, List.set_cons_zero, List.set_cons_succ, i64_w, i32_w, hji26]
                 rfl
                refine Sh.pA 6 45 (Sh.pre 37 7) (any_of HT_.out (by kernel_rfl)) ?_ (ha := by simp only [Act.put, List.setIfInBounds_toArray, List.set_cons_zero, List.set_cons_succ, i64_w, i32_w, hji26]; rfl)
                refine Sh.pA 7 46 (Sh.pre 37 8) (any_of HT_.out (by kernel_rfl)) ?_ (ha := by simp only [Act.put, List.setIfInBounds_toArray, List.set_cons_zero, List.set_cons_succ, i64_w, i32_w, hji26]; rfl)
                refine Sh.pA 8 47 (Sh.pre 37 9) (any_of HT_.out (by kernel_rfl)) ?_ (ha := by simp only [Act.put, List.setIfInBounds_toArray, List.set_cons_zero, List.set_cons_succ, i64_w, i32_w, hji26]; rfl)
                refine Sh.tA 9 48 (Sh.pre 37 10) (take_ofW HT_.out HW_.out (by kernel_rfl)) hHeld ?_ (hy := by rintro w' ⟨s0, s1, s2, s3, s4, s5, s6, s7, s8, s9⟩; go_simp; with_reducible rfl) (ha := by simp only [Act.put, List.setIfInBounds_toArray, List.set_cons_zero, List.set_cons_succ, i64_w, i32_w, hji26]; rfl)
                refine one_ (i := 10) (N := some 49) #[true, true, true, true, true, true, true, true, true, true, true, false, false, false, false, false, false, false, false, false, false, false, false, false, false, false, false, false, false, false, false, false, false, false, false, false, false] rfl rfl (one_of HT_.out (by kernel_rfl)) (by decide) (fun K hK => ?_)
                refine goes_ Try.func19 (by kernel_rfl) rfl #[.int .i64 ((rd_T51 l0_2 x34_2).f1), .int .i64 0, .int .i64 7] (by rfl) rfl rfl (by (try simp only [List.map_toArray, List.map_cons, List.map_nil]); first | done | rfl | (simp only [List.length_drop, List.length_take]; rfl)) ?_
                with_reducible refine (spec_l1In.calls ((rd_T51 l0_2 x34_2).f1) 0 7 true _ A21.out).mono ?_
                rintro e w' ⟨rfl, ⟨nd, rfl⟩⟩
                refine ⟨_, rfl, ?_⟩
                refine hK.out _ _ ⟨(blk_cell BK120.out 0).trans rfl, (blk_cell BK120.out 1).trans rfl, (blk_cell BK120.out 2).trans rfl, (blk_cell BK115.out 0).trans rfl, (blk_cell BK115.out 1).trans rfl, (blk_cell BK115.out 2).trans rfl, (blk_cell BK115.out 3).trans rfl, ((HB.out.cell (World.block_lt_of_cell? w _ hw124_0)).trans hw124_0), ((HB.out.cell (World.block_lt_of_cell? w _ hw124_1)).trans hw124_1), ((HB.out.cell (World.block_lt_of_cell? w _ hw124_2)).trans hw124_2)⟩ (fun hHeld => ?_)
                clear hK K
                refine norm_ (a' := ?_) ?_ ?_
                rotate_left
                ·show Act.put _ (some 49) _ = _
                 simp only [Act.put, List.setIfInBounds_toArray, List.set_cons_zero, List.set_cons_succ, i64_w, i32_w, hji26]
                 rfl
                refine Sh.pA 11 50 (Sh.pre 37 12) (any_of HT_.out (by kernel_rfl)) ?_ (ha := by simp only [Act.put, List.setIfInBounds_toArray, List.set_cons_zero, List.set_cons_succ, i64_w, i32_w, hji26]; rfl)
                refine Sh.pA 12 51 (Sh.pre 37 13) (any_of HT_.out (by kernel_rfl)) ?_ (ha := by simp only [Act.put, List.setIfInBounds_toArray, List.set_cons_zero, List.set_cons_succ, i64_w, i32_w, hji26]; rfl)
                refine Sh.pA 13 52 (Sh.pre 37 14) (any_of HT_.out (by kernel_rfl)) ?_ (ha := by simp only [Act.put, List.setIfInBounds_toArray, List.set_cons_zero, List.set_cons_succ, i64_w, i32_w, hji26]; rfl)
                refine Sh.pA 14 53 (Sh.pre 37 15) (any_of HT_.out (by kernel_rfl)) ?_ (ha := by simp only [Act.put, List.setIfInBounds_toArray, List.set_cons_zero, List.set_cons_succ, i64_w, i32_w, hji26]; rfl)
                refine Sh.pA 16 55 #[true, true, true, true, true, true, true, true, true, true, true, true, true, true, true, false, true, false, false, false, false, false, false, false, false, false, false, false, false, false, false, false, false, false, false, false, false] (any_of HT_.out (by kernel_rfl)) ?_ (ha := by simp only [Act.put, List.setIfInBounds_toArray, List.set_cons_zero, List.set_cons_succ, i64_w, i32_w, hji26]; rfl)
                refine Sh.tA 15 54 (Sh.pre 37 17) (take_ofW HT_.out HW_.out (by kernel_rfl)) hHeld ?_ (hy := by rintro w' ⟨s0, s1, s2, s3, s4, s5, s6, s7, s8, s9⟩; go_simp; with_reducible rfl) (ha := by simp only [Act.put, List.setIfInBounds_toArray, List.set_cons_zero, List.set_cons_succ, i64_w, i32_w, hji26]; rfl)
                refine Sh.tA 17 56 (Sh.pre 37 18) (take_ofW HT_.out HW_.out (by kernel_rfl)) hHeld ?_ (hy := by rintro w' ⟨s0, s1, s2, s3, s4, s5, s6, s7, s8, s9⟩; go_simp; with_reducible rfl) (ha := by simp only [Act.put, List.setIfInBounds_toArray, List.set_cons_zero, List.set_cons_succ, i64_w, i32_w, hji26]; rfl)
                refine Sh.pA 18 57 (Sh.pre 37 19) (any_of HT_.out (by kernel_rfl)) ?_ (ha := by simp only [Act.put, List.setIfInBounds_toArray, List.set_cons_zero, List.set_cons_succ, i64_w, i32_w, hji26]; rfl)
                refine one_ (i := 19) (N := some 58) #[true, true, true, true, true, true, true, true, true, true, true, true, true, true, true, true, true, true, true, true, false, false, false, false, false, false, false, false, false, false, false, false, false, false, false, false, false] rfl rfl (one_of HT_.out (by kernel_rfl)) (by decide) (fun K hK => ?_)
                refine goes_ Try.func19 (by kernel_rfl) rfl #[.int .i64 ((rd_T51 l0_2 x34_2).f2), .int .i64 0, .int .i64 (wrap64 (a0_0 - 1))] (by rfl) rfl rfl (by (try simp only [List.map_toArray, List.map_cons, List.map_nil]); first | done | rfl | (simp only [List.length_drop, List.length_take]; rfl)) ?_
                with_reducible refine (spec_l1In.calls ((rd_T51 l0_2 x34_2).f2) 0 (wrap64 (a0_0 - 1)) true _ A23.out).mono ?_
                rintro e w' ⟨rfl, ⟨nd, rfl⟩⟩
                refine ⟨_, rfl, ?_⟩
                refine hK.out _ _ ⟨(blk_cell BK120.out 0).trans rfl, (blk_cell BK120.out 1).trans rfl, (blk_cell BK120.out 2).trans rfl, (blk_cell BK115.out 0).trans rfl, (blk_cell BK115.out 1).trans rfl, (blk_cell BK115.out 2).trans rfl, (blk_cell BK115.out 3).trans rfl, ((HB.out.cell (World.block_lt_of_cell? w _ hw124_0)).trans hw124_0), ((HB.out.cell (World.block_lt_of_cell? w _ hw124_1)).trans hw124_1), ((HB.out.cell (World.block_lt_of_cell? w _ hw124_2)).trans hw124_2)⟩ (fun hHeld => ?_)
                clear hK K
                refine norm_ (a' := ?_) ?_ ?_
                rotate_left
                ·show Act.put _ (some 58) _ = _
                 simp only [Act.put, List.setIfInBounds_toArray, List.set_cons_zero, List.set_cons_succ, i64_w, i32_w, hji26]
                 rfl
                refine Sh.pA 20 59 (Sh.pre 37 21) (any_of HT_.out (by kernel_rfl)) ?_ (ha := by simp only [Act.put, List.setIfInBounds_toArray, List.set_cons_zero, List.set_cons_succ, i64_w, i32_w, hji26]; rfl)
                refine Sh.pA 21 60 (Sh.pre 37 22) (any_of HT_.out (by kernel_rfl)) ?_ (ha := by simp only [Act.put, List.setIfInBounds_toArray, List.set_cons_zero, List.set_cons_succ, i64_w, i32_w, hji26]; rfl)
                refine Sh.pA 22 61 (Sh.pre 37 23) (any_of HT_.out (by kernel_rfl)) ?_ (ha := by simp only [Act.put, List.setIfInBounds_toArray, List.set_cons_zero, List.set_cons_succ, i64_w, i32_w, hji26]; rfl)
                refine Sh.pA 23 62 (Sh.pre 37 24) (any_of HT_.out (by kernel_rfl)) ?_ (ha := by simp only [Act.put, List.setIfInBounds_toArray, List.set_cons_zero, List.set_cons_succ, i64_w, i32_w, hji26]; rfl)
                refine Sh.pA 24 63 (Sh.pre 37 25) (any_of HT_.out (by kernel_rfl)) ?_ (ha := by simp only [Act.put, List.setIfInBounds_toArray, List.set_cons_zero, List.set_cons_succ, i64_w, i32_w, hji26]; rfl)
                refine Sh.pA 25 64 (Sh.pre 37 26) (any_of HT_.out (by kernel_rfl)) ?_ (ha := by simp only [Act.put, List.setIfInBounds_toArray, List.set_cons_zero, List.set_cons_succ, i64_w, i32_w, hji26]; rfl)
                refine Sh.pA 26 65 (Sh.pre 37 27) (any_of HT_.out (by kernel_rfl)) ?_ (ha := by simp only [Act.put, List.setIfInBounds_toArray, List.set_cons_zero, List.set_cons_succ, i64_w, i32_w, hji26]; rfl)
                refine Sh.pA 28 67 #[true, true, true, true, true, true, true, true, true, true, true, true, true, true, true, true, true, true, true, true, true, true, true, true, true, true, true, false, true, false, false, false, false, false, false, false, false] (any_of HT_.out (by kernel_rfl)) ?_ (ha := by simp only [Act.put, List.setIfInBounds_toArray, List.set_cons_zero, List.set_cons_succ, i64_w, i32_w, hji26]; rfl)
                refine Sh.pA 29 68 #[true, true, true, true, true, true, true, true, true, true, true, true, true, true, true, true, true, true, true, true, true, true, true, true, true, true, true, false, true, true, false, false, false, false, false, false, false] (any_of HT_.out (by kernel_rfl)) ?_ (ha := by simp only [Act.put, List.setIfInBounds_toArray, List.set_cons_zero, List.set_cons_succ, i64_w, i32_w, hji26]; rfl)
                refine Sh.tA 27 66 (Sh.pre 37 30) (take_ofW HT_.out HW_.out (by kernel_rfl)) hHeld ?_ (hy := by rintro w' ⟨s0, s1, s2, s3, s4, s5, s6, s7, s8, s9⟩; go_simp; with_reducible rfl) (ha := by simp only [Act.put, List.setIfInBounds_toArray, List.set_cons_zero, List.set_cons_succ, i64_w, i32_w, hji26]; rfl)
                refine Sh.pA 30 69 (Sh.pre 37 31) (any_of HT_.out (by kernel_rfl)) ?_ (ha := by simp only [Act.put, List.setIfInBounds_toArray, List.set_cons_zero, List.set_cons_succ, i64_w, i32_w, hji26]; rfl)
                refine Sh.tA 31 70 (Sh.pre 37 32) (take_ofW HT_.out HW_.out (by kernel_rfl)) hHeld ?_ (hy := by rintro w' ⟨s0, s1, s2, s3, s4, s5, s6, s7, s8, s9⟩; go_simp; with_reducible rfl) (ha := by simp only [Act.put, List.setIfInBounds_toArray, List.set_cons_zero, List.set_cons_succ, i64_w, i32_w, hji26]; rfl)
                refine Sh.tA 32 71 (Sh.pre 37 33) (take_ofW HT_.out HW_.out (by kernel_rfl)) hHeld ?_ (hy := by rintro w' ⟨s0, s1, s2, s3, s4, s5, s6, s7, s8, s9⟩; go_simp; with_reducible rfl) (ha := by simp only [Act.put, List.setIfInBounds_toArray, List.set_cons_zero, List.set_cons_succ, i64_w, i32_w, hji26]; rfl)
                refine one_ (i := 33) (N := some 72) #[true, true, true, true, true, true, true, true, true, true, true, true, true, true, true, true, true, true, true, true, true, true, true, true, true, true, true, true, true, true, true, true, true, true, false, false, false] rfl rfl (one_of HT_.out (by kernel_rfl)) (by decide) (fun K hK => ?_)
                refine goes_ Try.func33 (by kernel_rfl) rfl #[.agg #[.int .i64 ((rd_T51 l0_2 (ji26)).f0), .int .i64 ((rd_T51 l0_2 (ji26)).f1), .int .i64 ((rd_T51 l0_2 (ji26)).f2)], .agg #[.int .i64 ((rd_T51 l0_2 x34_2).f0), .int .i64 ((rd_T51 l0_2 x34_2).f1), .int .i64 ((rd_T51 l0_2 x34_2).f2)]] (by rfl) rfl rfl (by (try simp only [List.map_toArray, List.map_cons, List.map_nil]); first | done | (simp only [hji26]; rfl) | rfl | (simp only [List.length_drop, List.length_take]; rfl)) ?_
                with_reducible refine (spec_l12Less.calls ((rd_T51 l0_2 (ji26)).f0) ((rd_T51 l0_2 (ji26)).f1) ((rd_T51 l0_2 (ji26)).f2) ((rd_T51 l0_2 x34_2).f0) ((rd_T51 l0_2 x34_2).f1) ((rd_T51 l0_2 x34_2).f2) true _ A29.out).mono ?_
                rintro e w36 ⟨rfl, hb⟩
                refine ⟨_, rfl, ?_⟩
                have n0_ := am_ (Sh.bb BK115.out hb)
                have n1_ := am_ (Sh.bb BK120.out hb)
                have n2_ := am_ (below_step Sh.bw hb)
                clear BK115
                clear BK120
                clear HB
                have BK115 := n0_
                have BK120 := n1_
                have HB := n2_
                clear n0_ n1_ n2_
                (try clear hb)
                (try clear hb2)
                (try clear hk)
                (try clear hi)
                refine hK.out _ _ ⟨(blk_cell BK120.out 0).trans rfl, (blk_cell BK120.out 1).trans rfl, (blk_cell BK120.out 2).trans rfl, (blk_cell BK115.out 0).trans rfl, (blk_cell BK115.out 1).trans rfl, (blk_cell BK115.out 2).trans rfl, (blk_cell BK115.out 3).trans rfl, ((HB.out.cell (World.block_lt_of_cell? w _ hw124_0)).trans hw124_0), ((HB.out.cell (World.block_lt_of_cell? w _ hw124_1)).trans hw124_1), ((HB.out.cell (World.block_lt_of_cell? w _ hw124_2)).trans hw124_2)⟩ (fun hHeld => ?_)
                clear hK K
                refine norm_ (a' := ?_) ?_ ?_
                rotate_left
                ·show Act.put _ (some 72) _ = _
                 simp only [Act.put, List.setIfInBounds_toArray, List.set_cons_zero, List.set_cons_succ, i64_w, i32_w, hji26]
                 rfl
                refine Sh.pA 34 73 (Sh.pre 37 35) (any_of HT_.out (by kernel_rfl)) ?_ (ha := by simp only [Act.put, List.setIfInBounds_toArray, List.set_cons_zero, List.set_cons_succ, i64_w, i32_w, hji26]; rfl)
                refine Sh.pA 35 74 (Sh.pre 37 36) (any_of HT_.out (by kernel_rfl)) ?_ (ha := by simp only [Act.put, List.setIfInBounds_toArray, List.set_cons_zero, List.set_cons_succ, i64_w, i32_w, hji26]; rfl)
                refine Sh.pA 36 75 (Sh.pre 37 37) (any_of HT_.out (by kernel_rfl)) ?_ (ha := by simp only [Act.put, List.setIfInBounds_toArray, List.set_cons_zero, List.set_cons_succ, i64_w, i32_w, hji26]; rfl)
                refine done_ (done_of HT_.out (by kernel_rfl)) ?_
                try go_wp2
                go_roundg k2
                case measure => have := HJ1.out; have := HK2.out; omega
                case rel => exact ⟨(wrap64 (x34_2 + 1)), (by first | rfl | (simp; done) | (simp [*]; done)), H', ⟨by have := HJ1.out; have := HK2.out; omega⟩, ⟨by (with_reducible repeat (first | refine blk_drewN ?_ _ | refine blk_drew ?_ | refine blk_alloc ?_ _)); exact BK115.out⟩, ⟨by repeat (first | (with_reducible first | exact HB.out | apply below_alloc | apply pw_below_drewN | apply below_drew1 | refine below_set ?_ GE115.out | refine below_set ?_ GE120.out) | exact HB.out)⟩⟩
               ·replace c30 := Bool.eq_false_iff.mpr c30
                subst c30
                have H1 : (some false) = some r := by rw [if_neg (show ¬ (false = true) by decide)] at H; exact H
                clear H
                have H := H1
                clear H1
                obtain rfl := Option.some.inj H
                have p119 : 0 ≤ (x34_2 : Int) := of_decide_eq_true (by first | (with_reducible assumption) | assumption)
                have q119 : x34_2 < (l0_2.length : Int) := of_decide_eq_true (by first | (with_reducible assumption) | assumption)
                obtain ⟨ad119, e119, hx119_0, hx119_1, hx119_2⟩ := at_T51 HR0_2.out x34_2 p119 q119
                cases e119
                (try replace hx119_0 := (HB.out.cell (World.block_lt_of_cell? w _ hx119_0)).trans hx119_0)
                (try replace hx119_1 := (HB.out.cell (World.block_lt_of_cell? w _ hx119_1)).trans hx119_1)
                (try replace hx119_2 := (HB.out.cell (World.block_lt_of_cell? w _ hx119_2)).trans hx119_2)
                replace p119 := eq_true p119
                replace q119 := eq_true q119
                try go_wp2_with (first | ((with_reducible refine gate_dst (N := 4) rfl ?_); (try (refine gate_guard (by rfl) ?_; dsimp only)); refine Sh.bx (N := 4) (cs := #[.int .i64 0, .int .i64 0, .int .i64 0]) (t := 51) (h := ?_); intro gb120 hg w37 hbox hb; have n0_ := am_ (Sh.bb BK115.out hb); have n1_ := am_ (below_step Sh.bw hb); have n2_ := am_ (hbox); have n3_ := am_ (Sh.gw (w := w) hg); have n4_ := am_ (Sh.gw (w := w) hg); have n5_ := am_ (Sh.nl hg BK115.out); have n6_ := am_ (Sh.ng hg BK115.out); clear BK115; clear HB; have BK115 := n0_; have HB := n1_; have BK120 := n2_; have GW120 := n3_; have GE120 := n4_; have NB115_120 := n5_; have NB120_115 := n6_; clear n0_ n1_ n2_ n3_ n4_ n5_ n6_; clear hb hbox hg; have hnb38 := NB120_115.out; have hnc38 := NB115_120.out; have hcz39_0 := Sh.bc BK120.out 0; have hcz39_1 := Sh.bc BK120.out 1; have hcz39_2 := Sh.bc BK120.out 2; have hfz39_0 := blk_frozen BK120.out 0; have hfz39_1 := blk_frozen BK120.out 1; have hfz39_2 := blk_frozen BK120.out 2))
                have n0_ : Aside0 ((((w37.setCell ⟨gb120, 0, none⟩ (.int .i64 ((rd_T51 l0_2 x34_2).f0))).setCell ⟨gb120, 1, none⟩ (.int .i64 ((rd_T51 l0_2 x34_2).f1))).setCell ⟨gb120, 2, none⟩ (.int .i64 ((rd_T51 l0_2 x34_2).f2))).heap[gb115]? = some (.cells #[.int .i64 a0_0, .slice A0_1 l0_1.length c0_1, .slice (some ad119) l0_2.length c0_2, .slice A0_3 l0_3.length c0_3] 32 (0, 0))) := ⟨by (with_reducible repeat (first | refine blk_drewN ?_ _ | refine blk_drew ?_ | refine blk_alloc ?_ _)); refine blk_far ?_ NB115_120.out _; (with_reducible repeat (first | refine blk_drewN ?_ _ | refine blk_drew ?_ | refine blk_alloc ?_ _)); refine blk_far ?_ NB115_120.out _; (with_reducible repeat (first | refine blk_drewN ?_ _ | refine blk_drew ?_ | refine blk_alloc ?_ _)); refine blk_far ?_ NB115_120.out _; (with_reducible repeat (first | refine blk_drewN ?_ _ | refine blk_drew ?_ | refine blk_alloc ?_ _)); exact BK115.out⟩
                have n1_ : Aside0 ((((w37.setCell ⟨gb120, 0, none⟩ (.int .i64 ((rd_T51 l0_2 x34_2).f0))).setCell ⟨gb120, 1, none⟩ (.int .i64 ((rd_T51 l0_2 x34_2).f1))).setCell ⟨gb120, 2, none⟩ (.int .i64 ((rd_T51 l0_2 x34_2).f2))).heap[gb120]? = some (.cells #[.int .i64 ((rd_T51 l0_2 x34_2).f0), .int .i64 ((rd_T51 l0_2 x34_2).f1), .int .i64 ((rd_T51 l0_2 x34_2).f2)] 51 (0, 0))) := ⟨by (with_reducible repeat (first | refine blk_drewN ?_ _ | refine blk_drew ?_ | refine blk_alloc ?_ _)); refine blk_put (cs := #[.int .i64 ((rd_T51 l0_2 x34_2).f0), .int .i64 ((rd_T51 l0_2 x34_2).f1), .int .i64 0]) ?_ 2 _ rfl; (with_reducible repeat (first | refine blk_drewN ?_ _ | refine blk_drew ?_ | refine blk_alloc ?_ _)); refine blk_put (cs := #[.int .i64 ((rd_T51 l0_2 x34_2).f0), .int .i64 0, .int .i64 0]) ?_ 1 _ rfl; (with_reducible repeat (first | refine blk_drewN ?_ _ | refine blk_drew ?_ | refine blk_alloc ?_ _)); refine blk_put (cs := #[.int .i64 0, .int .i64 0, .int .i64 0]) ?_ 0 _ rfl; (with_reducible repeat (first | refine blk_drewN ?_ _ | refine blk_drew ?_ | refine blk_alloc ?_ _)); exact BK120.out⟩
                have n2_ : Aside0 (Below w.heap.size w (((w37.setCell ⟨gb120, 0, none⟩ (.int .i64 ((rd_T51 l0_2 x34_2).f0))).setCell ⟨gb120, 1, none⟩ (.int .i64 ((rd_T51 l0_2 x34_2).f1))).setCell ⟨gb120, 2, none⟩ (.int .i64 ((rd_T51 l0_2 x34_2).f2)))) := ⟨by repeat (first | (with_reducible first | exact HB.out | apply below_alloc | apply pw_below_drewN | apply below_drew1 | refine below_set ?_ GE115.out | refine below_set ?_ GE120.out) | exact HB.out)⟩
                (try clear BK115)
                (try clear BK120)
                (try clear HB)
                generalize (((w37.setCell ⟨gb120, 0, none⟩ (.int .i64 ((rd_T51 l0_2 x34_2).f0))).setCell ⟨gb120, 1, none⟩ (.int .i64 ((rd_T51 l0_2 x34_2).f1))).setCell ⟨gb120, 2, none⟩ (.int .i64 ((rd_T51 l0_2 x34_2).f2))) = w40 at n0_ n1_ n2_ ⊢
                have BK115 := n0_
                have BK120 := n1_
                have HB := n2_
                clear n0_ n1_ n2_
                have n0_ := am_ (blk_drew BK115.out)
                have n1_ := am_ (blk_drew BK120.out)
                have n2_ := am_ (below_drew1 HB.out)
                clear BK115
                clear BK120
                clear HB
                have BK115 := n0_
                have BK120 := n1_
                have HB := n2_
                clear n0_ n1_ n2_
                have p124 : 0 ≤ ((ji26) : Int) := of_decide_eq_true (by first | (with_reducible assumption) | assumption)
                have q124 : (ji26) < (l0_2.length : Int) := of_decide_eq_true (by first | (with_reducible assumption) | assumption)
                obtain ⟨ad124, e124, hx124_0, hx124_1, hx124_2⟩ := at_T51 HR0_2.out (ji26) p124 q124
                have hw124_2 := hx124_2
                have hw124_1 := hx124_1
                have hw124_0 := hx124_0
                obtain rfl : ad119 = ad124 := (by injection e124)
                (try replace hx124_0 := (HB.out.cell (World.block_lt_of_cell? w _ hx124_0)).trans hx124_0)
                (try replace hx124_1 := (HB.out.cell (World.block_lt_of_cell? w _ hx124_1)).trans hx124_1)
                (try replace hx124_2 := (HB.out.cell (World.block_lt_of_cell? w _ hx124_2)).trans hx124_2)
                replace p124 := eq_true p124
                replace q124 := eq_true q124
                refine start_ (n := 37) (S := fun w' => w'.cell? ⟨gb120, 0, none⟩ = some (.int .i64 ((rd_T51 l0_2 x34_2).f0)) ∧ w'.cell? ⟨gb120, 1, none⟩ = some (.int .i64 ((rd_T51 l0_2 x34_2).f1)) ∧ w'.cell? ⟨gb120, 2, none⟩ = some (.int .i64 ((rd_T51 l0_2 x34_2).f2)) ∧ w'.cell? ⟨gb115, 0, none⟩ = some (.int .i64 a0_0) ∧ w'.cell? ⟨gb115, 1, none⟩ = some (.slice A0_1 l0_1.length c0_1) ∧ w'.cell? ⟨gb115, 2, none⟩ = some (.slice (some ad119) l0_2.length c0_2) ∧ w'.cell? ⟨gb115, 3, none⟩ = some (.slice A0_3 l0_3.length c0_3) ∧ w'.cell? (ad119.add (((ji26)).toNat * 3)) = some (.int .i64 ((rd_T51 l0_2 (ji26)).f0)) ∧ w'.cell? ⟨(ad119.add (((ji26)).toNat * 3)).block, (ad119.add (((ji26)).toNat * 3)).off + 1, none⟩ = some (.int .i64 ((rd_T51 l0_2 (ji26)).f1)) ∧ w'.cell? ⟨(ad119.add (((ji26)).toNat * 3)).block, (ad119.add (((ji26)).toNat * 3)).off + 2, none⟩ = some (.int .i64 ((rd_T51 l0_2 (ji26)).f2))) (ds := []) #[false, false, false, false, false, false, false, false, false, false, false, false, false, false, false, false, false, false, false, false, false, false, false, false, false, false, false, false, false, false, false, false, false, false, false, false, false] (by kernel_rfl) rfl rfl ⟨(blk_cell BK120.out 0).trans rfl, (blk_cell BK120.out 1).trans rfl, (blk_cell BK120.out 2).trans rfl, (blk_cell BK115.out 0).trans rfl, (blk_cell BK115.out 1).trans rfl, (blk_cell BK115.out 2).trans rfl, (blk_cell BK115.out 3).trans rfl, ((HB.out.cell (World.block_lt_of_cell? w _ hw124_0)).trans hw124_0), ((HB.out.cell (World.block_lt_of_cell? w _ hw124_1)).trans hw124_1), ((HB.out.cell (World.block_lt_of_cell? w _ hw124_2)).trans hw124_2)⟩ (fun hHeld => ?_); refine with_tabW spec_GoodAuto.tab6 spec_GoodAuto.bits6 (fun HT_ HW_ => ?_)
                generalize w40.drew = w41 at BK115 BK120 HB hx124_0 hx124_1 hx124_2 hHeld ⊢
                refine Sh.pA 0 39 (Sh.pre 37 1) (any_of HT_.out (by kernel_rfl)) ?_ (ha := by simp only [Act.put, List.setIfInBounds_toArray, List.set_cons_zero, List.set_cons_succ, i64_w, i32_w, hji26]; rfl)
                refine Sh.pA 2 41 #[true, false, true, false, false, false, false, false, false, false, false, false, false, false, false, false, false, false, false, false, false, false, false, false, false, false, false, false, false, false, false, false, false, false, false, false, false] (any_of HT_.out (by kernel_rfl)) ?_ (ha := by simp only [Act.put, List.setIfInBounds_toArray, List.set_cons_zero, List.set_cons_succ, i64_w, i32_w, hji26]; rfl)
                refine Sh.tA 1 40 (Sh.pre 37 3) (take_ofW HT_.out HW_.out (by kernel_rfl)) hHeld ?_ (hy := by rintro w' ⟨s0, s1, s2, s3, s4, s5, s6, s7, s8, s9⟩; go_simp; with_reducible rfl) (ha := by simp only [Act.put, List.setIfInBounds_toArray, List.set_cons_zero, List.set_cons_succ, i64_w, i32_w, hji26]; rfl)
                refine Sh.tA 3 42 (Sh.pre 37 4) (take_ofW HT_.out HW_.out (by kernel_rfl)) hHeld ?_ (hy := by rintro w' ⟨s0, s1, s2, s3, s4, s5, s6, s7, s8, s9⟩; go_simp; with_reducible rfl) (ha := by simp only [Act.put, List.setIfInBounds_toArray, List.set_cons_zero, List.set_cons_succ, i64_w, i32_w, hji26]; rfl)
                refine Sh.pA 4 43 (Sh.pre 37 5) (any_of HT_.out (by kernel_rfl)) ?_ (ha := by simp only [Act.put, List.setIfInBounds_toArray, List.set_cons_zero, List.set_cons_succ, i64_w, i32_w, hji26]; rfl)
                refine one_ (i := 5) (N := some 44) #[true, true, true, true, true, true, false, false, false, false, false, false, false, false, false, false, false, false, false, false, false, false, false, false, false, false, false, false, false, false, false, false, false, false, false, false, false] rfl rfl (one_of HT_.out (by kernel_rfl)) (by decide) (fun K hK => ?_)
                refine goes_ Try.func19 (by kernel_rfl) rfl #[.int .i64 ((rd_T51 l0_2 x34_2).f0), .int .i64 0, .int .i64 (wrap64 (a0_0 - 1))] (by rfl) rfl rfl (by (try simp only [List.map_toArray, List.map_cons, List.map_nil]); first | done | rfl | (simp only [List.length_drop, List.length_take]; rfl)) ?_
                with_reducible refine (spec_l1In.calls ((rd_T51 l0_2 x34_2).f0) 0 (wrap64 (a0_0 - 1)) true _ A19.out).mono ?_
                rintro e w' ⟨rfl, ⟨nd, rfl⟩⟩
                refine ⟨_, rfl, ?_⟩
                refine hK.out _ _ ⟨(blk_cell BK120.out 0).trans rfl, (blk_cell BK120.out 1).trans rfl, (blk_cell BK120.out 2).trans rfl, (blk_cell BK115.out 0).trans rfl, (blk_cell BK115.out 1).trans rfl, (blk_cell BK115.out 2).trans rfl, (blk_cell BK115.out 3).trans rfl, ((HB.out.cell (World.block_lt_of_cell? w _ hw124_0)).trans hw124_0), ((HB.out.cell (World.block_lt_of_cell? w _ hw124_1)).trans hw124_1), ((HB.out.cell (World.block_lt_of_cell? w _ hw124_2)).trans hw124_2)⟩ (fun hHeld => ?_)
                clear hK K
                refine norm_ (a' := ?_) ?_ ?_
                rotate_left
                ·show Act.put _ (some 44) _ = _
                 simp only [Act.put, List.setIfInBounds_toArray, List.set_cons_zero, List.set_cons_succ, i64_w, i32_w, hji26]
                 rfl
                refine Sh.pA 6 45 (Sh.pre 37 7) (any_of HT_.out (by kernel_rfl)) ?_ (ha := by simp only [Act.put, List.setIfInBounds_toArray, List.set_cons_zero, List.set_cons_succ, i64_w, i32_w, hji26]; rfl)
                refine Sh.pA 7 46 (Sh.pre 37 8) (any_of HT_.out (by kernel_rfl)) ?_ (ha := by simp only [Act.put, List.setIfInBounds_toArray, List.set_cons_zero, List.set_cons_succ, i64_w, i32_w, hji26]; rfl)
                refine Sh.pA 8 47 (Sh.pre 37 9) (any_of HT_.out (by kernel_rfl)) ?_ (ha := by simp only [Act.put, List.setIfInBounds_toArray, List.set_cons_zero, List.set_cons_succ, i64_w, i32_w, hji26]; rfl)
                refine Sh.tA 9 48 (Sh.pre 37 10) (take_ofW HT_.out HW_.out (by kernel_rfl)) hHeld ?_ (hy := by rintro w' ⟨s0, s1, s2, s3, s4, s5, s6, s7, s8, s9⟩; go_simp; with_reducible rfl) (ha := by simp only [Act.put, List.setIfInBounds_toArray, List.set_cons_zero, List.set_cons_succ, i64_w, i32_w, hji26]; rfl)
                refine one_ (i := 10) (N := some 49) #[true, true, true, true, true, true, true, true, true, true, true, false, false, false, false, false, false, false, false, false, false, false, false, false, false, false, false, false, false, false, false, false, false, false, false, false, false] rfl rfl (one_of HT_.out (by kernel_rfl)) (by decide) (fun K hK => ?_)
                refine goes_ Try.func19 (by kernel_rfl) rfl #[.int .i64 ((rd_T51 l0_2 x34_2).f1), .int .i64 0, .int .i64 7] (by rfl) rfl rfl (by (try simp only [List.map_toArray, List.map_cons, List.map_nil]); first | done | rfl | (simp only [List.length_drop, List.length_take]; rfl)) ?_
                with_reducible refine (spec_l1In.calls ((rd_T51 l0_2 x34_2).f1) 0 7 true _ A21.out).mono ?_
                rintro e w' ⟨rfl, ⟨nd, rfl⟩⟩
                refine ⟨_, rfl, ?_⟩
                refine hK.out _ _ ⟨(blk_cell BK120.out 0).trans rfl, (blk_cell BK120.out 1).trans rfl, (blk_cell BK120.out 2).trans rfl, (blk_cell BK115.out 0).trans rfl, (blk_cell BK115.out 1).trans rfl, (blk_cell BK115.out 2).trans rfl, (blk_cell BK115.out 3).trans rfl, ((HB.out.cell (World.block_lt_of_cell? w _ hw124_0)).trans hw124_0), ((HB.out.cell (World.block_lt_of_cell? w _ hw124_1)).trans hw124_1), ((HB.out.cell (World.block_lt_of_cell? w _ hw124_2)).trans hw124_2)⟩ (fun hHeld => ?_)
                clear hK K
                refine norm_ (a' := ?_) ?_ ?_
                rotate_left
                ·show Act.put _ (some 49) _ = _
                 simp only [Act.put, List.setIfInBounds_toArray, List.set_cons_zero, List.set_cons_succ, i64_w, i32_w, hji26]
                 rfl
                refine Sh.pA 11 50 (Sh.pre 37 12) (any_of HT_.out (by kernel_rfl)) ?_ (ha := by simp only [Act.put, List.setIfInBounds_toArray, List.set_cons_zero, List.set_cons_succ, i64_w, i32_w, hji26]; rfl)
                refine Sh.pA 12 51 (Sh.pre 37 13) (any_of HT_.out (by kernel_rfl)) ?_ (ha := by simp only [Act.put, List.setIfInBounds_toArray, List.set_cons_zero, List.set_cons_succ, i64_w, i32_w, hji26]; rfl)
                refine Sh.pA 13 52 (Sh.pre 37 14) (any_of HT_.out (by kernel_rfl)) ?_ (ha := by simp only [Act.put, List.setIfInBounds_toArray, List.set_cons_zero, List.set_cons_succ, i64_w, i32_w, hji26]; rfl)
                refine Sh.pA 14 53 (Sh.pre 37 15) (any_of HT_.out (by kernel_rfl)) ?_ (ha := by simp only [Act.put, List.setIfInBounds_toArray, List.set_cons_zero, List.set_cons_succ, i64_w, i32_w, hji26]; rfl)
                refine Sh.pA 16 55 #[true, true, true, true, true, true, true, true, true, true, true, true, true, true, true, false, true, false, false, false, false, false, false, false, false, false, false, false, false, false, false, false, false, false, false, false, false] (any_of HT_.out (by kernel_rfl)) ?_ (ha := by simp only [Act.put, List.setIfInBounds_toArray, List.set_cons_zero, List.set_cons_succ, i64_w, i32_w, hji26]; rfl)
                refine Sh.tA 15 54 (Sh.pre 37 17) (take_ofW HT_.out HW_.out (by kernel_rfl)) hHeld ?_ (hy := by rintro w' ⟨s0, s1, s2, s3, s4, s5, s6, s7, s8, s9⟩; go_simp; with_reducible rfl) (ha := by simp only [Act.put, List.setIfInBounds_toArray, List.set_cons_zero, List.set_cons_succ, i64_w, i32_w, hji26]; rfl)
                refine Sh.tA 17 56 (Sh.pre 37 18) (take_ofW HT_.out HW_.out (by kernel_rfl)) hHeld ?_ (hy := by rintro w' ⟨s0, s1, s2, s3, s4, s5, s6, s7, s8, s9⟩; go_simp; with_reducible rfl) (ha := by simp only [Act.put, List.setIfInBounds_toArray, List.set_cons_zero, List.set_cons_succ, i64_w, i32_w, hji26]; rfl)
                refine Sh.pA 18 57 (Sh.pre 37 19) (any_of HT_.out (by kernel_rfl)) ?_ (ha := by simp only [Act.put, List.setIfInBounds_toArray, List.set_cons_zero, List.set_cons_succ, i64_w, i32_w, hji26]; rfl)
                refine one_ (i := 19) (N := some 58) #[true, true, true, true, true, true, true, true, true, true, true, true, true, true, true, true, true, true, true, true, false, false, false, false, false, false, false, false, false, false, false, false, false, false, false, false, false] rfl rfl (one_of HT_.out (by kernel_rfl)) (by decide) (fun K hK => ?_)
                refine goes_ Try.func19 (by kernel_rfl) rfl #[.int .i64 ((rd_T51 l0_2 x34_2).f2), .int .i64 0, .int .i64 (wrap64 (a0_0 - 1))] (by rfl) rfl rfl (by (try simp only [List.map_toArray, List.map_cons, List.map_nil]); first | done | rfl | (simp only [List.length_drop, List.length_take]; rfl)) ?_
                with_reducible refine (spec_l1In.calls ((rd_T51 l0_2 x34_2).f2) 0 (wrap64 (a0_0 - 1)) true _ A23.out).mono ?_
                rintro e w' ⟨rfl, ⟨nd, rfl⟩⟩
                refine ⟨_, rfl, ?_⟩
                refine hK.out _ _ ⟨(blk_cell BK120.out 0).trans rfl, (blk_cell BK120.out 1).trans rfl, (blk_cell BK120.out 2).trans rfl, (blk_cell BK115.out 0).trans rfl, (blk_cell BK115.out 1).trans rfl, (blk_cell BK115.out 2).trans rfl, (blk_cell BK115.out 3).trans rfl, ((HB.out.cell (World.block_lt_of_cell? w _ hw124_0)).trans hw124_0), ((HB.out.cell (World.block_lt_of_cell? w _ hw124_1)).trans hw124_1), ((HB.out.cell (World.block_lt_of_cell? w _ hw124_2)).trans hw124_2)⟩ (fun hHeld => ?_)
                clear hK K
                refine norm_ (a' := ?_) ?_ ?_
                rotate_left
                ·show Act.put _ (some 58) _ = _
                 simp only [Act.put, List.setIfInBounds_toArray, List.set_cons_zero, List.set_cons_succ, i64_w, i32_w, hji26]
                 rfl
                refine Sh.pA 20 59 (Sh.pre 37 21) (any_of HT_.out (by kernel_rfl)) ?_ (ha := by simp only [Act.put, List.setIfInBounds_toArray, List.set_cons_zero, List.set_cons_succ, i64_w, i32_w, hji26]; rfl)
                refine Sh.pA 21 60 (Sh.pre 37 22) (any_of HT_.out (by kernel_rfl)) ?_ (ha := by simp only [Act.put, List.setIfInBounds_toArray, List.set_cons_zero, List.set_cons_succ, i64_w, i32_w, hji26]; rfl)
                refine Sh.pA 22 61 (Sh.pre 37 23) (any_of HT_.out (by kernel_rfl)) ?_ (ha := by simp only [Act.put, List.setIfInBounds_toArray, List.set_cons_zero, List.set_cons_succ, i64_w, i32_w, hji26]; rfl)
                refine Sh.pA 23 62 (Sh.pre 37 24) (any_of HT_.out (by kernel_rfl)) ?_ (ha := by simp only [Act.put, List.setIfInBounds_toArray, List.set_cons_zero, List.set_cons_succ, i64_w, i32_w, hji26]; rfl)
                refine Sh.pA 24 63 (Sh.pre 37 25) (any_of HT_.out (by kernel_rfl)) ?_ (ha := by simp only [Act.put, List.setIfInBounds_toArray, List.set_cons_zero, List.set_cons_succ, i64_w, i32_w, hji26]; rfl)
                refine Sh.pA 25 64 (Sh.pre 37 26) (any_of HT_.out (by kernel_rfl)) ?_ (ha := by simp only [Act.put, List.setIfInBounds_toArray, List.set_cons_zero, List.set_cons_succ, i64_w, i32_w, hji26]; rfl)
                refine Sh.pA 26 65 (Sh.pre 37 27) (any_of HT_.out (by kernel_rfl)) ?_ (ha := by simp only [Act.put, List.setIfInBounds_toArray, List.set_cons_zero, List.set_cons_succ, i64_w, i32_w, hji26]; rfl)
                refine Sh.pA 28 67 #[true, true, true, true, true, true, true, true, true, true, true, true, true, true, true, true, true, true, true, true, true, true, true, true, true, true, true, false, true, false, false, false, false, false, false, false, false] (any_of HT_.out (by kernel_rfl)) ?_ (ha := by simp only [Act.put, List.setIfInBounds_toArray, List.set_cons_zero, List.set_cons_succ, i64_w, i32_w, hji26]; rfl)
                refine Sh.pA 29 68 #[true, true, true, true, true, true, true, true, true, true, true, true, true, true, true, true, true, true, true, true, true, true, true, true, true, true, true, false, true, true, false, false, false, false, false, false, false] (any_of HT_.out (by kernel_rfl)) ?_ (ha := by simp only [Act.put, List.setIfInBounds_toArray, List.set_cons_zero, List.set_cons_succ, i64_w, i32_w, hji26]; rfl)
                refine Sh.tA 27 66 (Sh.pre 37 30) (take_ofW HT_.out HW_.out (by kernel_rfl)) hHeld ?_ (hy := by rintro w' ⟨s0, s1, s2, s3, s4, s5, s6, s7, s8, s9⟩; go_simp; with_reducible rfl) (ha := by simp only [Act.put, List.setIfInBounds_toArray, List.set_cons_zero, List.set_cons_succ, i64_w, i32_w, hji26]; rfl)
                refine Sh.pA 30 69 (Sh.pre 37 31) (any_of HT_.out (by kernel_rfl)) ?_ (ha := by simp only [Act.put, List.setIfInBounds_toArray, List.set_cons_zero, List.set_cons_succ, i64_w, i32_w, hji26]; rfl)
                refine Sh.tA 31 70 (Sh.pre 37 32) (take_ofW HT_.out HW_.out (by kernel_rfl)) hHeld ?_ (hy := by rintro w' ⟨s0, s1, s2, s3, s4, s5, s6, s7, s8, s9⟩; go_simp; with_reducible rfl) (ha := by simp only [Act.put, List.setIfInBounds_toArray, List.set_cons_zero, List.set_cons_succ, i64_w, i32_w, hji26]; rfl)
                refine Sh.tA 32 71 (Sh.pre 37 33) (take_ofW HT_.out HW_.out (by kernel_rfl)) hHeld ?_ (hy := by rintro w' ⟨s0, s1, s2, s3, s4, s5, s6, s7, s8, s9⟩; go_simp; with_reducible rfl) (ha := by simp only [Act.put, List.setIfInBounds_toArray, List.set_cons_zero, List.set_cons_succ, i64_w, i32_w, hji26]; rfl)
                refine one_ (i := 33) (N := some 72) #[true, true, true, true, true, true, true, true, true, true, true, true, true, true, true, true, true, true, true, true, true, true, true, true, true, true, true, true, true, true, true, true, true, true, false, false, false] rfl rfl (one_of HT_.out (by kernel_rfl)) (by decide) (fun K hK => ?_)
                refine goes_ Try.func33 (by kernel_rfl) rfl #[.agg #[.int .i64 ((rd_T51 l0_2 (ji26)).f0), .int .i64 ((rd_T51 l0_2 (ji26)).f1), .int .i64 ((rd_T51 l0_2 (ji26)).f2)], .agg #[.int .i64 ((rd_T51 l0_2 x34_2).f0), .int .i64 ((rd_T51 l0_2 x34_2).f1), .int .i64 ((rd_T51 l0_2 x34_2).f2)]] (by rfl) rfl rfl (by (try simp only [List.map_toArray, List.map_cons, List.map_nil]); first | done | (simp only [hji26]; rfl) | rfl | (simp only [List.length_drop, List.length_take]; rfl)) ?_
                with_reducible refine (spec_l12Less.calls ((rd_T51 l0_2 (ji26)).f0) ((rd_T51 l0_2 (ji26)).f1) ((rd_T51 l0_2 (ji26)).f2) ((rd_T51 l0_2 x34_2).f0) ((rd_T51 l0_2 x34_2).f1) ((rd_T51 l0_2 x34_2).f2) false _ A29.out).mono ?_
                rintro e w42 ⟨rfl, hb⟩
                refine ⟨_, rfl, ?_⟩
                have n0_ := am_ (Sh.bb BK115.out hb)
                have n1_ := am_ (Sh.bb BK120.out hb)
                have n2_ := am_ (below_step Sh.bw hb)
                clear BK115
                clear BK120
                clear HB
                have BK115 := n0_
                have BK120 := n1_
                have HB := n2_
                clear n0_ n1_ n2_
                (try clear hb)
                (try clear hb2)
                (try clear hk)
                (try clear hi)
                refine hK.out _ _ ⟨(blk_cell BK120.out 0).trans rfl, (blk_cell BK120.out 1).trans rfl, (blk_cell BK120.out 2).trans rfl, (blk_cell BK115.out 0).trans rfl, (blk_cell BK115.out 1).trans rfl, (blk_cell BK115.out 2).trans rfl, (blk_cell BK115.out 3).trans rfl, ((HB.out.cell (World.block_lt_of_cell? w _ hw124_0)).trans hw124_0), ((HB.out.cell (World.block_lt_of_cell? w _ hw124_1)).trans hw124_1), ((HB.out.cell (World.block_lt_of_cell? w _ hw124_2)).trans hw124_2)⟩ (fun hHeld => ?_)
                clear hK K
                refine norm_ (a' := ?_) ?_ ?_
                rotate_left
                ·show Act.put _ (some 72) _ = _
                 simp only [Act.put, List.setIfInBounds_toArray, List.set_cons_zero, List.set_cons_succ, i64_w, i32_w, hji26]
                 rfl
                refine Sh.pA 34 73 (Sh.pre 37 35) (any_of HT_.out (by kernel_rfl)) ?_ (ha := by simp only [Act.put, List.setIfInBounds_toArray, List.set_cons_zero, List.set_cons_succ, i64_w, i32_w, hji26]; rfl)
                refine Sh.pA 35 74 (Sh.pre 37 36) (any_of HT_.out (by kernel_rfl)) ?_ (ha := by simp only [Act.put, List.setIfInBounds_toArray, List.set_cons_zero, List.set_cons_succ, i64_w, i32_w, hji26]; rfl)
                refine Sh.pA 36 75 (Sh.pre 37 37) (any_of HT_.out (by kernel_rfl)) ?_ (ha := by simp only [Act.put, List.setIfInBounds_toArray, List.set_cons_zero, List.set_cons_succ, i64_w, i32_w, hji26]; rfl)
                refine done_ (done_of HT_.out (by kernel_rfl)) ?_
                try go_wp2
                go_ret
                exact ⟨by first | rfl | (simp [errW_none, errW_some] <;> rfl) | (simp only [← hji26]; first | rfl | (simp [errW_none, errW_some] <;> rfl)) | (simp [*, errW_none, errW_some] <;> rfl), Sh.bw⟩
              ·rw [if_neg c28] at H
               exact absurd H (by simp)
             ·rw [if_neg c27] at H
              exact absurd H (by simp)
            ·rw [if_neg c25] at H
             have c25b0 : decide (0 < x34_2) = false := decide_eq_false c25
             clear c25
             have H' := am_ H
             clear H
             have p119 : 0 ≤ (x34_2 : Int) := of_decide_eq_true (by first | (with_reducible assumption) | assumption)
             have q119 : x34_2 < (l0_2.length : Int) := of_decide_eq_true (by first | (with_reducible assumption) | assumption)
             obtain ⟨ad119, e119, hx119_0, hx119_1, hx119_2⟩ := at_T51 HR0_2.out x34_2 p119 q119
             cases e119
             (try replace hx119_0 := (HB.out.cell (World.block_lt_of_cell? w _ hx119_0)).trans hx119_0)
             (try replace hx119_1 := (HB.out.cell (World.block_lt_of_cell? w _ hx119_1)).trans hx119_1)
             (try replace hx119_2 := (HB.out.cell (World.block_lt_of_cell? w _ hx119_2)).trans hx119_2)
             replace p119 := eq_true p119
             replace q119 := eq_true q119
             try go_wp2_with (first | ((with_reducible refine gate_dst (N := 4) rfl ?_); (try (refine gate_guard (by rfl) ?_; dsimp only)); refine Sh.bx (N := 4) (cs := #[.int .i64 0, .int .i64 0, .int .i64 0]) (t := 51) (h := ?_); intro gb120 hg w43 hbox hb; have n0_ := am_ (Sh.bb BK115.out hb); have n1_ := am_ (below_step Sh.bw hb); have n2_ := am_ (hbox); have n3_ := am_ (Sh.gw (w := w) hg); have n4_ := am_ (Sh.gw (w := w) hg); have n5_ := am_ (Sh.nl hg BK115.out); have n6_ := am_ (Sh.ng hg BK115.out); clear BK115; clear HB; have BK115 := n0_; have HB := n1_; have BK120 := n2_; have GW120 := n3_; have GE120 := n4_; have NB115_120 := n5_; have NB120_115 := n6_; clear n0_ n1_ n2_ n3_ n4_ n5_ n6_; clear hb hbox hg; have hnb44 := NB120_115.out; have hnc44 := NB115_120.out; have hcz45_0 := Sh.bc BK120.out 0; have hcz45_1 := Sh.bc BK120.out 1; have hcz45_2 := Sh.bc BK120.out 2; have hfz45_0 := blk_frozen BK120.out 0; have hfz45_1 := blk_frozen BK120.out 1; have hfz45_2 := blk_frozen BK120.out 2))
             have n0_ : Aside0 ((((w43.setCell ⟨gb120, 0, none⟩ (.int .i64 ((rd_T51 l0_2 x34_2).f0))).setCell ⟨gb120, 1, none⟩ (.int .i64 ((rd_T51 l0_2 x34_2).f1))).setCell ⟨gb120, 2, none⟩ (.int .i64 ((rd_T51 l0_2 x34_2).f2))).heap[gb115]? = some (.cells #[.int .i64 a0_0, .slice A0_1 l0_1.length c0_1, .slice (some ad119) l0_2.length c0_2, .slice A0_3 l0_3.length c0_3] 32 (0, 0))) := ⟨by (with_reducible repeat (first | refine blk_drewN ?_ _ | refine blk_drew ?_ | refine blk_alloc ?_ _)); refine blk_far ?_ NB115_120.out _; (with_reducible repeat (first | refine blk_drewN ?_ _ | refine blk_drew ?_ | refine blk_alloc ?_ _)); refine blk_far ?_ NB115_120.out _; (with_reducible repeat (first | refine blk_drewN ?_ _ | refine blk_drew ?_ | refine blk_alloc ?_ _)); refine blk_far ?_ NB115_120.out _; (with_reducible repeat (first | refine blk_drewN ?_ _ | refine blk_drew ?_ | refine blk_alloc ?_ _)); exact BK115.out⟩
             have n1_ : Aside0 ((((w43.setCell ⟨gb120, 0, none⟩ (.int .i64 ((rd_T51 l0_2 x34_2).f0))).setCell ⟨gb120, 1, none⟩ (.int .i64 ((rd_T51 l0_2 x34_2).f1))).setCell ⟨gb120, 2, none⟩ (.int .i64 ((rd_T51 l0_2 x34_2).f2))).heap[gb120]? = some (.cells #[.int .i64 ((rd_T51 l0_2 x34_2).f0), .int .i64 ((rd_T51 l0_2 x34_2).f1), .int .i64 ((rd_T51 l0_2 x34_2).f2)] 51 (0, 0))) := ⟨by (with_reducible repeat (first | refine blk_drewN ?_ _ | refine blk_drew ?_ | refine blk_alloc ?_ _)); refine blk_put (cs := #[.int .i64 ((rd_T51 l0_2 x34_2).f0), .int .i64 ((rd_T51 l0_2 x34_2).f1), .int .i64 0]) ?_ 2 _ rfl; (with_reducible repeat (first | refine blk_drewN ?_ _ | refine blk_drew ?_ | refine blk_alloc ?_ _)); refine blk_put (cs := #[.int .i64 ((rd_T51 l0_2 x34_2).f0), .int .i64 0, .int .i64 0]) ?_ 1 _ rfl; (with_reducible repeat (first | refine blk_drewN ?_ _ | refine blk_drew ?_ | refine blk_alloc ?_ _)); refine blk_put (cs := #[.int .i64 0, .int .i64 0, .int .i64 0]) ?_ 0 _ rfl; (with_reducible repeat (first | refine blk_drewN ?_ _ | refine blk_drew ?_ | refine blk_alloc ?_ _)); exact BK120.out⟩
             have n2_ : Aside0 (Below w.heap.size w (((w43.setCell ⟨gb120, 0, none⟩ (.int .i64 ((rd_T51 l0_2 x34_2).f0))).setCell ⟨gb120, 1, none⟩ (.int .i64 ((rd_T51 l0_2 x34_2).f1))).setCell ⟨gb120, 2, none⟩ (.int .i64 ((rd_T51 l0_2 x34_2).f2)))) := ⟨by repeat (first | (with_reducible first | exact HB.out | apply below_alloc | apply pw_below_drewN | apply below_drew1 | refine below_set ?_ GE115.out | refine below_set ?_ GE120.out) | exact HB.out)⟩
             (try clear BK115)
             (try clear BK120)
             (try clear HB)
             generalize (((w43.setCell ⟨gb120, 0, none⟩ (.int .i64 ((rd_T51 l0_2 x34_2).f0))).setCell ⟨gb120, 1, none⟩ (.int .i64 ((rd_T51 l0_2 x34_2).f1))).setCell ⟨gb120, 2, none⟩ (.int .i64 ((rd_T51 l0_2 x34_2).f2))) = w46 at n0_ n1_ n2_ ⊢
             have BK115 := n0_
             have BK120 := n1_
             have HB := n2_
             clear n0_ n1_ n2_
             have n0_ := am_ (blk_drew BK115.out)
             have n1_ := am_ (blk_drew BK120.out)
             have n2_ := am_ (below_drew1 HB.out)
             clear BK115
             clear BK120
             clear HB
             have BK115 := n0_
             have BK120 := n1_
             have HB := n2_
             clear n0_ n1_ n2_
             refine start_ (n := 37) (S := fun w' => w'.cell? ⟨gb120, 0, none⟩ = some (.int .i64 ((rd_T51 l0_2 x34_2).f0)) ∧ w'.cell? ⟨gb120, 1, none⟩ = some (.int .i64 ((rd_T51 l0_2 x34_2).f1)) ∧ w'.cell? ⟨gb120, 2, none⟩ = some (.int .i64 ((rd_T51 l0_2 x34_2).f2)) ∧ w'.cell? ⟨gb115, 0, none⟩ = some (.int .i64 a0_0) ∧ w'.cell? ⟨gb115, 1, none⟩ = some (.slice A0_1 l0_1.length c0_1) ∧ w'.cell? ⟨gb115, 2, none⟩ = some (.slice (some ad119) l0_2.length c0_2) ∧ w'.cell? ⟨gb115, 3, none⟩ = some (.slice A0_3 l0_3.length c0_3)) (ds := []) #[false, false, false, false, false, false, false, false, false, false, false, false, false, false, false, false, false, false, false, false, false, false, false, false, false, false, false, false, false, false, false, false, false, false, false, false, false] (by kernel_rfl) rfl rfl ⟨(blk_cell BK120.out 0).trans rfl, (blk_cell BK120.out 1).trans rfl, (blk_cell BK120.out 2).trans rfl, (blk_cell BK115.out 0).trans rfl, (blk_cell BK115.out 1).trans rfl, (blk_cell BK115.out 2).trans rfl, (blk_cell BK115.out 3).trans rfl⟩ (fun hHeld => ?_); refine with_tabW spec_GoodAuto.tab6 spec_GoodAuto.bits6 (fun HT_ HW_ => ?_)
             generalize w46.drew = w47 at BK115 BK120 HB hHeld ⊢
             refine Sh.pA 0 39 (Sh.pre 37 1) (any_of HT_.out (by kernel_rfl)) ?_
             refine Sh.pA 2 41 #[true, false, true, false, false, false, false, false, false, false, false, false, false, false, false, false, false, false, false, false, false, false, false, false, false, false, false, false, false, false, false, false, false, false, false, false, false] (any_of HT_.out (by kernel_rfl)) ?_
             refine Sh.tA 1 40 (Sh.pre 37 3) (take_ofW HT_.out HW_.out (by kernel_rfl)) hHeld ?_ (hy := by rintro w' ⟨s0, s1, s2, s3, s4, s5, s6⟩; go_simp; with_reducible rfl)
             refine Sh.tA 3 42 (Sh.pre 37 4) (take_ofW HT_.out HW_.out (by kernel_rfl)) hHeld ?_ (hy := by rintro w' ⟨s0, s1, s2, s3, s4, s5, s6⟩; go_simp; with_reducible rfl)
             refine Sh.pA 4 43 (Sh.pre 37 5) (any_of HT_.out (by kernel_rfl)) ?_
             refine one_ (i := 5) (N := some 44) #[true, true, true, true, true, true, false, false, false, false, false, false, false, false, false, false, false, false, false, false, false, false, false, false, false, false, false, false, false, false, false, false, false, false, false, false, false] rfl rfl (one_of HT_.out (by kernel_rfl)) (by decide) (fun K hK => ?_)
             refine goes_ Try.func19 (by kernel_rfl) rfl #[.int .i64 ((rd_T51 l0_2 x34_2).f0), .int .i64 0, .int .i64 (wrap64 (a0_0 - 1))] (by rfl) rfl rfl (by (try simp only [List.map_toArray, List.map_cons, List.map_nil]); first | done | rfl | (simp only [List.length_drop, List.length_take]; rfl)) ?_
             with_reducible refine (spec_l1In.calls ((rd_T51 l0_2 x34_2).f0) 0 (wrap64 (a0_0 - 1)) true _ A19.out).mono ?_
             rintro e w' ⟨rfl, ⟨nd, rfl⟩⟩
             refine ⟨_, rfl, ?_⟩
             refine hK.out _ _ ⟨(blk_cell BK120.out 0).trans rfl, (blk_cell BK120.out 1).trans rfl, (blk_cell BK120.out 2).trans rfl, (blk_cell BK115.out 0).trans rfl, (blk_cell BK115.out 1).trans rfl, (blk_cell BK115.out 2).trans rfl, (blk_cell BK115.out 3).trans rfl⟩ (fun hHeld => ?_)
             clear hK K
             refine norm_ (a' := ?_) ?_ ?_
             rotate_left
             ·show Act.put _ (some 44) _ = _
              simp only [Act.put, List.setIfInBounds_toArray, List.set_cons_zero, List.set_cons_succ, i64_w, i32_w]
              rfl
             refine Sh.pA 6 45 (Sh.pre 37 7) (any_of HT_.out (by kernel_rfl)) ?_
             refine Sh.pA 7 46 (Sh.pre 37 8) (any_of HT_.out (by kernel_rfl)) ?_
             refine Sh.pA 8 47 (Sh.pre 37 9) (any_of HT_.out (by kernel_rfl)) ?_
             refine Sh.tA 9 48 (Sh.pre 37 10) (take_ofW HT_.out HW_.out (by kernel_rfl)) hHeld ?_ (hy := by rintro w' ⟨s0, s1, s2, s3, s4, s5, s6⟩; go_simp; with_reducible rfl)
             refine one_ (i := 10) (N := some 49) #[true, true, true, true, true, true, true, true, true, true, true, false, false, false, false, false, false, false, false, false, false, false, false, false, false, false, false, false, false, false, false, false, false, false, false, false, false] rfl rfl (one_of HT_.out (by kernel_rfl)) (by decide) (fun K hK => ?_)
             refine goes_ Try.func19 (by kernel_rfl) rfl #[.int .i64 ((rd_T51 l0_2 x34_2).f1), .int .i64 0, .int .i64 7] (by rfl) rfl rfl (by (try simp only [List.map_toArray, List.map_cons, List.map_nil]); first | done | rfl | (simp only [List.length_drop, List.length_take]; rfl)) ?_
             with_reducible refine (spec_l1In.calls ((rd_T51 l0_2 x34_2).f1) 0 7 true _ A21.out).mono ?_
             rintro e w' ⟨rfl, ⟨nd, rfl⟩⟩
             refine ⟨_, rfl, ?_⟩
             refine hK.out _ _ ⟨(blk_cell BK120.out 0).trans rfl, (blk_cell BK120.out 1).trans rfl, (blk_cell BK120.out 2).trans rfl, (blk_cell BK115.out 0).trans rfl, (blk_cell BK115.out 1).trans rfl, (blk_cell BK115.out 2).trans rfl, (blk_cell BK115.out 3).trans rfl⟩ (fun hHeld => ?_)
             clear hK K
             refine norm_ (a' := ?_) ?_ ?_
             rotate_left
             ·show Act.put _ (some 49) _ = _
              simp only [Act.put, List.setIfInBounds_toArray, List.set_cons_zero, List.set_cons_succ, i64_w, i32_w]
              rfl
             refine Sh.pA 11 50 (Sh.pre 37 12) (any_of HT_.out (by kernel_rfl)) ?_
             refine Sh.pA 12 51 (Sh.pre 37 13) (any_of HT_.out (by kernel_rfl)) ?_
             refine Sh.pA 13 52 (Sh.pre 37 14) (any_of HT_.out (by kernel_rfl)) ?_
             refine Sh.pA 14 53 (Sh.pre 37 15) (any_of HT_.out (by kernel_rfl)) ?_
             refine Sh.pA 16 55 #[true, true, true, true, true, true, true, true, true, true, true, true, true, true, true, false, true, false, false, false, false, false, false, false, false, false, false, false, false, false, false, false, false, false, false, false, false] (any_of HT_.out (by kernel_rfl)) ?_
             refine Sh.tA 15 54 (Sh.pre 37 17) (take_ofW HT_.out HW_.out (by kernel_rfl)) hHeld ?_ (hy := by rintro w' ⟨s0, s1, s2, s3, s4, s5, s6⟩; go_simp; with_reducible rfl)
             refine Sh.tA 17 56 (Sh.pre 37 18) (take_ofW HT_.out HW_.out (by kernel_rfl)) hHeld ?_ (hy := by rintro w' ⟨s0, s1, s2, s3, s4, s5, s6⟩; go_simp; with_reducible rfl)
             refine Sh.pA 18 57 (Sh.pre 37 19) (any_of HT_.out (by kernel_rfl)) ?_
             refine one_ (i := 19) (N := some 58) #[true, true, true, true, true, true, true, true, true, true, true, true, true, true, true, true, true, true, true, true, false, false, false, false, false, false, false, false, false, false, false, false, false, false, false, false, false] rfl rfl (one_of HT_.out (by kernel_rfl)) (by decide) (fun K hK => ?_)
             refine goes_ Try.func19 (by kernel_rfl) rfl #[.int .i64 ((rd_T51 l0_2 x34_2).f2), .int .i64 0, .int .i64 (wrap64 (a0_0 - 1))] (by rfl) rfl rfl (by (try simp only [List.map_toArray, List.map_cons, List.map_nil]); first | done | rfl | (simp only [List.length_drop, List.length_take]; rfl)) ?_
             with_reducible refine (spec_l1In.calls ((rd_T51 l0_2 x34_2).f2) 0 (wrap64 (a0_0 - 1)) true _ A23.out).mono ?_
             rintro e w' ⟨rfl, ⟨nd, rfl⟩⟩
             refine ⟨_, rfl, ?_⟩
             refine hK.out _ _ ⟨(blk_cell BK120.out 0).trans rfl, (blk_cell BK120.out 1).trans rfl, (blk_cell BK120.out 2).trans rfl, (blk_cell BK115.out 0).trans rfl, (blk_cell BK115.out 1).trans rfl, (blk_cell BK115.out 2).trans rfl, (blk_cell BK115.out 3).trans rfl⟩ (fun hHeld => ?_)
             clear hK K
             refine norm_ (a' := ?_) ?_ ?_
             rotate_left
             ·show Act.put _ (some 58) _ = _
              simp only [Act.put, List.setIfInBounds_toArray, List.set_cons_zero, List.set_cons_succ, i64_w, i32_w]
              rfl
             refine Sh.pA 20 59 (Sh.pre 37 21) (any_of HT_.out (by kernel_rfl)) ?_
             refine Sh.pA 21 60 (Sh.pre 37 22) (any_of HT_.out (by kernel_rfl)) ?_
             refine Sh.pA 22 61 (Sh.pre 37 23) (any_of HT_.out (by kernel_rfl)) ?_
             refine Sh.pA 23 62 (Sh.pre 37 24) (any_of HT_.out (by kernel_rfl)) ?_
             refine Sh.pA 24 63 (Sh.pre 37 25) (any_of HT_.out (by kernel_rfl)) ?_
             refine Sh.pA 25 64 (Sh.pre 37 26) (any_of HT_.out (by kernel_rfl)) ?_
             refine Sh.pU 26 65 (Sh.pre 37 27) (any_of HT_.out (by kernel_rfl)) ?_
             refine Sh.pU 27 66 (Sh.pre 37 28) (any_of HT_.out (by kernel_rfl)) ?_
             refine Sh.pU 28 67 (Sh.pre 37 29) (any_of HT_.out (by kernel_rfl)) ?_
             refine Sh.pU 29 68 (Sh.pre 37 30) (any_of HT_.out (by kernel_rfl)) ?_
             refine Sh.pU 30 69 (Sh.pre 37 31) (any_of HT_.out (by kernel_rfl)) ?_
             refine Sh.pU 31 70 (Sh.pre 37 32) (any_of HT_.out (by kernel_rfl)) ?_
             refine Sh.pU 32 71 (Sh.pre 37 33) (any_of HT_.out (by kernel_rfl)) ?_
             refine Sh.pU 33 72 (Sh.pre 37 34) (any_of HT_.out (by kernel_rfl)) ?_
             refine Sh.pU 34 73 (Sh.pre 37 35) (any_of HT_.out (by kernel_rfl)) ?_
             refine Sh.pA 35 74 (Sh.pre 37 36) (any_of HT_.out (by kernel_rfl)) ?_
             refine Sh.pA 36 75 (Sh.pre 37 37) (any_of HT_.out (by kernel_rfl)) ?_
             refine done_ (done_of HT_.out (by kernel_rfl)) ?_
             try go_wp2
             go_roundg k2
             case measure => have := HJ1.out; have := HK2.out; omega
             case rel => exact ⟨(wrap64 (x34_2 + 1)), (by first | rfl | (simp; done) | (simp [*]; done)), H', ⟨by have := HJ1.out; have := HK2.out; omega⟩, ⟨by (with_reducible repeat (first | refine blk_drewN ?_ _ | refine blk_drew ?_ | refine blk_alloc ?_ _)); exact BK115.out⟩, ⟨by repeat (first | (with_reducible first | exact HB.out | apply below_alloc | apply pw_below_drewN | apply below_drew1 | refine below_set ?_ GE115.out | refine below_set ?_ GE120.out) | exact HB.out)⟩⟩
           ·replace c24 := Bool.eq_false_iff.mpr c24
            subst c24
            have H1 : (some false) = some r := by rw [if_neg (show ¬ (false = true) by decide)] at H; exact H
            clear H
            have H := H1
            clear H1
            obtain rfl := Option.some.inj H
            have p119 : 0 ≤ (x34_2 : Int) := of_decide_eq_true (by first | (with_reducible assumption) | assumption)
            have q119 : x34_2 < (l0_2.length : Int) := of_decide_eq_true (by first | (with_reducible assumption) | assumption)
            obtain ⟨ad119, e119, hx119_0, hx119_1, hx119_2⟩ := at_T51 HR0_2.out x34_2 p119 q119
            cases e119
            (try replace hx119_0 := (HB.out.cell (World.block_lt_of_cell? w _ hx119_0)).trans hx119_0)
            (try replace hx119_1 := (HB.out.cell (World.block_lt_of_cell? w _ hx119_1)).trans hx119_1)
            (try replace hx119_2 := (HB.out.cell (World.block_lt_of_cell? w _ hx119_2)).trans hx119_2)
            replace p119 := eq_true p119
            replace q119 := eq_true q119
            try go_wp2_with (first | ((with_reducible refine gate_dst (N := 4) rfl ?_); (try (refine gate_guard (by rfl) ?_; dsimp only)); refine Sh.bx (N := 4) (cs := #[.int .i64 0, .int .i64 0, .int .i64 0]) (t := 51) (h := ?_); intro gb120 hg w48 hbox hb; have n0_ := am_ (Sh.bb BK115.out hb); have n1_ := am_ (below_step Sh.bw hb); have n2_ := am_ (hbox); have n3_ := am_ (Sh.gw (w := w) hg); have n4_ := am_ (Sh.gw (w := w) hg); have n5_ := am_ (Sh.nl hg BK115.out); have n6_ := am_ (Sh.ng hg BK115.out); clear BK115; clear HB; have BK115 := n0_; have HB := n1_; have BK120 := n2_; have GW120 := n3_; have GE120 := n4_; have NB115_120 := n5_; have NB120_115 := n6_; clear n0_ n1_ n2_ n3_ n4_ n5_ n6_; clear hb hbox hg; have hnb49 := NB120_115.out; have hnc49 := NB115_120.out; have hcz50_0 := Sh.bc BK120.out 0; have hcz50_1 := Sh.bc BK120.out 1; have hcz50_2 := Sh.bc BK120.out 2; have hfz50_0 := blk_frozen BK120.out 0; have hfz50_1 := blk_frozen BK120.out 1; have hfz50_2 := blk_frozen BK120.out 2))
            have n0_ : Aside0 ((((w48.setCell ⟨gb120, 0, none⟩ (.int .i64 ((rd_T51 l0_2 x34_2).f0))).setCell ⟨gb120, 1, none⟩ (.int .i64 ((rd_T51 l0_2 x34_2).f1))).setCell ⟨gb120, 2, none⟩ (.int .i64 ((rd_T51 l0_2 x34_2).f2))).heap[gb115]? = some (.cells #[.int .i64 a0_0, .slice A0_1 l0_1.length c0_1, .slice (some ad119) l0_2.length c0_2, .slice A0_3 l0_3.length c0_3] 32 (0, 0))) := ⟨by (with_reducible repeat (first | refine blk_drewN ?_ _ | refine blk_drew ?_ | refine blk_alloc ?_ _)); refine blk_far ?_ NB115_120.out _; (with_reducible repeat (first | refine blk_drewN ?_ _ | refine blk_drew ?_ | refine blk_alloc ?_ _)); refine blk_far ?_ NB115_120.out _; (with_reducible repeat (first | refine blk_drewN ?_ _ | refine blk_drew ?_ | refine blk_alloc ?_ _)); refine blk_far ?_ NB115_120.out _; (with_reducible repeat (first | refine blk_drewN ?_ _ | refine blk_drew ?_ | refine blk_alloc ?_ _)); exact BK115.out⟩
            have n1_ : Aside0 ((((w48.setCell ⟨gb120, 0, none⟩ (.int .i64 ((rd_T51 l0_2 x34_2).f0))).setCell ⟨gb120, 1, none⟩ (.int .i64 ((rd_T51 l0_2 x34_2).f1))).setCell ⟨gb120, 2, none⟩ (.int .i64 ((rd_T51 l0_2 x34_2).f2))).heap[gb120]? = some (.cells #[.int .i64 ((rd_T51 l0_2 x34_2).f0), .int .i64 ((rd_T51 l0_2 x34_2).f1), .int .i64 ((rd_T51 l0_2 x34_2).f2)] 51 (0, 0))) := ⟨by (with_reducible repeat (first | refine blk_drewN ?_ _ | refine blk_drew ?_ | refine blk_alloc ?_ _)); refine blk_put (cs := #[.int .i64 ((rd_T51 l0_2 x34_2).f0), .int .i64 ((rd_T51 l0_2 x34_2).f1), .int .i64 0]) ?_ 2 _ rfl; (with_reducible repeat (first | refine blk_drewN ?_ _ | refine blk_drew ?_ | refine blk_alloc ?_ _)); refine blk_put (cs := #[.int .i64 ((rd_T51 l0_2 x34_2).f0), .int .i64 0, .int .i64 0]) ?_ 1 _ rfl; (with_reducible repeat (first | refine blk_drewN ?_ _ | refine blk_drew ?_ | refine blk_alloc ?_ _)); refine blk_put (cs := #[.int .i64 0, .int .i64 0, .int .i64 0]) ?_ 0 _ rfl; (with_reducible repeat (first | refine blk_drewN ?_ _ | refine blk_drew ?_ | refine blk_alloc ?_ _)); exact BK120.out⟩
            have n2_ : Aside0 (Below w.heap.size w (((w48.setCell ⟨gb120, 0, none⟩ (.int .i64 ((rd_T51 l0_2 x34_2).f0))).setCell ⟨gb120, 1, none⟩ (.int .i64 ((rd_T51 l0_2 x34_2).f1))).setCell ⟨gb120, 2, none⟩ (.int .i64 ((rd_T51 l0_2 x34_2).f2)))) := ⟨by repeat (first | (with_reducible first | exact HB.out | apply below_alloc | apply pw_below_drewN | apply below_drew1 | refine below_set ?_ GE115.out | refine below_set ?_ GE120.out) | exact HB.out)⟩
            (try clear BK115)
            (try clear BK120)
            (try clear HB)
            generalize (((w48.setCell ⟨gb120, 0, none⟩ (.int .i64 ((rd_T51 l0_2 x34_2).f0))).setCell ⟨gb120, 1, none⟩ (.int .i64 ((rd_T51 l0_2 x34_2).f1))).setCell ⟨gb120, 2, none⟩ (.int .i64 ((rd_T51 l0_2 x34_2).f2))) = w51 at n0_ n1_ n2_ ⊢
            have BK115 := n0_
            have BK120 := n1_
            have HB := n2_
            clear n0_ n1_ n2_
            have n0_ := am_ (blk_drew BK115.out)
            have n1_ := am_ (blk_drew BK120.out)
            have n2_ := am_ (below_drew1 HB.out)
            clear BK115
            clear BK120
            clear HB
            have BK115 := n0_
            have BK120 := n1_
            have HB := n2_
            clear n0_ n1_ n2_
            refine start_ (n := 37) (S := fun w' => w'.cell? ⟨gb120, 0, none⟩ = some (.int .i64 ((rd_T51 l0_2 x34_2).f0)) ∧ w'.cell? ⟨gb120, 1, none⟩ = some (.int .i64 ((rd_T51 l0_2 x34_2).f1)) ∧ w'.cell? ⟨gb120, 2, none⟩ = some (.int .i64 ((rd_T51 l0_2 x34_2).f2)) ∧ w'.cell? ⟨gb115, 0, none⟩ = some (.int .i64 a0_0) ∧ w'.cell? ⟨gb115, 1, none⟩ = some (.slice A0_1 l0_1.length c0_1) ∧ w'.cell? ⟨gb115, 2, none⟩ = some (.slice (some ad119) l0_2.length c0_2) ∧ w'.cell? ⟨gb115, 3, none⟩ = some (.slice A0_3 l0_3.length c0_3)) (ds := []) #[false, false, false, false, false, false, false, false, false, false, false, false, false, false, false, false, false, false, false, false, false, false, false, false, false, false, false, false, false, false, false, false, false, false, false, false, false] (by kernel_rfl) rfl rfl ⟨(blk_cell BK120.out 0).trans rfl, (blk_cell BK120.out 1).trans rfl, (blk_cell BK120.out 2).trans rfl, (blk_cell BK115.out 0).trans rfl, (blk_cell BK115.out 1).trans rfl, (blk_cell BK115.out 2).trans rfl, (blk_cell BK115.out 3).trans rfl⟩ (fun hHeld => ?_); refine with_tabW spec_GoodAuto.tab6 spec_GoodAuto.bits6 (fun HT_ HW_ => ?_)
            generalize w51.drew = w52 at BK115 BK120 HB hHeld ⊢
            refine Sh.pA 0 39 (Sh.pre 37 1) (any_of HT_.out (by kernel_rfl)) ?_
            refine Sh.pA 2 41 #[true, false, true, false, false, false, false, false, false, false, false, false, false, false, false, false, false, false, false, false, false, false, false, false, false, false, false, false, false, false, false, false, false, false, false, false, false] (any_of HT_.out (by kernel_rfl)) ?_
            refine Sh.tA 1 40 (Sh.pre 37 3) (take_ofW HT_.out HW_.out (by kernel_rfl)) hHeld ?_ (hy := by rintro w' ⟨s0, s1, s2, s3, s4, s5, s6⟩; go_simp; with_reducible rfl)
            refine Sh.tA 3 42 (Sh.pre 37 4) (take_ofW HT_.out HW_.out (by kernel_rfl)) hHeld ?_ (hy := by rintro w' ⟨s0, s1, s2, s3, s4, s5, s6⟩; go_simp; with_reducible rfl)
            refine Sh.pA 4 43 (Sh.pre 37 5) (any_of HT_.out (by kernel_rfl)) ?_
            refine one_ (i := 5) (N := some 44) #[true, true, true, true, true, true, false, false, false, false, false, false, false, false, false, false, false, false, false, false, false, false, false, false, false, false, false, false, false, false, false, false, false, false, false, false, false] rfl rfl (one_of HT_.out (by kernel_rfl)) (by decide) (fun K hK => ?_)
            refine goes_ Try.func19 (by kernel_rfl) rfl #[.int .i64 ((rd_T51 l0_2 x34_2).f0), .int .i64 0, .int .i64 (wrap64 (a0_0 - 1))] (by rfl) rfl rfl (by (try simp only [List.map_toArray, List.map_cons, List.map_nil]); first | done | rfl | (simp only [List.length_drop, List.length_take]; rfl)) ?_
            with_reducible refine (spec_l1In.calls ((rd_T51 l0_2 x34_2).f0) 0 (wrap64 (a0_0 - 1)) true _ A19.out).mono ?_
            rintro e w' ⟨rfl, ⟨nd, rfl⟩⟩
            refine ⟨_, rfl, ?_⟩
            refine hK.out _ _ ⟨(blk_cell BK120.out 0).trans rfl, (blk_cell BK120.out 1).trans rfl, (blk_cell BK120.out 2).trans rfl, (blk_cell BK115.out 0).trans rfl, (blk_cell BK115.out 1).trans rfl, (blk_cell BK115.out 2).trans rfl, (blk_cell BK115.out 3).trans rfl⟩ (fun hHeld => ?_)
            clear hK K
            refine norm_ (a' := ?_) ?_ ?_
            rotate_left
            ·show Act.put _ (some 44) _ = _
             simp only [Act.put, List.setIfInBounds_toArray, List.set_cons_zero, List.set_cons_succ, i64_w, i32_w]
             rfl
            refine Sh.pA 6 45 (Sh.pre 37 7) (any_of HT_.out (by kernel_rfl)) ?_
            refine Sh.pA 7 46 (Sh.pre 37 8) (any_of HT_.out (by kernel_rfl)) ?_
            refine Sh.pA 8 47 (Sh.pre 37 9) (any_of HT_.out (by kernel_rfl)) ?_
            refine Sh.tA 9 48 (Sh.pre 37 10) (take_ofW HT_.out HW_.out (by kernel_rfl)) hHeld ?_ (hy := by rintro w' ⟨s0, s1, s2, s3, s4, s5, s6⟩; go_simp; with_reducible rfl)
            refine one_ (i := 10) (N := some 49) #[true, true, true, true, true, true, true, true, true, true, true, false, false, false, false, false, false, false, false, false, false, false, false, false, false, false, false, false, false, false, false, false, false, false, false, false, false] rfl rfl (one_of HT_.out (by kernel_rfl)) (by decide) (fun K hK => ?_)
            refine goes_ Try.func19 (by kernel_rfl) rfl #[.int .i64 ((rd_T51 l0_2 x34_2).f1), .int .i64 0, .int .i64 7] (by rfl) rfl rfl (by (try simp only [List.map_toArray, List.map_cons, List.map_nil]); first | done | rfl | (simp only [List.length_drop, List.length_take]; rfl)) ?_
            with_reducible refine (spec_l1In.calls ((rd_T51 l0_2 x34_2).f1) 0 7 true _ A21.out).mono ?_
            rintro e w' ⟨rfl, ⟨nd, rfl⟩⟩
            refine ⟨_, rfl, ?_⟩
            refine hK.out _ _ ⟨(blk_cell BK120.out 0).trans rfl, (blk_cell BK120.out 1).trans rfl, (blk_cell BK120.out 2).trans rfl, (blk_cell BK115.out 0).trans rfl, (blk_cell BK115.out 1).trans rfl, (blk_cell BK115.out 2).trans rfl, (blk_cell BK115.out 3).trans rfl⟩ (fun hHeld => ?_)
            clear hK K
            refine norm_ (a' := ?_) ?_ ?_
            rotate_left
            ·show Act.put _ (some 49) _ = _
             simp only [Act.put, List.setIfInBounds_toArray, List.set_cons_zero, List.set_cons_succ, i64_w, i32_w]
             rfl
            refine Sh.pA 11 50 (Sh.pre 37 12) (any_of HT_.out (by kernel_rfl)) ?_
            refine Sh.pA 12 51 (Sh.pre 37 13) (any_of HT_.out (by kernel_rfl)) ?_
            refine Sh.pA 13 52 (Sh.pre 37 14) (any_of HT_.out (by kernel_rfl)) ?_
            refine Sh.pA 14 53 (Sh.pre 37 15) (any_of HT_.out (by kernel_rfl)) ?_
            refine Sh.pA 16 55 #[true, true, true, true, true, true, true, true, true, true, true, true, true, true, true, false, true, false, false, false, false, false, false, false, false, false, false, false, false, false, false, false, false, false, false, false, false] (any_of HT_.out (by kernel_rfl)) ?_
            refine Sh.tA 15 54 (Sh.pre 37 17) (take_ofW HT_.out HW_.out (by kernel_rfl)) hHeld ?_ (hy := by rintro w' ⟨s0, s1, s2, s3, s4, s5, s6⟩; go_simp; with_reducible rfl)
            refine Sh.tA 17 56 (Sh.pre 37 18) (take_ofW HT_.out HW_.out (by kernel_rfl)) hHeld ?_ (hy := by rintro w' ⟨s0, s1, s2, s3, s4, s5, s6⟩; go_simp; with_reducible rfl)
            refine Sh.pA 18 57 (Sh.pre 37 19) (any_of HT_.out (by kernel_rfl)) ?_
            refine one_ (i := 19) (N := some 58) #[true, true, true, true, true, true, true, true, true, true, true, true, true, true, true, true, true, true, true, true, false, false, false, false, false, false, false, false, false, false, false, false, false, false, false, false, false] rfl rfl (one_of HT_.out (by kernel_rfl)) (by decide) (fun K hK => ?_)
            refine goes_ Try.func19 (by kernel_rfl) rfl #[.int .i64 ((rd_T51 l0_2 x34_2).f2), .int .i64 0, .int .i64 (wrap64 (a0_0 - 1))] (by rfl) rfl rfl (by (try simp only [List.map_toArray, List.map_cons, List.map_nil]); first | done | rfl | (simp only [List.length_drop, List.length_take]; rfl)) ?_
            with_reducible refine (spec_l1In.calls ((rd_T51 l0_2 x34_2).f2) 0 (wrap64 (a0_0 - 1)) false _ A23.out).mono ?_
            rintro e w' ⟨rfl, ⟨nd, rfl⟩⟩
            refine ⟨_, rfl, ?_⟩
            refine hK.out _ _ ⟨(blk_cell BK120.out 0).trans rfl, (blk_cell BK120.out 1).trans rfl, (blk_cell BK120.out 2).trans rfl, (blk_cell BK115.out 0).trans rfl, (blk_cell BK115.out 1).trans rfl, (blk_cell BK115.out 2).trans rfl, (blk_cell BK115.out 3).trans rfl⟩ (fun hHeld => ?_)
            clear hK K
            refine norm_ (a' := ?_) ?_ ?_
            rotate_left
            ·show Act.put _ (some 58) _ = _
             simp only [Act.put, List.setIfInBounds_toArray, List.set_cons_zero, List.set_cons_succ, i64_w, i32_w]
             rfl
            refine Sh.pA 20 59 (Sh.pre 37 21) (any_of HT_.out (by kernel_rfl)) ?_
            refine Sh.pA 21 60 (Sh.pre 37 22) (any_of HT_.out (by kernel_rfl)) ?_
            refine Sh.pA 22 61 (Sh.pre 37 23) (any_of HT_.out (by kernel_rfl)) ?_
            refine Sh.pU 23 62 (Sh.pre 37 24) (any_of HT_.out (by kernel_rfl)) ?_
            refine Sh.pU 24 63 (Sh.pre 37 25) (any_of HT_.out (by kernel_rfl)) ?_
            refine Sh.pU 25 64 (Sh.pre 37 26) (any_of HT_.out (by kernel_rfl)) ?_
            refine Sh.pU 26 65 (Sh.pre 37 27) (any_of HT_.out (by kernel_rfl)) ?_
            refine Sh.pU 27 66 (Sh.pre 37 28) (any_of HT_.out (by kernel_rfl)) ?_
            refine Sh.pU 28 67 (Sh.pre 37 29) (any_of HT_.out (by kernel_rfl)) ?_
            refine Sh.pU 29 68 (Sh.pre 37 30) (any_of HT_.out (by kernel_rfl)) ?_
            refine Sh.pU 30 69 (Sh.pre 37 31) (any_of HT_.out (by kernel_rfl)) ?_
            refine Sh.pU 31 70 (Sh.pre 37 32) (any_of HT_.out (by kernel_rfl)) ?_
            refine Sh.pU 32 71 (Sh.pre 37 33) (any_of HT_.out (by kernel_rfl)) ?_
            refine Sh.pU 33 72 (Sh.pre 37 34) (any_of HT_.out (by kernel_rfl)) ?_
            refine Sh.pU 34 73 (Sh.pre 37 35) (any_of HT_.out (by kernel_rfl)) ?_
            refine Sh.pU 35 74 (Sh.pre 37 36) (any_of HT_.out (by kernel_rfl)) ?_
            refine Sh.pA 36 75 (Sh.pre 37 37) (any_of HT_.out (by kernel_rfl)) ?_
            refine done_ (done_of HT_.out (by kernel_rfl)) ?_
            try go_wp2
            go_ret
            exact ⟨Sh.eR, Sh.bw⟩
          ·replace c22 := Bool.eq_false_iff.mpr c22
           subst c22
           have H1 : (some false) = some r := by rw [if_neg (show ¬ (false = true) by decide)] at H; exact H
           clear H
           have H := H1
           clear H1
           obtain rfl := Option.some.inj H
           have p119 : 0 ≤ (x34_2 : Int) := of_decide_eq_true (by first | (with_reducible assumption) | assumption)
           have q119 : x34_2 < (l0_2.length : Int) := of_decide_eq_true (by first | (with_reducible assumption) | assumption)
           obtain ⟨ad119, e119, hx119_0, hx119_1, hx119_2⟩ := at_T51 HR0_2.out x34_2 p119 q119
           cases e119
           (try replace hx119_0 := (HB.out.cell (World.block_lt_of_cell? w _ hx119_0)).trans hx119_0)
           (try replace hx119_1 := (HB.out.cell (World.block_lt_of_cell? w _ hx119_1)).trans hx119_1)
           (try replace hx119_2 := (HB.out.cell (World.block_lt_of_cell? w _ hx119_2)).trans hx119_2)
           replace p119 := eq_true p119
           replace q119 := eq_true q119
           try go_wp2_with (first | ((with_reducible refine gate_dst (N := 4) rfl ?_); (try (refine gate_guard (by rfl) ?_; dsimp only)); refine Sh.bx (N := 4) (cs := #[.int .i64 0, .int .i64 0, .int .i64 0]) (t := 51) (h := ?_); intro gb120 hg w53 hbox hb; have n0_ := am_ (Sh.bb BK115.out hb); have n1_ := am_ (below_step Sh.bw hb); have n2_ := am_ (hbox); have n3_ := am_ (Sh.gw (w := w) hg); have n4_ := am_ (Sh.gw (w := w) hg); have n5_ := am_ (Sh.nl hg BK115.out); have n6_ := am_ (Sh.ng hg BK115.out); clear BK115; clear HB; have BK115 := n0_; have HB := n1_; have BK120 := n2_; have GW120 := n3_; have GE120 := n4_; have NB115_120 := n5_; have NB120_115 := n6_; clear n0_ n1_ n2_ n3_ n4_ n5_ n6_; clear hb hbox hg; have hnb54 := NB120_115.out; have hnc54 := NB115_120.out; have hcz55_0 := Sh.bc BK120.out 0; have hcz55_1 := Sh.bc BK120.out 1; have hcz55_2 := Sh.bc BK120.out 2; have hfz55_0 := blk_frozen BK120.out 0; have hfz55_1 := blk_frozen BK120.out 1; have hfz55_2 := blk_frozen BK120.out 2))
           have n0_ : Aside0 ((((w53.setCell ⟨gb120, 0, none⟩ (.int .i64 ((rd_T51 l0_2 x34_2).f0))).setCell ⟨gb120, 1, none⟩ (.int .i64 ((rd_T51 l0_2 x34_2).f1))).setCell ⟨gb120, 2, none⟩ (.int .i64 ((rd_T51 l0_2 x34_2).f2))).heap[gb115]? = some (.cells #[.int .i64 a0_0, .slice A0_1 l0_1.length c0_1, .slice (some ad119) l0_2.length c0_2, .slice A0_3 l0_3.length c0_3] 32 (0, 0))) := ⟨by (with_reducible repeat (first | refine blk_drewN ?_ _ | refine blk_drew ?_ | refine blk_alloc ?_ _)); refine blk_far ?_ NB115_120.out _; (with_reducible repeat (first | refine blk_drewN ?_ _ | refine blk_drew ?_ | refine blk_alloc ?_ _)); refine blk_far ?_ NB115_120.out _; (with_reducible repeat (first | refine blk_drewN ?_ _ | refine blk_drew ?_ | refine blk_alloc ?_ _)); refine blk_far ?_ NB115_120.out _; (with_reducible repeat (first | refine blk_drewN ?_ _ | refine blk_drew ?_ | refine blk_alloc ?_ _)); exact BK115.out⟩
           have n1_ : Aside0 ((((w53.setCell ⟨gb120, 0, none⟩ (.int .i64 ((rd_T51 l0_2 x34_2).f0))).setCell ⟨gb120, 1, none⟩ (.int .i64 ((rd_T51 l0_2 x34_2).f1))).setCell ⟨gb120, 2, none⟩ (.int .i64 ((rd_T51 l0_2 x34_2).f2))).heap[gb120]? = some (.cells #[.int .i64 ((rd_T51 l0_2 x34_2).f0), .int .i64 ((rd_T51 l0_2 x34_2).f1), .int .i64 ((rd_T51 l0_2 x34_2).f2)] 51 (0, 0))) := ⟨by (with_reducible repeat (first | refine blk_drewN ?_ _ | refine blk_drew ?_ | refine blk_alloc ?_ _)); refine blk_put (cs := #[.int .i64 ((rd_T51 l0_2 x34_2).f0), .int .i64 ((rd_T51 l0_2 x34_2).f1), .int .i64 0]) ?_ 2 _ rfl; (with_reducible repeat (first | refine blk_drewN ?_ _ | refine blk_drew ?_ | refine blk_alloc ?_ _)); refine blk_put (cs := #[.int .i64 ((rd_T51 l0_2 x34_2).f0), .int .i64 0, .int .i64 0]) ?_ 1 _ rfl; (with_reducible repeat (first | refine blk_drewN ?_ _ | refine blk_drew ?_ | refine blk_alloc ?_ _)); refine blk_put (cs := #[.int .i64 0, .int .i64 0, .int .i64 0]) ?_ 0 _ rfl; (with_reducible repeat (first | refine blk_drewN ?_ _ | refine blk_drew ?_ | refine blk_alloc ?_ _)); exact BK120.out⟩
           have n2_ : Aside0 (Below w.heap.size w (((w53.setCell ⟨gb120, 0, none⟩ (.int .i64 ((rd_T51 l0_2 x34_2).f0))).setCell ⟨gb120, 1, none⟩ (.int .i64 ((rd_T51 l0_2 x34_2).f1))).setCell ⟨gb120, 2, none⟩ (.int .i64 ((rd_T51 l0_2 x34_2).f2)))) := ⟨by repeat (first | (with_reducible first | exact HB.out | apply below_alloc | apply pw_below_drewN | apply below_drew1 | refine below_set ?_ GE115.out | refine below_set ?_ GE120.out) | exact HB.out)⟩
           (try clear BK115)
           (try clear BK120)
           (try clear HB)
           generalize (((w53.setCell ⟨gb120, 0, none⟩ (.int .i64 ((rd_T51 l0_2 x34_2).f0))).setCell ⟨gb120, 1, none⟩ (.int .i64 ((rd_T51 l0_2 x34_2).f1))).setCell ⟨gb120, 2, none⟩ (.int .i64 ((rd_T51 l0_2 x34_2).f2))) = w56 at n0_ n1_ n2_ ⊢
           have BK115 := n0_
           have BK120 := n1_
           have HB := n2_
           clear n0_ n1_ n2_
           have n0_ := am_ (blk_drew BK115.out)
           have n1_ := am_ (blk_drew BK120.out)
           have n2_ := am_ (below_drew1 HB.out)
           clear BK115
           clear BK120
           clear HB
           have BK115 := n0_
           have BK120 := n1_
           have HB := n2_
           clear n0_ n1_ n2_
           refine start_ (n := 37) (S := fun w' => w'.cell? ⟨gb120, 0, none⟩ = some (.int .i64 ((rd_T51 l0_2 x34_2).f0)) ∧ w'.cell? ⟨gb120, 1, none⟩ = some (.int .i64 ((rd_T51 l0_2 x34_2).f1)) ∧ w'.cell? ⟨gb120, 2, none⟩ = some (.int .i64 ((rd_T51 l0_2 x34_2).f2)) ∧ w'.cell? ⟨gb115, 0, none⟩ = some (.int .i64 a0_0) ∧ w'.cell? ⟨gb115, 1, none⟩ = some (.slice A0_1 l0_1.length c0_1) ∧ w'.cell? ⟨gb115, 2, none⟩ = some (.slice (some ad119) l0_2.length c0_2) ∧ w'.cell? ⟨gb115, 3, none⟩ = some (.slice A0_3 l0_3.length c0_3)) (ds := []) #[false, false, false, false, false, false, false, false, false, false, false, false, false, false, false, false, false, false, false, false, false, false, false, false, false, false, false, false, false, false, false, false, false, false, false, false, false] (by kernel_rfl) rfl rfl ⟨(blk_cell BK120.out 0).trans rfl, (blk_cell BK120.out 1).trans rfl, (blk_cell BK120.out 2).trans rfl, (blk_cell BK115.out 0).trans rfl, (blk_cell BK115.out 1).trans rfl, (blk_cell BK115.out 2).trans rfl, (blk_cell BK115.out 3).trans rfl⟩ (fun hHeld => ?_); refine with_tabW spec_GoodAuto.tab6 spec_GoodAuto.bits6 (fun HT_ HW_ => ?_)
           generalize w56.drew = w57 at BK115 BK120 HB hHeld ⊢
           refine Sh.pA 0 39 (Sh.pre 37 1) (any_of HT_.out (by kernel_rfl)) ?_
           refine Sh.pA 2 41 #[true, false, true, false, false, false, false, false, false, false, false, false, false, false, false, false, false, false, false, false, false, false, false, false, false, false, false, false, false, false, false, false, false, false, false, false, false] (any_of HT_.out (by kernel_rfl)) ?_
           refine Sh.tA 1 40 (Sh.pre 37 3) (take_ofW HT_.out HW_.out (by kernel_rfl)) hHeld ?_ (hy := by rintro w' ⟨s0, s1, s2, s3, s4, s5, s6⟩; go_simp; with_reducible rfl)
           refine Sh.tA 3 42 (Sh.pre 37 4) (take_ofW HT_.out HW_.out (by kernel_rfl)) hHeld ?_ (hy := by rintro w' ⟨s0, s1, s2, s3, s4, s5, s6⟩; go_simp; with_reducible rfl)
           refine Sh.pA 4 43 (Sh.pre 37 5) (any_of HT_.out (by kernel_rfl)) ?_
           refine one_ (i := 5) (N := some 44) #[true, true, true, true, true, true, false, false, false, false, false, false, false, false, false, false, false, false, false, false, false, false, false, false, false, false, false, false, false, false, false, false, false, false, false, false, false] rfl rfl (one_of HT_.out (by kernel_rfl)) (by decide) (fun K hK => ?_)
           refine goes_ Try.func19 (by kernel_rfl) rfl #[.int .i64 ((rd_T51 l0_2 x34_2).f0), .int .i64 0, .int .i64 (wrap64 (a0_0 - 1))] (by rfl) rfl rfl (by (try simp only [List.map_toArray, List.map_cons, List.map_nil]); first | done | rfl | (simp only [List.length_drop, List.length_take]; rfl)) ?_
           with_reducible refine (spec_l1In.calls ((rd_T51 l0_2 x34_2).f0) 0 (wrap64 (a0_0 - 1)) true _ A19.out).mono ?_
           rintro e w' ⟨rfl, ⟨nd, rfl⟩⟩
           refine ⟨_, rfl, ?_⟩
           refine hK.out _ _ ⟨(blk_cell BK120.out 0).trans rfl, (blk_cell BK120.out 1).trans rfl, (blk_cell BK120.out 2).trans rfl, (blk_cell BK115.out 0).trans rfl, (blk_cell BK115.out 1).trans rfl, (blk_cell BK115.out 2).trans rfl, (blk_cell BK115.out 3).trans rfl⟩ (fun hHeld => ?_)
           clear hK K
           refine norm_ (a' := ?_) ?_ ?_
           rotate_left
           ·show Act.put _ (some 44) _ = _
            simp only [Act.put, List.setIfInBounds_toArray, List.set_cons_zero, List.set_cons_succ, i64_w, i32_w]
            rfl
           refine Sh.pA 6 45 (Sh.pre 37 7) (any_of HT_.out (by kernel_rfl)) ?_
           refine Sh.pA 7 46 (Sh.pre 37 8) (any_of HT_.out (by kernel_rfl)) ?_
           refine Sh.pA 8 47 (Sh.pre 37 9) (any_of HT_.out (by kernel_rfl)) ?_
           refine Sh.tA 9 48 (Sh.pre 37 10) (take_ofW HT_.out HW_.out (by kernel_rfl)) hHeld ?_ (hy := by rintro w' ⟨s0, s1, s2, s3, s4, s5, s6⟩; go_simp; with_reducible rfl)
           refine one_ (i := 10) (N := some 49) #[true, true, true, true, true, true, true, true, true, true, true, false, false, false, false, false, false, false, false, false, false, false, false, false, false, false, false, false, false, false, false, false, false, false, false, false, false] rfl rfl (one_of HT_.out (by kernel_rfl)) (by decide) (fun K hK => ?_)
           refine goes_ Try.func19 (by kernel_rfl) rfl #[.int .i64 ((rd_T51 l0_2 x34_2).f1), .int .i64 0, .int .i64 7] (by rfl) rfl rfl (by (try simp only [List.map_toArray, List.map_cons, List.map_nil]); first | done | rfl | (simp only [List.length_drop, List.length_take]; rfl)) ?_
           with_reducible refine (spec_l1In.calls ((rd_T51 l0_2 x34_2).f1) 0 7 false _ A21.out).mono ?_
           rintro e w' ⟨rfl, ⟨nd, rfl⟩⟩
           refine ⟨_, rfl, ?_⟩
           refine hK.out _ _ ⟨(blk_cell BK120.out 0).trans rfl, (blk_cell BK120.out 1).trans rfl, (blk_cell BK120.out 2).trans rfl, (blk_cell BK115.out 0).trans rfl, (blk_cell BK115.out 1).trans rfl, (blk_cell BK115.out 2).trans rfl, (blk_cell BK115.out 3).trans rfl⟩ (fun hHeld => ?_)
           clear hK K
           refine norm_ (a' := ?_) ?_ ?_
           rotate_left
           ·show Act.put _ (some 49) _ = _
            simp only [Act.put, List.setIfInBounds_toArray, List.set_cons_zero, List.set_cons_succ, i64_w, i32_w]
            rfl
           refine Sh.pA 11 50 (Sh.pre 37 12) (any_of HT_.out (by kernel_rfl)) ?_
           refine Sh.pA 12 51 (Sh.pre 37 13) (any_of HT_.out (by kernel_rfl)) ?_
           refine Sh.pA 13 52 (Sh.pre 37 14) (any_of HT_.out (by kernel_rfl)) ?_
           refine Sh.pU 14 53 (Sh.pre 37 15) (any_of HT_.out (by kernel_rfl)) ?_
           refine Sh.pU 15 54 (Sh.pre 37 16) (any_of HT_.out (by kernel_rfl)) ?_
           refine Sh.pU 16 55 (Sh.pre 37 17) (any_of HT_.out (by kernel_rfl)) ?_
           refine Sh.pU 17 56 (Sh.pre 37 18) (any_of HT_.out (by kernel_rfl)) ?_
           refine Sh.pU 18 57 (Sh.pre 37 19) (any_of HT_.out (by kernel_rfl)) ?_
           refine Sh.pU 19 58 (Sh.pre 37 20) (any_of HT_.out (by kernel_rfl)) ?_
           refine Sh.pU 20 59 (Sh.pre 37 21) (any_of HT_.out (by kernel_rfl)) ?_
           refine Sh.pA 21 60 (Sh.pre 37 22) (any_of HT_.out (by kernel_rfl)) ?_
           refine Sh.pA 22 61 (Sh.pre 37 23) (any_of HT_.out (by kernel_rfl)) ?_
           refine Sh.pU 23 62 (Sh.pre 37 24) (any_of HT_.out (by kernel_rfl)) ?_
           refine Sh.pU 24 63 (Sh.pre 37 25) (any_of HT_.out (by kernel_rfl)) ?_
           refine Sh.pU 25 64 (Sh.pre 37 26) (any_of HT_.out (by kernel_rfl)) ?_
           refine Sh.pU 26 65 (Sh.pre 37 27) (any_of HT_.out (by kernel_rfl)) ?_
           refine Sh.pU 27 66 (Sh.pre 37 28) (any_of HT_.out (by kernel_rfl)) ?_
           refine Sh.pU 28 67 (Sh.pre 37 29) (any_of HT_.out (by kernel_rfl)) ?_
           refine Sh.pU 29 68 (Sh.pre 37 30) (any_of HT_.out (by kernel_rfl)) ?_
           refine Sh.pU 30 69 (Sh.pre 37 31) (any_of HT_.out (by kernel_rfl)) ?_
           refine Sh.pU 31 70 (Sh.pre 37 32) (any_of HT_.out (by kernel_rfl)) ?_
           refine Sh.pU 32 71 (Sh.pre 37 33) (any_of HT_.out (by kernel_rfl)) ?_
           refine Sh.pU 33 72 (Sh.pre 37 34) (any_of HT_.out (by kernel_rfl)) ?_
           refine Sh.pU 34 73 (Sh.pre 37 35) (any_of HT_.out (by kernel_rfl)) ?_
           refine Sh.pU 35 74 (Sh.pre 37 36) (any_of HT_.out (by kernel_rfl)) ?_
           refine Sh.pA 36 75 (Sh.pre 37 37) (any_of HT_.out (by kernel_rfl)) ?_
           refine done_ (done_of HT_.out (by kernel_rfl)) ?_
           try go_wp2
           go_ret
           exact ⟨Sh.eR, Sh.bw⟩
         ·replace c20 := Bool.eq_false_iff.mpr c20
          subst c20
          have H1 : (some false) = some r := by rw [if_neg (show ¬ (false = true) by decide)] at H; exact H
          clear H
          have H := H1
          clear H1
          obtain rfl := Option.some.inj H
          have p119 : 0 ≤ (x34_2 : Int) := of_decide_eq_true (by first | (with_reducible assumption) | assumption)
          have q119 : x34_2 < (l0_2.length : Int) := of_decide_eq_true (by first | (with_reducible assumption) | assumption)
          obtain ⟨ad119, e119, hx119_0, hx119_1, hx119_2⟩ := at_T51 HR0_2.out x34_2 p119 q119
          cases e119
          (try replace hx119_0 := (HB.out.cell (World.block_lt_of_cell? w _ hx119_0)).trans hx119_0)
          (try replace hx119_1 := (HB.out.cell (World.block_lt_of_cell? w _ hx119_1)).trans hx119_1)
          (try replace hx119_2 := (HB.out.cell (World.block_lt_of_cell? w _ hx119_2)).trans hx119_2)
          replace p119 := eq_true p119
          replace q119 := eq_true q119
          try go_wp2_with (first | ((with_reducible refine gate_dst (N := 4) rfl ?_); (try (refine gate_guard (by rfl) ?_; dsimp only)); refine Sh.bx (N := 4) (cs := #[.int .i64 0, .int .i64 0, .int .i64 0]) (t := 51) (h := ?_); intro gb120 hg w58 hbox hb; have n0_ := am_ (Sh.bb BK115.out hb); have n1_ := am_ (below_step Sh.bw hb); have n2_ := am_ (hbox); have n3_ := am_ (Sh.gw (w := w) hg); have n4_ := am_ (Sh.gw (w := w) hg); have n5_ := am_ (Sh.nl hg BK115.out); have n6_ := am_ (Sh.ng hg BK115.out); clear BK115; clear HB; have BK115 := n0_; have HB := n1_; have BK120 := n2_; have GW120 := n3_; have GE120 := n4_; have NB115_120 := n5_; have NB120_115 := n6_; clear n0_ n1_ n2_ n3_ n4_ n5_ n6_; clear hb hbox hg; have hnb59 := NB120_115.out; have hnc59 := NB115_120.out; have hcz60_0 := Sh.bc BK120.out 0; have hcz60_1 := Sh.bc BK120.out 1; have hcz60_2 := Sh.bc BK120.out 2; have hfz60_0 := blk_frozen BK120.out 0; have hfz60_1 := blk_frozen BK120.out 1; have hfz60_2 := blk_frozen BK120.out 2))
          have n0_ : Aside0 ((((w58.setCell ⟨gb120, 0, none⟩ (.int .i64 ((rd_T51 l0_2 x34_2).f0))).setCell ⟨gb120, 1, none⟩ (.int .i64 ((rd_T51 l0_2 x34_2).f1))).setCell ⟨gb120, 2, none⟩ (.int .i64 ((rd_T51 l0_2 x34_2).f2))).heap[gb115]? = some (.cells #[.int .i64 a0_0, .slice A0_1 l0_1.length c0_1, .slice (some ad119) l0_2.length c0_2, .slice A0_3 l0_3.length c0_3] 32 (0, 0))) := ⟨by (with_reducible repeat (first | refine blk_drewN ?_ _ | refine blk_drew ?_ | refine blk_alloc ?_ _)); refine blk_far ?_ NB115_120.out _; (with_reducible repeat (first | refine blk_drewN ?_ _ | refine blk_drew ?_ | refine blk_alloc ?_ _)); refine blk_far ?_ NB115_120.out _; (with_reducible repeat (first | refine blk_drewN ?_ _ | refine blk_drew ?_ | refine blk_alloc ?_ _)); refine blk_far ?_ NB115_120.out _; (with_reducible repeat (first | refine blk_drewN ?_ _ | refine blk_drew ?_ | refine blk_alloc ?_ _)); exact BK115.out⟩
          have n1_ : Aside0 ((((w58.setCell ⟨gb120, 0, none⟩ (.int .i64 ((rd_T51 l0_2 x34_2).f0))).setCell ⟨gb120, 1, none⟩ (.int .i64 ((rd_T51 l0_2 x34_2).f1))).setCell ⟨gb120, 2, none⟩ (.int .i64 ((rd_T51 l0_2 x34_2).f2))).heap[gb120]? = some (.cells #[.int .i64 ((rd_T51 l0_2 x34_2).f0), .int .i64 ((rd_T51 l0_2 x34_2).f1), .int .i64 ((rd_T51 l0_2 x34_2).f2)] 51 (0, 0))) := ⟨by (with_reducible repeat (first | refine blk_drewN ?_ _ | refine blk_drew ?_ | refine blk_alloc ?_ _)); refine blk_put (cs := #[.int .i64 ((rd_T51 l0_2 x34_2).f0), .int .i64 ((rd_T51 l0_2 x34_2).f1), .int .i64 0]) ?_ 2 _ rfl; (with_reducible repeat (first | refine blk_drewN ?_ _ | refine blk_drew ?_ | refine blk_alloc ?_ _)); refine blk_put (cs := #[.int .i64 ((rd_T51 l0_2 x34_2).f0), .int .i64 0, .int .i64 0]) ?_ 1 _ rfl; (with_reducible repeat (first | refine blk_drewN ?_ _ | refine blk_drew ?_ | refine blk_alloc ?_ _)); refine blk_put (cs := #[.int .i64 0, .int .i64 0, .int .i64 0]) ?_ 0 _ rfl; (with_reducible repeat (first | refine blk_drewN ?_ _ | refine blk_drew ?_ | refine blk_alloc ?_ _)); exact BK120.out⟩
          have n2_ : Aside0 (Below w.heap.size w (((w58.setCell ⟨gb120, 0, none⟩ (.int .i64 ((rd_T51 l0_2 x34_2).f0))).setCell ⟨gb120, 1, none⟩ (.int .i64 ((rd_T51 l0_2 x34_2).f1))).setCell ⟨gb120, 2, none⟩ (.int .i64 ((rd_T51 l0_2 x34_2).f2)))) := ⟨by repeat (first | (with_reducible first | exact HB.out | apply below_alloc | apply pw_below_drewN | apply below_drew1 | refine below_set ?_ GE115.out | refine below_set ?_ GE120.out) | exact HB.out)⟩
          (try clear BK115)
          (try clear BK120)
          (try clear HB)
          generalize (((w58.setCell ⟨gb120, 0, none⟩ (.int .i64 ((rd_T51 l0_2 x34_2).f0))).setCell ⟨gb120, 1, none⟩ (.int .i64 ((rd_T51 l0_2 x34_2).f1))).setCell ⟨gb120, 2, none⟩ (.int .i64 ((rd_T51 l0_2 x34_2).f2))) = w61 at n0_ n1_ n2_ ⊢
          have BK115 := n0_
          have BK120 := n1_
          have HB := n2_
          clear n0_ n1_ n2_
          have n0_ := am_ (blk_drew BK115.out)
          have n1_ := am_ (blk_drew BK120.out)
          have n2_ := am_ (below_drew1 HB.out)
          clear BK115
          clear BK120
          clear HB
          have BK115 := n0_
          have BK120 := n1_
          have HB := n2_
          clear n0_ n1_ n2_
          refine start_ (n := 37) (S := fun w' => w'.cell? ⟨gb120, 0, none⟩ = some (.int .i64 ((rd_T51 l0_2 x34_2).f0)) ∧ w'.cell? ⟨gb120, 1, none⟩ = some (.int .i64 ((rd_T51 l0_2 x34_2).f1)) ∧ w'.cell? ⟨gb120, 2, none⟩ = some (.int .i64 ((rd_T51 l0_2 x34_2).f2)) ∧ w'.cell? ⟨gb115, 0, none⟩ = some (.int .i64 a0_0) ∧ w'.cell? ⟨gb115, 1, none⟩ = some (.slice A0_1 l0_1.length c0_1) ∧ w'.cell? ⟨gb115, 2, none⟩ = some (.slice (some ad119) l0_2.length c0_2) ∧ w'.cell? ⟨gb115, 3, none⟩ = some (.slice A0_3 l0_3.length c0_3)) (ds := []) #[false, false, false, false, false, false, false, false, false, false, false, false, false, false, false, false, false, false, false, false, false, false, false, false, false, false, false, false, false, false, false, false, false, false, false, false, false] (by kernel_rfl) rfl rfl ⟨(blk_cell BK120.out 0).trans rfl, (blk_cell BK120.out 1).trans rfl, (blk_cell BK120.out 2).trans rfl, (blk_cell BK115.out 0).trans rfl, (blk_cell BK115.out 1).trans rfl, (blk_cell BK115.out 2).trans rfl, (blk_cell BK115.out 3).trans rfl⟩ (fun hHeld => ?_); refine with_tabW spec_GoodAuto.tab6 spec_GoodAuto.bits6 (fun HT_ HW_ => ?_)
          generalize w61.drew = w62 at BK115 BK120 HB hHeld ⊢
          refine Sh.pA 0 39 (Sh.pre 37 1) (any_of HT_.out (by kernel_rfl)) ?_
          refine Sh.pA 2 41 #[true, false, true, false, false, false, false, false, false, false, false, false, false, false, false, false, false, false, false, false, false, false, false, false, false, false, false, false, false, false, false, false, false, false, false, false, false] (any_of HT_.out (by kernel_rfl)) ?_
          refine Sh.tA 1 40 (Sh.pre 37 3) (take_ofW HT_.out HW_.out (by kernel_rfl)) hHeld ?_ (hy := by rintro w' ⟨s0, s1, s2, s3, s4, s5, s6⟩; go_simp; with_reducible rfl)
          refine Sh.tA 3 42 (Sh.pre 37 4) (take_ofW HT_.out HW_.out (by kernel_rfl)) hHeld ?_ (hy := by rintro w' ⟨s0, s1, s2, s3, s4, s5, s6⟩; go_simp; with_reducible rfl)
          refine Sh.pA 4 43 (Sh.pre 37 5) (any_of HT_.out (by kernel_rfl)) ?_
          refine one_ (i := 5) (N := some 44) #[true, true, true, true, true, true, false, false, false, false, false, false, false, false, false, false, false, false, false, false, false, false, false, false, false, false, false, false, false, false, false, false, false, false, false, false, false] rfl rfl (one_of HT_.out (by kernel_rfl)) (by decide) (fun K hK => ?_)
          refine goes_ Try.func19 (by kernel_rfl) rfl #[.int .i64 ((rd_T51 l0_2 x34_2).f0), .int .i64 0, .int .i64 (wrap64 (a0_0 - 1))] (by rfl) rfl rfl (by (try simp only [List.map_toArray, List.map_cons, List.map_nil]); first | done | rfl | (simp only [List.length_drop, List.length_take]; rfl)) ?_
          with_reducible refine (spec_l1In.calls ((rd_T51 l0_2 x34_2).f0) 0 (wrap64 (a0_0 - 1)) false _ A19.out).mono ?_
          rintro e w' ⟨rfl, ⟨nd, rfl⟩⟩
          refine ⟨_, rfl, ?_⟩
          refine hK.out _ _ ⟨(blk_cell BK120.out 0).trans rfl, (blk_cell BK120.out 1).trans rfl, (blk_cell BK120.out 2).trans rfl, (blk_cell BK115.out 0).trans rfl, (blk_cell BK115.out 1).trans rfl, (blk_cell BK115.out 2).trans rfl, (blk_cell BK115.out 3).trans rfl⟩ (fun hHeld => ?_)
          clear hK K
          refine norm_ (a' := ?_) ?_ ?_
          rotate_left
          ·show Act.put _ (some 44) _ = _
           simp only [Act.put, List.setIfInBounds_toArray, List.set_cons_zero, List.set_cons_succ, i64_w, i32_w]
           rfl
          refine Sh.pA 6 45 (Sh.pre 37 7) (any_of HT_.out (by kernel_rfl)) ?_
          refine Sh.pA 7 46 (Sh.pre 37 8) (any_of HT_.out (by kernel_rfl)) ?_
          refine Sh.pU 8 47 (Sh.pre 37 9) (any_of HT_.out (by kernel_rfl)) ?_
          refine Sh.pU 9 48 (Sh.pre 37 10) (any_of HT_.out (by kernel_rfl)) ?_
          refine Sh.pU 10 49 (Sh.pre 37 11) (any_of HT_.out (by kernel_rfl)) ?_
          refine Sh.pU 11 50 (Sh.pre 37 12) (any_of HT_.out (by kernel_rfl)) ?_
          refine Sh.pA 12 51 (Sh.pre 37 13) (any_of HT_.out (by kernel_rfl)) ?_
          refine Sh.pA 13 52 (Sh.pre 37 14) (any_of HT_.out (by kernel_rfl)) ?_
          refine Sh.pU 14 53 (Sh.pre 37 15) (any_of HT_.out (by kernel_rfl)) ?_
          refine Sh.pU 15 54 (Sh.pre 37 16) (any_of HT_.out (by kernel_rfl)) ?_
          refine Sh.pU 16 55 (Sh.pre 37 17) (any_of HT_.out (by kernel_rfl)) ?_
          refine Sh.pU 17 56 (Sh.pre 37 18) (any_of HT_.out (by kernel_rfl)) ?_
          refine Sh.pU 18 57 (Sh.pre 37 19) (any_of HT_.out (by kernel_rfl)) ?_
          refine Sh.pU 19 58 (Sh.pre 37 20) (any_of HT_.out (by kernel_rfl)) ?_
          refine Sh.pU 20 59 (Sh.pre 37 21) (any_of HT_.out (by kernel_rfl)) ?_
          refine Sh.pA 21 60 (Sh.pre 37 22) (any_of HT_.out (by kernel_rfl)) ?_
          refine Sh.pA 22 61 (Sh.pre 37 23) (any_of HT_.out (by kernel_rfl)) ?_
          refine Sh.pU 23 62 (Sh.pre 37 24) (any_of HT_.out (by kernel_rfl)) ?_
          refine Sh.pU 24 63 (Sh.pre 37 25) (any_of HT_.out (by kernel_rfl)) ?_
          refine Sh.pU 25 64 (Sh.pre 37 26) (any_of HT_.out (by kernel_rfl)) ?_
          refine Sh.pU 26 65 (Sh.pre 37 27) (any_of HT_.out (by kernel_rfl)) ?_
          refine Sh.pU 27 66 (Sh.pre 37 28) (any_of HT_.out (by kernel_rfl)) ?_
          refine Sh.pU 28 67 (Sh.pre 37 29) (any_of HT_.out (by kernel_rfl)) ?_
          refine Sh.pU 29 68 (Sh.pre 37 30) (any_of HT_.out (by kernel_rfl)) ?_
          refine Sh.pU 30 69 (Sh.pre 37 31) (any_of HT_.out (by kernel_rfl)) ?_
          refine Sh.pU 31 70 (Sh.pre 37 32) (any_of HT_.out (by kernel_rfl)) ?_
          refine Sh.pU 32 71 (Sh.pre 37 33) (any_of HT_.out (by kernel_rfl)) ?_
          refine Sh.pU 33 72 (Sh.pre 37 34) (any_of HT_.out (by kernel_rfl)) ?_
          refine Sh.pU 34 73 (Sh.pre 37 35) (any_of HT_.out (by kernel_rfl)) ?_
          refine Sh.pU 35 74 (Sh.pre 37 36) (any_of HT_.out (by kernel_rfl)) ?_
          refine Sh.pA 36 75 (Sh.pre 37 37) (any_of HT_.out (by kernel_rfl)) ?_
          refine done_ (done_of HT_.out (by kernel_rfl)) ?_
          try go_wp2
          go_ret
          exact ⟨Sh.eR, Sh.bw⟩
        ·rw [if_neg c18] at H
         exact absurd H (by simp)
       ·rw [if_neg c17] at H
        exact absurd H (by simp)
      ·rw [if_neg c16] at H
       have c16b0 : decide (x34_2 < (l0_2.length : Int)) = false := decide_eq_false c16
       clear c16
       obtain rfl := Option.some.inj H
       go_wp2
       go_ret
       exact ⟨Sh.eR, Sh.bw⟩

end Go.Proofs.Ytijgdncmancolaa.P
namespace Go.Proofs.Ytijgdncmancolaa.P
open Go.RowKit Go.Proofs.YtijgdncmancolaaW.PrintWords Go.Proofs.YtijgdncmancolaaW.PrintLast Go.Proofs.YtijgdncmancolaaW.PrintMore Go.Proofs.Ytijgdncmancolaa.Hof
attribute [local go_sem] max2_int min2_int max_two min_two max_three min_three max_four min_four   -- for this text's walks alone
set_option linter.unusedVariables false
set_option linter.unusedSimpArgs false

/-! ### spec_l11Marks: function 35 -/
def spec_l11Marks.l0 : Nat → List Bool → List Int → Int → Int → Option (List Bool)
 | 0, _, _, _, _ => none
 | k + 1, x5, x10, x11, x12 => if x12 < x11 then (if 0 ≤ x12 then (if x12 < (x10.length : Int) then (if 0 ≤ (rd x10 x12) then (if (rd x10 x12) < (x5.length : Int) then (spec_l11Marks.l0 k (x5.set ((rd x10 x12) : Int).toNat true) x10 x11 (wrap64 (x12 + 1))) else (none)) else (none)) else (none)) else (none)) else (some x5)
def spec_l11Marks.f (k : Nat) (a0 : Int) (l1 : List Int) : Option (List Bool) := if 0 ≤ a0 then (if (a0 : Int).toNat ≤ 281474976710656 then (spec_l11Marks.l0 k (List.replicate (a0 : Int).toNat false) l1 (l1.length : Int) 0) else (none)) else (none)
theorem spec_l11Marks.mono_l : ∀ k, (∀ y0 y1 y2 y3, LeO (spec_l11Marks.l0 k y0 y1 y2 y3) (spec_l11Marks.l0 (k + 1) y0 y1 y2 y3))
 | 0 => fun _ _ _ _ r h => by simp [spec_l11Marks.l0] at h
 | k + 1 => by
  have ih0 := spec_l11Marks.mono_l k
  ·intro y0 y1 y2 y3
   unfold spec_l11Marks.l0
   repeat' first
   | (with_reducible exact ih0 _ _ _ _)
   | (with_reducible exact LeO.refl _)
   | (with_reducible exact LeO.none _)
   | (with_reducible refine LeO.ite ?_ ?_)
   | (with_reducible refine LeO.bind ?_ (fun _ => ?_))
   | exact ih0 _ _ _ _
   | exact LeO.none _
   | refine LeO.ite ?_ ?_
   | refine LeO.bind ?_ (fun _ => ?_)
theorem spec_l11Marks.mono : ∀ a0 a1 k, LeO (spec_l11Marks.f k a0 a1) (spec_l11Marks.f (k + 1) a0 a1) := by
 intro a0 a1 k
 have ih0 := spec_l11Marks.mono_l k
 unfold spec_l11Marks.f
 repeat' first
   | (with_reducible exact ih0 _ _ _ _)
   | (with_reducible exact LeO.refl _)
   | (with_reducible exact LeO.none _)
   | (with_reducible refine LeO.ite ?_ ?_)
   | (with_reducible refine LeO.bind ?_ (fun _ => ?_))
   | exact ih0 _ _ _ _
   | exact LeO.none _
   | refine LeO.ite ?_ ?_
   | refine LeO.bind ?_ (fun _ => ?_)
set_option maxHeartbeats 8000000 in
set_option maxRecDepth 100000 in
theorem spec_l11Marks.calls (k : Nat) (a0 : Int) (A1 : Option Addr) (c1 : Nat) (l1 : List Int) (r : List Bool) (w : World) (hr1 : Kd.C (Kd.int .i64) w A1 l1.length l1) (hc1 : l1.length ≤ c1) (h : spec_l11Marks.f k a0 l1 = some r) :
  Calls Try.prog 35 #[.int .i64 a0, .slice A1 l1.length c1] w fun e w' => ∃ v0_ : Value, e = .returned (v0_) ∧ Kd.R Kd.bool 4 w' w.heap.size (fun _ => True) v0_ r ∧ Below w.heap.size w w' := by
 have HR1 := am_ hr1
 have HC1 := am_ hc1
 clear hr1 hc1
 have HB := am_ (Below.refl w.heap.size w)
 have H : (if 0 ≤ a0 then (if (a0 : Int).toNat ≤ 281474976710656 then (spec_l11Marks.l0 k (List.replicate (a0 : Int).toNat false) l1 (l1.length : Int) 0) else (none)) else (none)) = some r := h
 clear h
 by_cases c3 : 0 ≤ a0
 ·rw [if_pos c3] at H
  have c3b0 := eq_true c3
  have c3b1 : decide (0 ≤ a0) = true := decide_eq_true c3
  clear c3
  by_cases c4 : (a0 : Int).toNat ≤ 281474976710656
  ·rw [if_pos c4] at H
   have c4b0 := eq_true c4
   have c4b1 : decide ((a0 : Int).toNat ≤ 281474976710656) = true := decide_eq_true c4
   clear c4
   obtain ⟨y126, hy126⟩ : ∃ y_ : List Bool, y_ = (List.replicate (a0 : Int).toNat false) := ⟨_, rfl⟩
   replace H : (spec_l11Marks.l0 k y126 l1 (l1.length : Int) 0) = some r := by first | (rw [hy126]; with_reducible exact H) | (have H2_ := (Option.bind_some _ _).symm.trans H; rw [hy126]; with_reducible exact H2_) | (have H2_ := (Option.bind_some _ _).symm.trans H; with_reducible exact H2_) | with_reducible exact H | (rw [hy126]; exact H) | exact H
   have Ny126 := am_ hy126
   clear hy126
   have H' := am_ H
   clear H
   go_enter Try.func35, Try.ntmps35
   go_wp2_with (first | ((with_reducible refine gate_dst (N := 9) rfl ?_); refine Kd.R_make Kd.bool _ 4 rfl (N := 9) rfl 49 _ _ rfl a0 rfl rfl Try.underlying49 (.bool false) 1 info4 rfl (by decide) (by omega) false (ok := fun _ => True) (okp := fun _ => True) rfl (fun _ hk => hk) trivial (of_decide_eq_true (by first | (with_reducible assumption) | assumption)) (Nat.le_trans (Nat.mul_le_mul_right _ (of_decide_eq_true (by first | (with_reducible assumption) | assumption) : a0.toNat ≤ 281474976710656)) (by omega)) (Below.refl _ _) (Nat.le_refl _) ?_; intro v127 w5 ho6 hb hg_ hnew_; clear hg_ hnew_; (first | rw [← Ny126.out] at ho6 | (simp only [Int.reduceToNat] at ho6; rw [← Ny126.out] at ho6)); have n0_ := am_ (Kd.R_lower ho6 (below_size Sh.bw)); have n1_ := am_ (below_step Sh.bw hb); clear HB; have HO128 := n0_; have HB := n1_; clear n0_ n1_; clear hb ho6))
   go_loopg [12] k (fun kq v12 w' => ∃ (x5_1 : List Bool) (x12_1 : Int), v12 = .int .i64 x12_1 ∧ Aside0 (spec_l11Marks.l0 kq x5_1 l1 (l1.length : Int) x12_1 = some r) ∧ Aside0 (kq ≤ k) ∧ Aside0 (Kd.R Kd.bool 4 w' w.heap.size (fun _ => True) v127 x5_1) ∧ Aside0 (Below w.heap.size w w'))
   case atStart => exact ⟨(y126), (0), (by first | rfl | (simp; done) | (simp [*]; done)), H', ⟨Nat.le_refl _⟩, ⟨by (with_reducible repeat (first | apply Kd.R_alloc | apply Kd.R_drewN | apply Kd.R_drew)); exact HO128.out⟩, ⟨by repeat (first | (with_reducible first | exact HB.out | apply below_alloc | apply pw_below_drewN | apply below_drew1) | exact HB.out)⟩⟩
   case round =>
    clear H'
    try clear c1
    try clear p2
    try clear c3
    try clear c3b0
    try clear c3b1
    try clear c4
    try clear c4b0
    try clear c4b1
    obtain ⟨x5_1, x12_1, rfl, HA, HK1, HO_5, HB⟩ := hrel
    cases gk with
    | zero => exact absurd HA.out (by simp [spec_l11Marks.l0])
    | succ k1 =>
     have H := HA.out
     clear HA
     simp only [spec_l11Marks.l0] at H
     by_cases c7 : x12_1 < (l1.length : Int)
     ·rw [if_pos c7] at H
      have c7b0 : decide (x12_1 < (l1.length : Int)) = true := decide_eq_true c7
      clear c7
      by_cases c8 : 0 ≤ x12_1
      ·rw [if_pos c8] at H
       have c8b0 : decide (0 ≤ x12_1) = true := decide_eq_true c8
       clear c8
       by_cases c9 : x12_1 < (l1.length : Int)
       ·rw [if_pos c9] at H
        have c9b0 : decide (x12_1 < (l1.length : Int)) = true := decide_eq_true c9
        clear c9
        by_cases c10 : 0 ≤ (rd l1 x12_1)
        ·rw [if_pos c10] at H
         have c10b0 : decide (0 ≤ (rd l1 x12_1)) = true := decide_eq_true c10
         clear c10
         by_cases c11 : (rd l1 x12_1) < (x5_1.length : Int)
         ·rw [if_pos c11] at H
          have c11b0 : decide ((rd l1 x12_1) < (x5_1.length : Int)) = true := decide_eq_true c11
          clear c11
          obtain ⟨y130, hy130⟩ : ∃ y_ : List Bool, y_ = (x5_1.set ((rd l1 x12_1) : Int).toNat true) := ⟨_, rfl⟩
          replace H : (spec_l11Marks.l0 k1 y130 l1 (l1.length : Int) (wrap64 (x12_1 + 1))) = some r := by first | (rw [hy130]; with_reducible exact H) | (have H2_ := (Option.bind_some _ _).symm.trans H; rw [hy130]; with_reducible exact H2_) | (have H2_ := (Option.bind_some _ _).symm.trans H; with_reducible exact H2_) | with_reducible exact H | (rw [hy130]; exact H) | exact H
          have Ny130 := am_ hy130
          clear hy130
          have H' := am_ H
          clear H
          have p129 : 0 ≤ (x12_1 : Int) := of_decide_eq_true (by first | (with_reducible assumption) | assumption)
          have q129 : x12_1 < (l1.length : Int) := of_decide_eq_true (by first | (with_reducible assumption) | assumption)
          obtain ⟨ad129, e129, hx129_0⟩ := Kd.at_int HR1.out x12_1 p129 q129
          cases e129
          (try replace hx129_0 := (HB.out.cell (World.block_lt_of_cell? w _ hx129_0)).trans hx129_0)
          replace p129 := eq_true p129
          replace q129 := eq_true q129
          have p12 : 0 ≤ ((rd l1 x12_1) : Int) := of_decide_eq_true (by first | (with_reducible assumption) | assumption)
          have q12 : ((rd l1 x12_1) : Int) < ((x5_1.length : Int) : Int) := of_decide_eq_true (by first | (with_reducible assumption) | assumption)
          obtain ⟨go12, co12, eo12, gb12, gl12, cl12, HG12⟩ := Kd.R_form HO_5.out (by omega)
          (first | cases eo12 | (injection eo12 with ea_ en_ ec_; (first | subst ea_ | (injection ea_ with ea_; subst ea_)); subst ec_; clear en_))
          have GB12 := am_ gb12
          have GG12 := am_ HG12
          clear gb12 gl12 HG12
          obtain ⟨hx12_0, hf12_0⟩ := Kd.R_celln false HO_5.out ((rd l1 x12_1) : Int) p12 q12
          replace p12 := eq_true p12
          replace q12 := eq_true q12
          have HP13 := Kd.R_putg HO_5.out ((rd l1 x12_1) : Int) true
          go_wp2_with (first | ((with_reducible refine gate_store (t := 4) (p := 18) rfl ?_); refine store_event (t := 4) (p := 18) (v := ?vo_w14) (w1 := (wr.setCell ⟨go12, ((rd l1 x12_1) : Int).toNat, none⟩ (.bool true))) ?hg ?ho ?hn ?hr ?_; (case ho => rfl); (case hg => rfl); (case hn => rfl); (case hr => first | (go_simp; done) | (go_simp; rfl)); intro w14 hw; have hg : wr.grownBy w14 (some go12) := (by rw [hw]; exact HP13.2); have hp_ : Kd.R Kd.bool 4 w14 w.heap.size (fun _ => True) (.slice (some ⟨go12, 0, none⟩) x5_1.length co12) y130 := (by rw [hw, Ny130.out]; exact HP13.1); clear HP13; have n0_ := am_ (hp_); have n1_ := am_ ((by rw [hw]; exact below_set (HB.out) GB12.out : Below w.heap.size w w14)); clear HO_5; clear HB; have HO_5 := n0_; have HB := n1_; clear n0_ n1_; clear hg hw hp_))
          go_roundg k1
          case measure => have := HK1.out; omega
          case rel => exact ⟨(y130), (wrap64 (x12_1 + 1)), (by first | rfl | (simp; done) | (simp [*]; done)), H', ⟨by have := HK1.out; omega⟩, ⟨by (with_reducible repeat (first | apply Kd.R_alloc | apply Kd.R_drewN | apply Kd.R_drew)); exact HO_5.out⟩, ⟨by repeat (first | (with_reducible first | exact HB.out | apply below_alloc | apply pw_below_drewN | apply below_drew1) | exact HB.out)⟩⟩
         ·rw [if_neg c11] at H
          exact absurd H (by simp)
        ·rw [if_neg c10] at H
         exact absurd H (by simp)
       ·rw [if_neg c9] at H
        exact absurd H (by simp)
      ·rw [if_neg c8] at H
       exact absurd H (by simp)
     ·rw [if_neg c7] at H
      have c7b0 : decide (x12_1 < (l1.length : Int)) = false := decide_eq_false c7
      clear c7
      obtain rfl := Option.some.inj H
      go_wp2
      go_ret
      exact ⟨_, Sh.eR, by (with_reducible repeat (first | apply Kd.R_alloc | apply Kd.R_drewN | apply Kd.R_drew)); exact HO_5.out, Sh.bw⟩
  ·rw [if_neg c4] at H
   exact absurd H (by simp)
 ·rw [if_neg c3] at H
  exact absurd H (by simp)

end Go.Proofs.Ytijgdncmancolaa.P
namespace Go.Proofs.Ytijgdncmancolaa.P
open Go.RowKit Go.Proofs.YtijgdncmancolaaW.PrintWords Go.Proofs.YtijgdncmancolaaW.PrintLast Go.Proofs.YtijgdncmancolaaW.PrintMore Go.Proofs.Ytijgdncmancolaa.Hof
attribute [local go_sem] max2_int min2_int max_two min_two max_three min_three max_four min_four   -- for this text's walks alone
set_option linter.unusedVariables false
set_option linter.unusedSimpArgs false

/-! ### spec_l11List: function 36 -/
def spec_l11List.l0 : Nat → List Int → List Bool → Int → Int → Option (List Int)
 | 0, _, _, _, _ => none
 | k + 1, x3, x6, x7, x8 => if x8 < x7 then (if 0 ≤ x8 then (if x8 < (x6.length : Int) then (if rdOf false x6 x8 = true then (if x3.length < 17592186044416 then (spec_l11List.l0 k (x3 ++ [x8]) x6 x7 (wrap64 (x8 + 1))) else (none)) else (spec_l11List.l0 k x3 x6 x7 (wrap64 (x8 + 1)))) else (none)) else (none)) else (some x3)
def spec_l11List.f (k : Nat) (l0 : List Bool) : Option (List Int) := spec_l11List.l0 k ([] : List Int) l0 (l0.length : Int) 0
theorem spec_l11List.mono_l : ∀ k, (∀ y0 y1 y2 y3, LeO (spec_l11List.l0 k y0 y1 y2 y3) (spec_l11List.l0 (k + 1) y0 y1 y2 y3))
 | 0 => fun _ _ _ _ r h => by simp [spec_l11List.l0] at h
 | k + 1 => by
  have ih0 := spec_l11List.mono_l k
  ·intro y0 y1 y2 y3
   unfold spec_l11List.l0
   repeat' first
   | (with_reducible exact ih0 _ _ _ _)
   | (with_reducible exact LeO.refl _)
   | (with_reducible exact LeO.none _)
   | (with_reducible refine LeO.ite ?_ ?_)
   | (with_reducible refine LeO.bind ?_ (fun _ => ?_))
   | exact ih0 _ _ _ _
   | exact LeO.none _
   | refine LeO.ite ?_ ?_
   | refine LeO.bind ?_ (fun _ => ?_)
theorem spec_l11List.mono : ∀ a0 k, LeO (spec_l11List.f k a0) (spec_l11List.f (k + 1) a0) := by
 intro a0 k
 have ih0 := spec_l11List.mono_l k
 unfold spec_l11List.f
 repeat' first
   | (with_reducible exact ih0 _ _ _ _)
   | (with_reducible exact LeO.refl _)
   | (with_reducible exact LeO.none _)
   | (with_reducible refine LeO.ite ?_ ?_)
   | (with_reducible refine LeO.bind ?_ (fun _ => ?_))
   | exact ih0 _ _ _ _
   | exact LeO.none _
   | refine LeO.ite ?_ ?_
   | refine LeO.bind ?_ (fun _ => ?_)
set_option maxHeartbeats 8000000 in
set_option maxRecDepth 100000 in
theorem spec_l11List.calls (k : Nat) (A0 : Option Addr) (c0 : Nat) (l0 : List Bool) (r : List Int) (w : World) (hr0 : Kd.C Kd.bool w A0 l0.length l0) (hc0 : l0.length ≤ c0) (h : spec_l11List.f k l0 = some r) :
  Calls Try.prog 36 #[.slice A0 l0.length c0] w fun e w' => ∃ v0_ : Value, e = .returned (v0_) ∧ Kd.R (Kd.int .i64) 3 w' w.heap.size (fun _ => True) v0_ r ∧ Below w.heap.size w w' := by
 have HR0 := am_ hr0
 have HC0 := am_ hc0
 clear hr0 hc0
 have HB := am_ (Below.refl w.heap.size w)
 have H : (spec_l11List.l0 k ([] : List Int) l0 (l0.length : Int) 0) = some r := h
 clear h
 have H' := am_ H
 clear H
 go_enter Try.func36, Try.ntmps36
 go_wp2
 go_loopg [3, 8] k (fun kq v3 v8 w' => ∃ (x3_1 : List Int) (x8_1 : Int), v8 = .int .i64 x8_1 ∧ Aside0 (spec_l11List.l0 kq x3_1 l0 (l0.length : Int) x8_1 = some r) ∧ Aside0 (kq ≤ k) ∧ Aside0 (Kd.R (Kd.int .i64) 3 w' w.heap.size (fun _ => True) v3 x3_1) ∧ Aside0 (Below w.heap.size w w'))
 case atStart => exact ⟨(([] : List Int)), (0), (by first | rfl | (simp; done) | (simp [*]; done)), H', ⟨Nat.le_refl _⟩, ⟨by first | exact Kd.R_nil _ _ _ _ _ | exact Kd.N_nil _ _ _ _ _ | exact Kd.V_nil _ _ _ _ _ | exact Kd.Q_nil _ _ _ _ _ | exact Kd.S_nil _ _ _ _ _⟩, ⟨by repeat (first | (with_reducible first | exact HB.out | apply below_alloc | apply pw_below_drewN | apply below_drew1) | exact HB.out)⟩⟩
 case round =>
  clear H'
  obtain ⟨x3_1, x8_1, rfl, HA, HK1, HO_3, HB⟩ := hrel
  cases gk with
  | zero => exact absurd HA.out (by simp [spec_l11List.l0])
  | succ k1 =>
   have H := HA.out
   clear HA
   simp only [spec_l11List.l0] at H
   by_cases c2 : x8_1 < (l0.length : Int)
   ·rw [if_pos c2] at H
    have c2b0 : decide (x8_1 < (l0.length : Int)) = true := decide_eq_true c2
    clear c2
    by_cases c3 : 0 ≤ x8_1
    ·rw [if_pos c3] at H
     have c3b0 : decide (0 ≤ x8_1) = true := decide_eq_true c3
     clear c3
     by_cases c4 : x8_1 < (l0.length : Int)
     ·rw [if_pos c4] at H
      have c4b0 : decide (x8_1 < (l0.length : Int)) = true := decide_eq_true c4
      clear c4
      obtain ⟨bq5, hbq5⟩ : ∃ b_ : Bool, b_ = (rdOf false l0 x8_1) := ⟨_, rfl⟩
      replace H : (if bq5 = true then (if x3_1.length < 17592186044416 then (spec_l11List.l0 k1 (x3_1 ++ [x8_1]) l0 (l0.length : Int) (wrap64 (x8_1 + 1))) else (none)) else (spec_l11List.l0 k1 x3_1 l0 (l0.length : Int) (wrap64 (x8_1 + 1)))) = some r := by rw [← hbq5] at H; exact H
      have Nbq5 := am_ hbq5
      clear hbq5
      by_cases c6 : bq5 = true
      ·subst c6
       have H1 : (if x3_1.length < 17592186044416 then (spec_l11List.l0 k1 (x3_1 ++ [x8_1]) l0 (l0.length : Int) (wrap64 (x8_1 + 1))) else (none)) = some r := by rw [if_pos rfl] at H; exact H
       clear H
       have H := H1
       clear H1
       by_cases c7 : x3_1.length < 17592186044416
       ·rw [if_pos c7] at H
        have LMc7 := am_ c7
        clear c7
        obtain ⟨y132, hy132⟩ : ∃ y_ : List Int, y_ = (x3_1 ++ [x8_1]) := ⟨_, rfl⟩
        replace H : (spec_l11List.l0 k1 y132 l0 (l0.length : Int) (wrap64 (x8_1 + 1))) = some r := by first | (rw [hy132]; with_reducible exact H) | (have H2_ := (Option.bind_some _ _).symm.trans H; rw [hy132]; with_reducible exact H2_) | (have H2_ := (Option.bind_some _ _).symm.trans H; with_reducible exact H2_) | with_reducible exact H | (rw [hy132]; exact H) | exact H
        have Ny132 := am_ hy132
        clear hy132
        have H' := am_ H
        clear H
        have p131 : 0 ≤ (x8_1 : Int) := of_decide_eq_true (by first | (with_reducible assumption) | assumption)
        have q131 : x8_1 < (l0.length : Int) := of_decide_eq_true (by first | (with_reducible assumption) | assumption)
        obtain ⟨ad131, e131, hx131_0⟩ := Kd.at_bool HR0.out x8_1 p131 q131
        (try rw [← Nbq5.out] at hx131_0)
        cases e131
        (try replace hx131_0 := (HB.out.cell (World.block_lt_of_cell? w _ hx131_0)).trans hx131_0)
        replace p131 := eq_true p131
        replace q131 := eq_true q131
        go_wp2_with (first | ((with_reducible refine gate_builtin (b := .append) (xs := #[.tmp 14, .tmp 16]) rfl ?_); at_builtin; refine Kd.R_append (Kd.int .i64) (w0 := w) w.heap.size rfl (.tmp 14) (.tmp 16) 22 3 (.int .i64 0) 8 rfl Try.underlying22 info3 rfl (by decide) (by omega) u3 x3_1 x8_1 [.int .i64 x8_1] (fun _ => True) (fun _ => False) rfl rfl ?aP (fun _ hk => hk.elim) ?aF ?aO ?aB ?aS ?aL ?_; (case aP => exact rfl); (case aB => exact Sh.bw); (case aF => exact (fun _ _ => trivial)); (case aO => exact (by (with_reducible repeat (first | apply Kd.R_alloc | apply Kd.R_drewN | apply Kd.R_drew)); exact HO_3.out)); (case aS => exact (below_size Sh.bw)); (case aL => have := LMc7.out; omega); intro v133 w8 ho hb hg hat; rw [← Ny132.out] at ho; have n0_ := am_ (hb); have n1_ := am_ (ho); clear HB; clear HO_3; have HB := n0_; have HO134 := n1_; clear n0_ n1_; clear ho hb hg hat))
        go_roundg k1
        case measure => have := HK1.out; omega
        case rel => exact ⟨(y132), (wrap64 (x8_1 + 1)), (by first | rfl | (simp; done) | (simp [*]; done)), H', ⟨by have := HK1.out; omega⟩, ⟨by (with_reducible repeat (first | apply Kd.R_alloc | apply Kd.R_drewN | apply Kd.R_drew)); exact HO134.out⟩, ⟨by repeat (first | (with_reducible first | exact HB.out | apply below_alloc | apply pw_below_drewN | apply below_drew1) | exact HB.out)⟩⟩
       ·rw [if_neg c7] at H
        exact absurd H (by simp)
      ·replace c6 := Bool.eq_false_iff.mpr c6
       subst c6
       have H1 : (spec_l11List.l0 k1 x3_1 l0 (l0.length : Int) (wrap64 (x8_1 + 1))) = some r := by rw [if_neg (show ¬ (false = true) by decide)] at H; exact H
       clear H
       have H := H1
       clear H1
       have H' := am_ H
       clear H
       have p131 : 0 ≤ (x8_1 : Int) := of_decide_eq_true (by first | (with_reducible assumption) | assumption)
       have q131 : x8_1 < (l0.length : Int) := of_decide_eq_true (by first | (with_reducible assumption) | assumption)
       obtain ⟨ad131, e131, hx131_0⟩ := Kd.at_bool HR0.out x8_1 p131 q131
       (try rw [← Nbq5.out] at hx131_0)
       cases e131
       (try replace hx131_0 := (HB.out.cell (World.block_lt_of_cell? w _ hx131_0)).trans hx131_0)
       replace p131 := eq_true p131
       replace q131 := eq_true q131
       go_wp2
       go_roundg k1
       case measure => have := HK1.out; omega
       case rel => exact ⟨(x3_1), (wrap64 (x8_1 + 1)), (by first | rfl | (simp; done) | (simp [*]; done)), H', ⟨by have := HK1.out; omega⟩, ⟨by (with_reducible repeat (first | apply Kd.R_alloc | apply Kd.R_drewN | apply Kd.R_drew)); exact HO_3.out⟩, ⟨by repeat (first | (with_reducible first | exact HB.out | apply below_alloc | apply pw_below_drewN | apply below_drew1) | exact HB.out)⟩⟩
     ·rw [if_neg c4] at H
      exact absurd H (by simp)
    ·rw [if_neg c3] at H
     exact absurd H (by simp)
   ·rw [if_neg c2] at H
    have c2b0 : decide (x8_1 < (l0.length : Int)) = false := decide_eq_false c2
    clear c2
    obtain rfl := Option.some.inj H
    go_wp2
    go_ret
    exact ⟨_, Sh.eR, by (with_reducible repeat (first | apply Kd.R_alloc | apply Kd.R_drewN | apply Kd.R_drew)); exact HO_3.out, Sh.bw⟩

end Go.Proofs.Ytijgdncmancolaa.P
