/- Go functions of this seat as Lean functions, and the proofs that the calls come to what these say; printed by a program of this session. No condition. -/
import Derived.Test.YtjenmoopbmklfaaGreatP0
set_option linter.unusedVariables false
set_option linter.unusedSimpArgs false
set_option maxHeartbeats 40000000
set_option maxRecDepth 100000
namespace Go.Proofs.YtjenmoopbmklfaaGreat.P
open Go.RowKit Go.Proofs.YtjenmoopbmklfaaGreatW.PrintWords Go.Proofs.YtjenmoopbmklfaaGreatW.PrintLast Go.Proofs.YtjenmoopbmklfaaGreatW.PrintMore Go.Proofs.YtjenmoopbmklfaaGreat.Hof
attribute [local go_sem] max2_int min2_int max_two min_two max_three min_three max_four min_four
def laws_szNodeS.f (l0 : List (S82)) (a1 : Int) : Option (Int) := if (wrap64 (a1 - (l0.length : Int))) < 0 then (some (-1)) else (some (wrap64 (a1 - (l0.length : Int))))
theorem laws_szNodeS.calls (A0 : Option Addr) (c0 : Nat) (l0 : List (S82)) (a1 : Int) (r : Int) (w : World) (hr0 : Kd.C k82 w A0 l0.length l0) (hc0 : l0.length ≤ c0) (h : laws_szNodeS.f l0 a1 = some r) :
  Calls Tryz.prog 22 #[.slice A0 l0.length c0, .int .i64 a1] w fun e w' => e = .returned (.int .i64 r) ∧ Drawn0 w w' := by
 have HR0 := am_ hr0
 have HC0 := am_ hc0
 clear hr0 hc0
 have H := h
 clear h
 unfold laws_szNodeS.f at H
 by_cases c3 : (wrap64 (a1 - (l0.length : Int))) < 0
 ·rw [if_pos c3] at H
  have c3b0 := decide_eq_true c3
  clear c3
  obtain rfl := Option.some.inj H
  go_enter Tryz.func22, Tryz.ntmps22
  go_wp2
  go_ret
  exact ⟨Sh.es, Sh.dr⟩
 ·rw [if_neg c3] at H
  have c3b0 := decide_eq_false c3
  clear c3
  obtain rfl := Option.some.inj H
  go_enter Tryz.func22, Tryz.ntmps22
  go_wp2
  go_ret
  exact ⟨Sh.es, Sh.dr⟩
def laws_szChange.f (a0_0 : Int) (l0_1 : List (S82)) (a1 : Int) : Option (Int) := (laws_szNodeS.f l0_1 a1).bind fun t102 => (if t102 < 0 then (some (-1)) else (some t102))
theorem laws_szChange.calls (a0_0 : Int) (A0_1 : Option Addr) (c0_1 : Nat) (l0_1 : List (S82)) (a1 : Int) (r : Int) (w : World) (hr0_1 : Kd.C k82 w A0_1 l0_1.length l0_1) (hc0_1 : l0_1.length ≤ c0_1) (h : laws_szChange.f a0_0 l0_1 a1 = some r) :
  Calls Tryz.prog 72 #[.agg #[.int .i64 a0_0, .slice A0_1 l0_1.length c0_1], .int .i64 a1] w fun e w' => e = .returned (.int .i64 r) ∧ Below w.heap.size w w' := by
 have hu108 := Tryz.underlying108
 have HR0_1 := am_ hr0_1
 have HC0_1 := am_ hc0_1
 clear hr0_1 hc0_1
 have HB := am_ (Below.refl w.heap.size w)
 have H := h
 clear h
 unfold laws_szChange.f at H
 obtain ⟨t102, A3, H⟩ := Sh.ba H
 by_cases c4 : t102 < 0
 ·rw [if_pos c4] at H
  have c4b0 := decide_eq_true c4
  clear c4
  obtain rfl := Option.some.inj H
  go_enter Tryz.func72, Tryz.ntmps72
  go_wp2_with (first | ((with_reducible refine Sh.d 2 ?_); refine Sh.bz w (N := 2) (cs := #[.int .i64 a0_0, .slice A0_1 l0_1.length c0_1]) (t := 108) (h := ?_); clear HB; intro gb101 w5 BK101 GE101 HB; obtain ⟨hcz6_0, hcz6_1, hfz6_0, hfz6_1⟩ := Sh.b2 BK101.out) | ((with_reducible refine Sh.k 22 ?_); refine Sh.gD (some 8) Tryz.func22 #[.slice A0_1 l0_1.length c0_1, .int .i64 a1] (laws_szNodeS.calls _ _ l0_1 a1 t102 _ (Sh.cB HR0_1.out) HC0_1.out A3.out) fun nd => ?_))
  go_ret
  exact ⟨Sh.eR, Sh.bw⟩
 ·rw [if_neg c4] at H
  have c4b0 := decide_eq_false c4
  clear c4
  obtain rfl := Option.some.inj H
  go_enter Tryz.func72, Tryz.ntmps72
  go_wp2_with (first | ((with_reducible refine Sh.d 2 ?_); refine Sh.bz w (N := 2) (cs := #[.int .i64 a0_0, .slice A0_1 l0_1.length c0_1]) (t := 108) (h := ?_); clear HB; intro gb101 w7 BK101 GE101 HB; obtain ⟨hcz8_0, hcz8_1, hfz8_0, hfz8_1⟩ := Sh.b2 BK101.out) | ((with_reducible refine Sh.k 22 ?_); refine Sh.gD (some 8) Tryz.func22 #[.slice A0_1 l0_1.length c0_1, .int .i64 a1] (laws_szNodeS.calls _ _ l0_1 a1 t102 _ (Sh.cB HR0_1.out) HC0_1.out A3.out) fun nd => ?_))
  go_ret
  exact ⟨Sh.eR, Sh.bw⟩
def laws_szChangeS.l0 : Nat → List (S108) → Int → Int → Option (Int)
 | 0, _, _, _ => none
 | k + 1, x0, x1, x5 => if x5 < (x0.length : Int) then (if 0 ≤ x5 then ((laws_szChange.f ((rd_T108 x0 x5).f0) ((rd_T108 x0 x5).f1) x1).bind fun t104 => (if t104 < 0 then (some (-1)) else (laws_szChangeS.l0 k x0 t104 (wrap64 (x5 + 1))))) else (none)) else (some x1)
def laws_szChangeS.f (k : Nat) (l0 : List (S108)) (a1 : Int) : Option (Int) := if (wrap64 (a1 - (l0.length : Int))) < 0 then (some (-1)) else (laws_szChangeS.l0 k l0 (wrap64 (a1 - (l0.length : Int))) 0)
theorem laws_szChangeS.mono_l : ∀ k, (∀ y0 y1 y2, LeO (laws_szChangeS.l0 k y0 y1 y2) (laws_szChangeS.l0 (k + 1) y0 y1 y2))
 | 0 => fun _ _ _ r h => by simp [laws_szChangeS.l0] at h
 | k + 1 => by
  have ih0 := laws_szChangeS.mono_l k
  ·intro y0 y1 y2
   unfold laws_szChangeS.l0
   repeat' with_reducible first | apply ih0 | exact LeO.refl _ | exact LeO.none _ | apply LeO.ite | refine LeO.bind ?_ fun _ => ?_
theorem laws_szChangeS.mono : ∀ a0 a1 k, LeO (laws_szChangeS.f k a0 a1) (laws_szChangeS.f (k + 1) a0 a1) := by
 intro a0 a1 k
 have ih0 := laws_szChangeS.mono_l k
 unfold laws_szChangeS.f
 repeat' with_reducible first | apply ih0 | exact LeO.refl _ | exact LeO.none _ | apply LeO.ite | refine LeO.bind ?_ fun _ => ?_
theorem laws_szChangeS.calls (k : Nat) (A0 : Option Addr) (c0 : Nat) (l0 : List (S108)) (a1 : Int) (r : Int) (w : World) (hr0 : Kd.C k108 w A0 l0.length l0) (hc0 : l0.length ≤ c0) (h : laws_szChangeS.f k l0 a1 = some r) :
  Calls Tryz.prog 55 #[.slice A0 l0.length c0, .int .i64 a1] w fun e w' => e = .returned (.int .i64 r) ∧ Below w.heap.size w w' := by
 have hu108 := Tryz.underlying108
 have HR0 := am_ hr0
 have HC0 := am_ hc0
 clear hr0 hc0
 have HB := am_ (Below.refl w.heap.size w)
 have H := h
 clear h
 unfold laws_szChangeS.f at H
 by_cases c3 : (wrap64 (a1 - (l0.length : Int))) < 0
 ·rw [if_pos c3] at H
  have c3b0 := decide_eq_true c3
  clear c3
  obtain rfl := Option.some.inj H
  go_enter Tryz.func55, Tryz.ntmps55
  go_wp2
  go_ret
  exact ⟨Sh.eR, Sh.bw⟩
 ·rw [if_neg c3] at H
  have c3b0 := decide_eq_false c3
  clear c3
  have H' := am_ H
  clear H
  go_enter Tryz.func55, Tryz.ntmps55
  go_wp2
  go_loopg [1, 5] k (fun kq v1 v5 w' => ∃ (x1_1 : Int) (x5_1 : Int), v1 = .int .i64 x1_1 ∧ v5 = .int .i64 x5_1 ∧ Aside0 (laws_szChangeS.l0 kq l0 x1_1 x5_1 = some r) ∧ Aside0 (kq ≤ k) ∧ Aside0 (Below w.heap.size w w'))
  case atStart => exact ⟨(wrap64 (a1 - (l0.length : Int))), (0), (Sh.es), (Sh.es), H', ⟨Nat.le_refl _⟩, ⟨Sh.bw⟩⟩
  case round =>
   clear H'
   obtain ⟨x1_1, x5_1, rfl, rfl, HA, HK1, HB⟩ := hrel
   cases gk with
   | zero => exact absurd HA.out (by simp [laws_szChangeS.l0])
   | succ k1 =>
    have H := HA.out
    clear HA
    simp only [laws_szChangeS.l0] at H
    by_cases c4 : x5_1 < (l0.length : Int)
    ·rw [if_pos c4] at H
     have c4b0 := decide_eq_true c4
     clear c4
     by_cases c5 : 0 ≤ x5_1
     ·rw [if_pos c5] at H
      have c5b0 := decide_eq_true c5
      clear c5
      obtain ⟨t104, A6, H⟩ := Sh.ba H
      by_cases c7 : t104 < 0
      ·rw [if_pos c7] at H
       have c7b0 := decide_eq_true c7
       clear c7
       obtain rfl := Option.some.inj H
       have p103 : 0 ≤ (x5_1 : Int) := Sh.od
       have q103 : x5_1 < (l0.length : Int) := Sh.od
       obtain ⟨ad103, A103_1, c103_1, e103, hx103_0, hx103_1, hl103_1, hi103_1⟩ := at_T108 HR0.out x5_1 p103 q103
       cases e103
       try replace hx103_0 := Sh.cw hx103_0
       try replace hx103_1 := Sh.cw hx103_1
       have HR103_1 := am_ hi103_1
       have HC103_1 := am_ hl103_1
       clear hi103_1 hl103_1
       replace p103 := eq_true p103
       replace q103 := eq_true q103
       go_wp2_with (first | ((with_reducible refine Sh.k 72 ?_); refine Sh.gB (some 23) Tryz.func72 #[.agg #[.int .i64 ((rd_T108 l0 x5_1).f0), .slice A103_1 ((rd_T108 l0 x5_1).f1).length c103_1], .int .i64 x1_1] (laws_szChange.calls ((rd_T108 l0 x5_1).f0) _ _ ((rd_T108 l0 x5_1).f1) x1_1 t104 _ (Sh.cB HR103_1.out) HC103_1.out A6.out) fun w8 hb => ?_; replace HB := Sh.hb hb; (try clear hb); (try clear hb2); (try clear hk); (try clear hi)))
       go_ret
       exact ⟨Sh.eR, Sh.bw⟩
      ·rw [if_neg c7] at H
       have c7b0 := decide_eq_false c7
       clear c7
       have H' := am_ H
       clear H
       have p103 : 0 ≤ (x5_1 : Int) := Sh.od
       have q103 : x5_1 < (l0.length : Int) := Sh.od
       obtain ⟨ad103, A103_1, c103_1, e103, hx103_0, hx103_1, hl103_1, hi103_1⟩ := at_T108 HR0.out x5_1 p103 q103
       cases e103
       try replace hx103_0 := Sh.cw hx103_0
       try replace hx103_1 := Sh.cw hx103_1
       have HR103_1 := am_ hi103_1
       have HC103_1 := am_ hl103_1
       clear hi103_1 hl103_1
       replace p103 := eq_true p103
       replace q103 := eq_true q103
       go_wp2_with (first | ((with_reducible refine Sh.k 72 ?_); refine Sh.gB (some 23) Tryz.func72 #[.agg #[.int .i64 ((rd_T108 l0 x5_1).f0), .slice A103_1 ((rd_T108 l0 x5_1).f1).length c103_1], .int .i64 x1_1] (laws_szChange.calls ((rd_T108 l0 x5_1).f0) _ _ ((rd_T108 l0 x5_1).f1) x1_1 t104 _ (Sh.cB HR103_1.out) HC103_1.out A6.out) fun w9 hb => ?_; replace HB := Sh.hb hb; (try clear hb); (try clear hb2); (try clear hk); (try clear hi)))
       go_roundg k1
       case measure => have := HK1.out; omega
       case rel => exact ⟨(t104), (wrap64 (x5_1 + 1)), (Sh.es), (Sh.es), H', ⟨by have := HK1.out; omega⟩, ⟨Sh.bw⟩⟩
     ·rw [if_neg c5] at H
      exact absurd H (by simp)
    ·rw [if_neg c4] at H
     have c4b0 := decide_eq_false c4
     clear c4
     obtain rfl := Option.some.inj H
     go_wp2
     go_ret
     exact ⟨Sh.eR, Sh.bw⟩
def laws_szCommand.f (k : Nat) (l0_0 : List (S82)) (l0_1 : List (S108)) (a1 : Int) : Option (Int) := (laws_szNodeS.f l0_0 a1).bind fun t106 => (if t106 < 0 then (some (-1)) else ((laws_szChangeS.f k l0_1 t106).bind fun t107 => (if t107 < 0 then (some (-1)) else (some t107))))
theorem laws_szCommand.mono : ∀ a0 a1 a2 k, LeO (laws_szCommand.f k a0 a1 a2) (laws_szCommand.f (k + 1) a0 a1 a2) := by
 intro a0 a1 a2 k
 unfold laws_szCommand.f
 repeat' with_reducible first | apply laws_szChangeS.mono | exact LeO.refl _ | exact LeO.none _ | apply LeO.ite | refine LeO.bind ?_ fun _ => ?_
theorem laws_szCommand.calls (k : Nat) (A0_0 : Option Addr) (c0_0 : Nat) (l0_0 : List (S82)) (A0_1 : Option Addr) (c0_1 : Nat) (l0_1 : List (S108)) (a1 : Int) (r : Int) (w : World) (hr0_0 : Kd.C k82 w A0_0 l0_0.length l0_0) (hc0_0 : l0_0.length ≤ c0_0) (hr0_1 : Kd.C k108 w A0_1 l0_1.length l0_1) (hc0_1 : l0_1.length ≤ c0_1) (h : laws_szCommand.f k l0_0 l0_1 a1 = some r) :
  Calls Tryz.prog 37 #[.agg #[.slice A0_0 l0_0.length c0_0, .slice A0_1 l0_1.length c0_1], .int .i64 a1] w fun e w' => e = .returned (.int .i64 r) ∧ Below w.heap.size w w' := by
 have hu67 := Tryz.underlying67
 have HR0_0 := am_ hr0_0
 have HC0_0 := am_ hc0_0
 clear hr0_0 hc0_0
 have HR0_1 := am_ hr0_1
 have HC0_1 := am_ hc0_1
 clear hr0_1 hc0_1
 have HB := am_ (Below.refl w.heap.size w)
 have H := h
 clear h
 unfold laws_szCommand.f at H
 obtain ⟨t106, A3, H⟩ := Sh.ba H
 by_cases c4 : t106 < 0
 ·rw [if_pos c4] at H
  have c4b0 := decide_eq_true c4
  clear c4
  obtain rfl := Option.some.inj H
  go_enter Tryz.func37, Tryz.ntmps37
  go_wp2_with (first | ((with_reducible refine Sh.d 2 ?_); refine Sh.bz w (N := 2) (cs := #[.slice A0_0 l0_0.length c0_0, .slice A0_1 l0_1.length c0_1]) (t := 67) (h := ?_); clear HB; intro gb105 w5 BK105 GE105 HB; obtain ⟨hcz6_0, hcz6_1, hfz6_0, hfz6_1⟩ := Sh.b2 BK105.out) | ((with_reducible refine Sh.k 22 ?_); refine Sh.gD (some 8) Tryz.func22 #[.slice A0_0 l0_0.length c0_0, .int .i64 a1] (laws_szNodeS.calls _ _ l0_0 a1 t106 _ (Sh.cB HR0_0.out) HC0_0.out A3.out) fun nd => ?_))
  go_ret
  exact ⟨Sh.eR, Sh.bw⟩
 ·rw [if_neg c4] at H
  have c4b0 := decide_eq_false c4
  clear c4
  obtain ⟨t107, A7, H⟩ := Sh.ba H
  by_cases c8 : t107 < 0
  ·rw [if_pos c8] at H
   have c8b0 := decide_eq_true c8
   clear c8
   obtain rfl := Option.some.inj H
   go_enter Tryz.func37, Tryz.ntmps37
   go_wp2_with (first | ((with_reducible refine Sh.d 2 ?_); refine Sh.bz w (N := 2) (cs := #[.slice A0_0 l0_0.length c0_0, .slice A0_1 l0_1.length c0_1]) (t := 67) (h := ?_); clear HB; intro gb105 w9 BK105 GE105 HB; obtain ⟨hcz10_0, hcz10_1, hfz10_0, hfz10_1⟩ := Sh.b2 BK105.out) | ((with_reducible refine Sh.k 22 ?_); refine Sh.gD (some 8) Tryz.func22 #[.slice A0_0 l0_0.length c0_0, .int .i64 a1] (laws_szNodeS.calls _ _ l0_0 a1 t106 _ (Sh.cB HR0_0.out) HC0_0.out A3.out) fun nd => ?_) | ((with_reducible refine Sh.k 55 ?_); refine Sh.gB (some 14) Tryz.func55 #[.slice A0_1 l0_1.length c0_1, .int .i64 t106] (laws_szChangeS.calls k _ _ l0_1 t106 t107 _ (Sh.cB HR0_1.out) HC0_1.out A7.out) fun w11 hb => ?_; replace BK105 := Sh.ab BK105 hb; replace HB := Sh.hb hb; (try clear hb); (try clear hb2); (try clear hk); (try clear hi)))
   go_ret
   exact ⟨Sh.eR, Sh.bw⟩
  ·rw [if_neg c8] at H
   have c8b0 := decide_eq_false c8
   clear c8
   obtain rfl := Option.some.inj H
   go_enter Tryz.func37, Tryz.ntmps37
   go_wp2_with (first | ((with_reducible refine Sh.d 2 ?_); refine Sh.bz w (N := 2) (cs := #[.slice A0_0 l0_0.length c0_0, .slice A0_1 l0_1.length c0_1]) (t := 67) (h := ?_); clear HB; intro gb105 w12 BK105 GE105 HB; obtain ⟨hcz13_0, hcz13_1, hfz13_0, hfz13_1⟩ := Sh.b2 BK105.out) | ((with_reducible refine Sh.k 22 ?_); refine Sh.gD (some 8) Tryz.func22 #[.slice A0_0 l0_0.length c0_0, .int .i64 a1] (laws_szNodeS.calls _ _ l0_0 a1 t106 _ (Sh.cB HR0_0.out) HC0_0.out A3.out) fun nd => ?_) | ((with_reducible refine Sh.k 55 ?_); refine Sh.gB (some 14) Tryz.func55 #[.slice A0_1 l0_1.length c0_1, .int .i64 t106] (laws_szChangeS.calls k _ _ l0_1 t106 t107 _ (Sh.cB HR0_1.out) HC0_1.out A7.out) fun w14 hb => ?_; replace BK105 := Sh.ab BK105 hb; replace HB := Sh.hb hb; (try clear hb); (try clear hb2); (try clear hk); (try clear hi)))
   go_ret
   exact ⟨Sh.eR, Sh.bw⟩
def laws_szCommandS.l0 : Nat → List (S67) → Int → Int → Option (Int)
 | 0, _, _, _ => none
 | k + 1, x0, x1, x5 => if x5 < (x0.length : Int) then (if 0 ≤ x5 then ((laws_szCommand.f k ((rd_T67 x0 x5).f0) ((rd_T67 x0 x5).f1) x1).bind fun t109 => (if t109 < 0 then (some (-1)) else (laws_szCommandS.l0 k x0 t109 (wrap64 (x5 + 1))))) else (none)) else (some x1)
def laws_szCommandS.f (k : Nat) (l0 : List (S67)) (a1 : Int) : Option (Int) := if (wrap64 (a1 - (l0.length : Int))) < 0 then (some (-1)) else (laws_szCommandS.l0 k l0 (wrap64 (a1 - (l0.length : Int))) 0)
theorem laws_szCommandS.mono_l : ∀ k, (∀ y0 y1 y2, LeO (laws_szCommandS.l0 k y0 y1 y2) (laws_szCommandS.l0 (k + 1) y0 y1 y2))
 | 0 => fun _ _ _ r h => by simp [laws_szCommandS.l0] at h
 | k + 1 => by
  have ih0 := laws_szCommandS.mono_l k
  ·intro y0 y1 y2
   unfold laws_szCommandS.l0
   repeat' with_reducible first | apply ih0 | apply laws_szCommand.mono | exact LeO.refl _ | exact LeO.none _ | apply LeO.ite | refine LeO.bind ?_ fun _ => ?_
theorem laws_szCommandS.mono : ∀ a0 a1 k, LeO (laws_szCommandS.f k a0 a1) (laws_szCommandS.f (k + 1) a0 a1) := by
 intro a0 a1 k
 have ih0 := laws_szCommandS.mono_l k
 unfold laws_szCommandS.f
 repeat' with_reducible first | apply ih0 | apply laws_szCommand.mono | exact LeO.refl _ | exact LeO.none _ | apply LeO.ite | refine LeO.bind ?_ fun _ => ?_
theorem laws_szCommandS.calls (k : Nat) (A0 : Option Addr) (c0 : Nat) (l0 : List (S67)) (a1 : Int) (r : Int) (w : World) (hr0 : Kd.C k67 w A0 l0.length l0) (hc0 : l0.length ≤ c0) (h : laws_szCommandS.f k l0 a1 = some r) :
  Calls Tryz.prog 23 #[.slice A0 l0.length c0, .int .i64 a1] w fun e w' => e = .returned (.int .i64 r) ∧ Below w.heap.size w w' := by
 have hu67 := Tryz.underlying67
 have HR0 := am_ hr0
 have HC0 := am_ hc0
 clear hr0 hc0
 have HB := am_ (Below.refl w.heap.size w)
 have H := h
 clear h
 unfold laws_szCommandS.f at H
 by_cases c3 : (wrap64 (a1 - (l0.length : Int))) < 0
 ·rw [if_pos c3] at H
  have c3b0 := decide_eq_true c3
  clear c3
  obtain rfl := Option.some.inj H
  go_enter Tryz.func23, Tryz.ntmps23
  go_wp2
  go_ret
  exact ⟨Sh.eR, Sh.bw⟩
 ·rw [if_neg c3] at H
  have c3b0 := decide_eq_false c3
  clear c3
  have H' := am_ H
  clear H
  go_enter Tryz.func23, Tryz.ntmps23
  go_wp2
  go_loopg [1, 5] k (fun kq v1 v5 w' => ∃ (x1_1 : Int) (x5_1 : Int), v1 = .int .i64 x1_1 ∧ v5 = .int .i64 x5_1 ∧ Aside0 (laws_szCommandS.l0 kq l0 x1_1 x5_1 = some r) ∧ Aside0 (kq ≤ k) ∧ Aside0 (Below w.heap.size w w'))
  case atStart => exact ⟨(wrap64 (a1 - (l0.length : Int))), (0), (Sh.es), (Sh.es), H', ⟨Nat.le_refl _⟩, ⟨Sh.bw⟩⟩
  case round =>
   clear H'
   obtain ⟨x1_1, x5_1, rfl, rfl, HA, HK1, HB⟩ := hrel
   cases gk with
   | zero => exact absurd HA.out (by simp [laws_szCommandS.l0])
   | succ k1 =>
    have H := HA.out
    clear HA
    simp only [laws_szCommandS.l0] at H
    by_cases c4 : x5_1 < (l0.length : Int)
    ·rw [if_pos c4] at H
     have c4b0 := decide_eq_true c4
     clear c4
     by_cases c5 : 0 ≤ x5_1
     ·rw [if_pos c5] at H
      have c5b0 := decide_eq_true c5
      clear c5
      obtain ⟨t109, A6, H⟩ := Sh.ba H
      by_cases c7 : t109 < 0
      ·rw [if_pos c7] at H
       have c7b0 := decide_eq_true c7
       clear c7
       obtain rfl := Option.some.inj H
       have p108 : 0 ≤ (x5_1 : Int) := Sh.od
       have q108 : x5_1 < (l0.length : Int) := Sh.od
       obtain ⟨ad108, A108_0, c108_0, A108_1, c108_1, e108, hx108_0, hx108_1, hl108_0, hi108_0, hl108_1, hi108_1⟩ := at_T67 HR0.out x5_1 p108 q108
       cases e108
       try replace hx108_0 := Sh.cw hx108_0
       try replace hx108_1 := Sh.cw hx108_1
       have HR108_0 := am_ hi108_0
       have HC108_0 := am_ hl108_0
       clear hi108_0 hl108_0
       have HR108_1 := am_ hi108_1
       have HC108_1 := am_ hl108_1
       clear hi108_1 hl108_1
       replace p108 := eq_true p108
       replace q108 := eq_true q108
       go_wp2_with (first | ((with_reducible refine Sh.k 37 ?_); refine Sh.gB (some 23) Tryz.func37 #[.agg #[.slice A108_0 ((rd_T67 l0 x5_1).f0).length c108_0, .slice A108_1 ((rd_T67 l0 x5_1).f1).length c108_1], .int .i64 x1_1] (laws_szCommand.calls k1 _ _ ((rd_T67 l0 x5_1).f0) _ _ ((rd_T67 l0 x5_1).f1) x1_1 t109 _ (Sh.cB HR108_0.out) HC108_0.out (Sh.cB HR108_1.out) HC108_1.out A6.out) fun w8 hb => ?_; replace HB := Sh.hb hb; (try clear hb); (try clear hb2); (try clear hk); (try clear hi)))
       go_ret
       exact ⟨Sh.eR, Sh.bw⟩
      ·rw [if_neg c7] at H
       have c7b0 := decide_eq_false c7
       clear c7
       have H' := am_ H
       clear H
       have p108 : 0 ≤ (x5_1 : Int) := Sh.od
       have q108 : x5_1 < (l0.length : Int) := Sh.od
       obtain ⟨ad108, A108_0, c108_0, A108_1, c108_1, e108, hx108_0, hx108_1, hl108_0, hi108_0, hl108_1, hi108_1⟩ := at_T67 HR0.out x5_1 p108 q108
       cases e108
       try replace hx108_0 := Sh.cw hx108_0
       try replace hx108_1 := Sh.cw hx108_1
       have HR108_0 := am_ hi108_0
       have HC108_0 := am_ hl108_0
       clear hi108_0 hl108_0
       have HR108_1 := am_ hi108_1
       have HC108_1 := am_ hl108_1
       clear hi108_1 hl108_1
       replace p108 := eq_true p108
       replace q108 := eq_true q108
       go_wp2_with (first | ((with_reducible refine Sh.k 37 ?_); refine Sh.gB (some 23) Tryz.func37 #[.agg #[.slice A108_0 ((rd_T67 l0 x5_1).f0).length c108_0, .slice A108_1 ((rd_T67 l0 x5_1).f1).length c108_1], .int .i64 x1_1] (laws_szCommand.calls k1 _ _ ((rd_T67 l0 x5_1).f0) _ _ ((rd_T67 l0 x5_1).f1) x1_1 t109 _ (Sh.cB HR108_0.out) HC108_0.out (Sh.cB HR108_1.out) HC108_1.out A6.out) fun w9 hb => ?_; replace HB := Sh.hb hb; (try clear hb); (try clear hb2); (try clear hk); (try clear hi)))
       go_roundg k1
       case measure => have := HK1.out; omega
       case rel => exact ⟨(t109), (wrap64 (x5_1 + 1)), (Sh.es), (Sh.es), H', ⟨by have := HK1.out; omega⟩, ⟨Sh.bw⟩⟩
     ·rw [if_neg c5] at H
      exact absurd H (by simp)
    ·rw [if_neg c4] at H
     have c4b0 := decide_eq_false c4
     clear c4
     obtain rfl := Option.some.inj H
     go_wp2
     go_ret
     exact ⟨Sh.eR, Sh.bw⟩
def laws_szProgram.f (k : Nat) (a0_0 : Int) (a0_1 : Int) (l0_2 : List (S82)) (l0_3 : List (S67)) (a1 : Int) : Option (Int) := (laws_szNodeS.f l0_2 a1).bind fun t111 => (if t111 < 0 then (some (-1)) else ((laws_szCommandS.f k l0_3 t111).bind fun t112 => (if t112 < 0 then (some (-1)) else (some t112))))
theorem laws_szProgram.mono : ∀ a0 a1 a2 a3 a4 k, LeO (laws_szProgram.f k a0 a1 a2 a3 a4) (laws_szProgram.f (k + 1) a0 a1 a2 a3 a4) := by
 intro a0 a1 a2 a3 a4 k
 unfold laws_szProgram.f
 repeat' with_reducible first | apply laws_szCommandS.mono | exact LeO.refl _ | exact LeO.none _ | apply LeO.ite | refine LeO.bind ?_ fun _ => ?_
theorem laws_szProgram.calls (k : Nat) (a0_0 : Int) (a0_1 : Int) (A0_2 : Option Addr) (c0_2 : Nat) (l0_2 : List (S82)) (A0_3 : Option Addr) (c0_3 : Nat) (l0_3 : List (S67)) (a1 : Int) (r : Int) (w : World) (hr0_2 : Kd.C k82 w A0_2 l0_2.length l0_2) (hc0_2 : l0_2.length ≤ c0_2) (hr0_3 : Kd.C k67 w A0_3 l0_3.length l0_3) (hc0_3 : l0_3.length ≤ c0_3) (h : laws_szProgram.f k a0_0 a0_1 l0_2 l0_3 a1 = some r) :
  Calls Tryz.prog 4 #[.agg #[.int .i64 a0_0, .int .i64 a0_1, .slice A0_2 l0_2.length c0_2, .slice A0_3 l0_3.length c0_3], .int .i64 a1] w fun e w' => e = .returned (.int .i64 r) ∧ Below w.heap.size w w' := by
 have hu25 := Tryz.underlying25
 have HR0_2 := am_ hr0_2
 have HC0_2 := am_ hc0_2
 clear hr0_2 hc0_2
 have HR0_3 := am_ hr0_3
 have HC0_3 := am_ hc0_3
 clear hr0_3 hc0_3
 have HB := am_ (Below.refl w.heap.size w)
 have H := h
 clear h
 unfold laws_szProgram.f at H
 obtain ⟨t111, A3, H⟩ := Sh.ba H
 by_cases c4 : t111 < 0
 ·rw [if_pos c4] at H
  have c4b0 := decide_eq_true c4
  clear c4
  obtain rfl := Option.some.inj H
  go_enter Tryz.func4, Tryz.ntmps4
  go_wp2_with (first | ((with_reducible refine Sh.d 2 ?_); refine Sh.bz w (N := 2) (cs := #[.int .i64 a0_0, .int .i64 a0_1, .slice A0_2 l0_2.length c0_2, .slice A0_3 l0_3.length c0_3]) (t := 25) (h := ?_); clear HB; intro gb110 w5 BK110 GE110 HB; obtain ⟨hcz6_0, hcz6_1, hcz6_2, hcz6_3, hfz6_0, hfz6_1, hfz6_2, hfz6_3⟩ := Sh.b4 BK110.out) | ((with_reducible refine Sh.k 22 ?_); refine Sh.gD (some 8) Tryz.func22 #[.slice A0_2 l0_2.length c0_2, .int .i64 a1] (laws_szNodeS.calls _ _ l0_2 a1 t111 _ (Sh.cB HR0_2.out) HC0_2.out A3.out) fun nd => ?_))
  go_ret
  exact ⟨Sh.eR, Sh.bw⟩
 ·rw [if_neg c4] at H
  have c4b0 := decide_eq_false c4
  clear c4
  obtain ⟨t112, A7, H⟩ := Sh.ba H
  by_cases c8 : t112 < 0
  ·rw [if_pos c8] at H
   have c8b0 := decide_eq_true c8
   clear c8
   obtain rfl := Option.some.inj H
   go_enter Tryz.func4, Tryz.ntmps4
   go_wp2_with (first | ((with_reducible refine Sh.d 2 ?_); refine Sh.bz w (N := 2) (cs := #[.int .i64 a0_0, .int .i64 a0_1, .slice A0_2 l0_2.length c0_2, .slice A0_3 l0_3.length c0_3]) (t := 25) (h := ?_); clear HB; intro gb110 w9 BK110 GE110 HB; obtain ⟨hcz10_0, hcz10_1, hcz10_2, hcz10_3, hfz10_0, hfz10_1, hfz10_2, hfz10_3⟩ := Sh.b4 BK110.out) | ((with_reducible refine Sh.k 22 ?_); refine Sh.gD (some 8) Tryz.func22 #[.slice A0_2 l0_2.length c0_2, .int .i64 a1] (laws_szNodeS.calls _ _ l0_2 a1 t111 _ (Sh.cB HR0_2.out) HC0_2.out A3.out) fun nd => ?_) | ((with_reducible refine Sh.k 23 ?_); refine Sh.gB (some 14) Tryz.func23 #[.slice A0_3 l0_3.length c0_3, .int .i64 t111] (laws_szCommandS.calls k _ _ l0_3 t111 t112 _ (Sh.cB HR0_3.out) HC0_3.out A7.out) fun w11 hb => ?_; replace BK110 := Sh.ab BK110 hb; replace HB := Sh.hb hb; (try clear hb); (try clear hb2); (try clear hk); (try clear hi)))
   go_ret
   exact ⟨Sh.eR, Sh.bw⟩
  ·rw [if_neg c8] at H
   have c8b0 := decide_eq_false c8
   clear c8
   obtain rfl := Option.some.inj H
   go_enter Tryz.func4, Tryz.ntmps4
   go_wp2_with (first | ((with_reducible refine Sh.d 2 ?_); refine Sh.bz w (N := 2) (cs := #[.int .i64 a0_0, .int .i64 a0_1, .slice A0_2 l0_2.length c0_2, .slice A0_3 l0_3.length c0_3]) (t := 25) (h := ?_); clear HB; intro gb110 w12 BK110 GE110 HB; obtain ⟨hcz13_0, hcz13_1, hcz13_2, hcz13_3, hfz13_0, hfz13_1, hfz13_2, hfz13_3⟩ := Sh.b4 BK110.out) | ((with_reducible refine Sh.k 22 ?_); refine Sh.gD (some 8) Tryz.func22 #[.slice A0_2 l0_2.length c0_2, .int .i64 a1] (laws_szNodeS.calls _ _ l0_2 a1 t111 _ (Sh.cB HR0_2.out) HC0_2.out A3.out) fun nd => ?_) | ((with_reducible refine Sh.k 23 ?_); refine Sh.gB (some 14) Tryz.func23 #[.slice A0_3 l0_3.length c0_3, .int .i64 t111] (laws_szCommandS.calls k _ _ l0_3 t111 t112 _ (Sh.cB HR0_3.out) HC0_3.out A7.out) fun w14 hb => ?_; replace BK110 := Sh.ab BK110 hb; replace HB := Sh.hb hb; (try clear hb); (try clear hb2); (try clear hk); (try clear hi)))
   go_ret
   exact ⟨Sh.eR, Sh.bw⟩
def spec_l1In.f (a0 : Int) (a1 : Int) (a2 : Int) : Option (Bool) := if a0 ≥ a1 then (some (decide (a0 ≤ a2))) else (some false)
theorem spec_l1In.calls (a0 : Int) (a1 : Int) (a2 : Int) (r : Bool) (w : World) (h : spec_l1In.f a0 a1 a2 = some r) :
  Calls Tryz.prog 39 #[.int .i64 a0, .int .i64 a1, .int .i64 a2] w fun e w' => e = .returned (.bool r) ∧ Drawn0 w w' := by
 have H := h
 clear h
 unfold spec_l1In.f at H
 by_cases c4 : a0 ≥ a1
 ·rw [if_pos c4] at H
  have c4b0 : decide (a1 ≤ a0) = true := decide_eq_true c4
  clear c4
  obtain rfl := Option.some.inj H
  go_enter Tryz.func39, Tryz.ntmps39
  go_wp2
  go_ret
  exact ⟨Sh.es, Sh.dr⟩
 ·rw [if_neg c4] at H
  have c4b0 : decide (a1 ≤ a0) = false := decide_eq_false c4
  clear c4
  obtain rfl := Option.some.inj H
  go_enter Tryz.func39, Tryz.ntmps39
  go_wp2
  go_ret
  exact ⟨Sh.es, Sh.dr⟩
def spec_l1Wide.f (a0 : Int) : Option (Bool) := (spec_l1In.f a0 1 64).bind fun t113 => (some t113)
theorem spec_l1Wide.calls (a0 : Int) (r : Bool) (w : World) (h : spec_l1Wide.f a0 = some r) :
  Calls Tryz.prog 73 #[.int .i64 a0] w fun e w' => e = .returned (.bool r) ∧ Drawn0 w w' := by
 have H := h
 clear h
 unfold spec_l1Wide.f at H
 obtain ⟨t113, A2, H⟩ := Sh.ba H
 obtain rfl := Option.some.inj H
 go_enter Tryz.func73, Tryz.ntmps73
 go_wp2_with (first | ((with_reducible refine Sh.k 39 ?_); refine Sh.gD (some 4) Tryz.func39 #[.int .i64 a0, .int .i64 1, .int .i64 64] (spec_l1In.calls a0 1 64 t113 _ A2.out) fun nd => ?_))
 go_ret
 exact ⟨Sh.es, Sh.dr⟩
def spec_l2Need.j0 : Nat → Int → Bool → Option (Int × Int × Int)
 | 0, _, _ => none
 | k + 1, x0, x5 => if x5 = true then (some (0, 1, 1)) else (if x0 = 20 then (some (0, 2, 2)) else (if x0 = 13 then (some (1, 1, 1)) else (if x0 = 19 then (some (1, 2, 2)) else ((spec_l1In.f x0 3 12).bind fun t114 => (if t114 = true then (some (2, 1, 1)) else ((spec_l1In.f x0 14 16).bind fun t115 => (if t115 = true then (some (2, 1, 2)) else (if x0 = 17 then (some (2, 2, 2)) else (if x0 = 18 then (some (2, 2, 2)) else (some (0, 0, 0)))))))))))
def spec_l2Need.f (k : Nat) (a0 : Int) : Option (Int × Int × Int) := if a0 = 1 then (spec_l2Need.j0 k a0 true) else (spec_l2Need.j0 k a0 (a0 == 2))
theorem spec_l2Need.mono_l : ∀ k, (∀ y0 y1, LeO (spec_l2Need.j0 k y0 y1) (spec_l2Need.j0 (k + 1) y0 y1))
 | 0 => fun _ _ r h => by simp [spec_l2Need.j0] at h
 | k + 1 => by
  have ih0 := spec_l2Need.mono_l k
  ·intro y0 y1
   unfold spec_l2Need.j0
   repeat' with_reducible first | apply ih0 | exact LeO.refl _ | exact LeO.none _ | apply LeO.ite | refine LeO.bind ?_ fun _ => ?_
theorem spec_l2Need.mono : ∀ a0 k, LeO (spec_l2Need.f k a0) (spec_l2Need.f (k + 1) a0) := by
 intro a0 k
 have ih0 := spec_l2Need.mono_l k
 unfold spec_l2Need.f
 repeat' with_reducible first | apply ih0 | exact LeO.refl _ | exact LeO.none _ | apply LeO.ite | refine LeO.bind ?_ fun _ => ?_
theorem spec_l2Need.calls (k : Nat) (a0 : Int) (r1 : Int) (r2 : Int) (r3 : Int) (w : World) (h : spec_l2Need.f k a0 = some (r1, r2, r3)) :
  Calls Tryz.prog 74 #[.int .i64 a0] w fun e w' => e = .returned (.tuple #[.int .i64 r1, .int .i64 r2, .int .i64 r3]) ∧ Drawn0 w w' := by
 have H := h
 clear h
 unfold spec_l2Need.f at H
 have HC2 := am_ H
 clear H
 go_enter Tryz.func74, Tryz.ntmps74
 go_upto_region 1 with (fail)
 go_cut [5] (fun v5 wc => ∃ (kq : Nat) (x5_1 : Bool), v5 = .bool x5_1 ∧ Aside0 (spec_l2Need.j0 kq a0 x5_1 = some (r1, r2, r3)) ∧ Aside0 (kq ≤ k) ∧ Drawn0 w wc)
 case first =>
  have H := HC2.out
  clear HC2
  by_cases c3 : a0 = 1
  ·rw [if_pos c3] at H
   have c3b0 : (a0 == 1) = true := beq_iff_eq.mpr c3
   have c3b1 : (a0 != 1) = false := bne_eq_false_iff_eq.mpr c3
   clear c3
   first | rw [c3b0] | (simp only [i64_w, i32_w]; rw [c3b0]) | skip
   have H' := am_ H
   clear H
   go_wp2
   go_meet
   case rel => exact ⟨_, (true), (Sh.es), H', ⟨Sh.om⟩, Sh.dr⟩
  ·rw [if_neg c3] at H
   have c3b0 : (a0 == 1) = false := beq_eq_false_iff_ne.mpr c3
   have c3b1 : (a0 != 1) = true := bne_iff_ne.mpr c3
   first | rw [c3b0] | (simp only [i64_w, i32_w]; rw [c3b0]) | skip
   have H' := am_ H
   clear H
   go_wp2
   go_meet
   case rel => exact ⟨_, ((a0 == 2)), (Sh.es), H', ⟨Sh.om⟩, Sh.dr⟩
 case rest =>
  clear HC2
  obtain ⟨kq, x5_1, rfl, HA, HJ1, ⟨mc1, rfl⟩⟩ := hcut
  cases kq with
  | zero => exact absurd HA.out (by simp [spec_l2Need.j0])
  | succ kj1 =>
   have H := HA.out
   clear HA
   simp only [spec_l2Need.j0] at H
   by_cases c4 : x5_1 = true
   ·subst c4
    rw [if_pos rfl] at H
    simp only [Option.some.injEq, Prod.mk.injEq] at H
    obtain ⟨rfl, rfl, rfl⟩ := H
    go_wp2
    go_ret3
    exact ⟨Sh.es, Sh.dr⟩
   ·replace c4 := Bool.eq_false_iff.mpr c4
    subst c4
    rw [Sh.nf] at H
    by_cases c5 : a0 = 20
    ·rw [if_pos c5] at H
     have c5b0 : (a0 == 20) = true := beq_iff_eq.mpr c5
     have c5b1 : (a0 != 20) = false := bne_eq_false_iff_eq.mpr c5
     clear c5
     simp only [Option.some.injEq, Prod.mk.injEq] at H
     obtain ⟨rfl, rfl, rfl⟩ := H
     go_wp2
     go_ret3
     exact ⟨Sh.es, Sh.dr⟩
    ·rw [if_neg c5] at H
     have c5b0 : (a0 == 20) = false := beq_eq_false_iff_ne.mpr c5
     have c5b1 : (a0 != 20) = true := bne_iff_ne.mpr c5
     by_cases c6 : a0 = 13
     ·rw [if_pos c6] at H
      have c6b0 : (a0 == 13) = true := beq_iff_eq.mpr c6
      have c6b1 : (a0 != 13) = false := bne_eq_false_iff_eq.mpr c6
      clear c6
      simp only [Option.some.injEq, Prod.mk.injEq] at H
      obtain ⟨rfl, rfl, rfl⟩ := H
      go_wp2
      go_ret3
      exact ⟨Sh.es, Sh.dr⟩
     ·rw [if_neg c6] at H
      have c6b0 : (a0 == 13) = false := beq_eq_false_iff_ne.mpr c6
      have c6b1 : (a0 != 13) = true := bne_iff_ne.mpr c6
      by_cases c7 : a0 = 19
      ·rw [if_pos c7] at H
       have c7b0 : (a0 == 19) = true := beq_iff_eq.mpr c7
       have c7b1 : (a0 != 19) = false := bne_eq_false_iff_eq.mpr c7
       clear c7
       simp only [Option.some.injEq, Prod.mk.injEq] at H
       obtain ⟨rfl, rfl, rfl⟩ := H
       go_wp2
       go_ret3
       exact ⟨Sh.es, Sh.dr⟩
      ·rw [if_neg c7] at H
       have c7b0 : (a0 == 19) = false := beq_eq_false_iff_ne.mpr c7
       have c7b1 : (a0 != 19) = true := bne_iff_ne.mpr c7
       obtain ⟨t114, A8, H⟩ := Sh.ba H
       by_cases c9 : t114 = true
       ·subst c9
        rw [if_pos rfl] at H
        simp only [Option.some.injEq, Prod.mk.injEq] at H
        obtain ⟨rfl, rfl, rfl⟩ := H
        go_wp2_with (first | ((with_reducible refine Sh.k 39 ?_); refine Sh.gD (some 23) Tryz.func39 #[.int .i64 a0, .int .i64 3, .int .i64 12] (spec_l1In.calls a0 3 12 true _ A8.out) fun nd => ?_))
        go_ret3
        exact ⟨Sh.es, Sh.dr⟩
       ·replace c9 := Bool.eq_false_iff.mpr c9
        subst c9
        rw [Sh.nf] at H
        obtain ⟨t115, A10, H⟩ := Sh.ba H
        by_cases c11 : t115 = true
        ·subst c11
         rw [if_pos rfl] at H
         simp only [Option.some.injEq, Prod.mk.injEq] at H
         obtain ⟨rfl, rfl, rfl⟩ := H
         go_wp2_with (first | ((with_reducible refine Sh.k 39 ?_); refine Sh.gD (some 23) Tryz.func39 #[.int .i64 a0, .int .i64 3, .int .i64 12] (spec_l1In.calls a0 3 12 false _ A8.out) fun nd => ?_) | ((with_reducible refine Sh.k 39 ?_); refine Sh.gD (some 26) Tryz.func39 #[.int .i64 a0, .int .i64 14, .int .i64 16] (spec_l1In.calls a0 14 16 true _ A10.out) fun nd => ?_))
         go_ret3
         exact ⟨Sh.es, Sh.dr⟩
        ·replace c11 := Bool.eq_false_iff.mpr c11
         subst c11
         rw [Sh.nf] at H
         by_cases c12 : a0 = 17
         ·rw [if_pos c12] at H
          have c12b0 : (a0 == 17) = true := beq_iff_eq.mpr c12
          have c12b1 : (a0 != 17) = false := bne_eq_false_iff_eq.mpr c12
          clear c12
          simp only [Option.some.injEq, Prod.mk.injEq] at H
          obtain ⟨rfl, rfl, rfl⟩ := H
          go_wp2_with (first | ((with_reducible refine Sh.k 39 ?_); refine Sh.gD (some 23) Tryz.func39 #[.int .i64 a0, .int .i64 3, .int .i64 12] (spec_l1In.calls a0 3 12 false _ A8.out) fun nd => ?_) | ((with_reducible refine Sh.k 39 ?_); refine Sh.gD (some 26) Tryz.func39 #[.int .i64 a0, .int .i64 14, .int .i64 16] (spec_l1In.calls a0 14 16 false _ A10.out) fun nd => ?_))
          go_ret3
          exact ⟨Sh.es, Sh.dr⟩
         ·rw [if_neg c12] at H
          have c12b0 : (a0 == 17) = false := beq_eq_false_iff_ne.mpr c12
          have c12b1 : (a0 != 17) = true := bne_iff_ne.mpr c12
          by_cases c13 : a0 = 18
          ·rw [if_pos c13] at H
           have c13b0 : (a0 == 18) = true := beq_iff_eq.mpr c13
           have c13b1 : (a0 != 18) = false := bne_eq_false_iff_eq.mpr c13
           clear c13
           simp only [Option.some.injEq, Prod.mk.injEq] at H
           obtain ⟨rfl, rfl, rfl⟩ := H
           go_wp2_with (first | ((with_reducible refine Sh.k 39 ?_); refine Sh.gD (some 23) Tryz.func39 #[.int .i64 a0, .int .i64 3, .int .i64 12] (spec_l1In.calls a0 3 12 false _ A8.out) fun nd => ?_) | ((with_reducible refine Sh.k 39 ?_); refine Sh.gD (some 26) Tryz.func39 #[.int .i64 a0, .int .i64 14, .int .i64 16] (spec_l1In.calls a0 14 16 false _ A10.out) fun nd => ?_))
           go_ret3
           exact ⟨Sh.es, Sh.dr⟩
          ·rw [if_neg c13] at H
           have c13b0 : (a0 == 18) = false := beq_eq_false_iff_ne.mpr c13
           have c13b1 : (a0 != 18) = true := bne_iff_ne.mpr c13
           simp only [Option.some.injEq, Prod.mk.injEq] at H
           obtain ⟨rfl, rfl, rfl⟩ := H
           go_wp2_with (first | ((with_reducible refine Sh.k 39 ?_); refine Sh.gD (some 23) Tryz.func39 #[.int .i64 a0, .int .i64 3, .int .i64 12] (spec_l1In.calls a0 3 12 false _ A8.out) fun nd => ?_) | ((with_reducible refine Sh.k 39 ?_); refine Sh.gD (some 26) Tryz.func39 #[.int .i64 a0, .int .i64 14, .int .i64 16] (spec_l1In.calls a0 14 16 false _ A10.out) fun nd => ?_))
           go_ret3
           exact ⟨Sh.es, Sh.dr⟩
def spec_l1Cut.l0 : Nat → Int → Int → Int → Int → Option (Int)
 | 0, _, _, _, _ => none
 | k + 1, x0, x1, x5, x6 => if x6 < x0 then (if 0 ≤ (IntKind.u64.wrap (x6)) then (spec_l1Cut.l0 k x0 x1 (Go.bits .or .u64 x5 (Go.bits .and .u64 x1 (shl .u64 1 (IntKind.u64.wrap (x6))))) (wrap64 (x6 + 1))) else (none)) else (some x5)
def spec_l1Cut.f (k : Nat) (a0 : Int) (a1 : Int) : Option (Int) := spec_l1Cut.l0 k a0 a1 0 0
theorem spec_l1Cut.mono_l : ∀ k, (∀ y0 y1 y2 y3, LeO (spec_l1Cut.l0 k y0 y1 y2 y3) (spec_l1Cut.l0 (k + 1) y0 y1 y2 y3))
 | 0 => fun _ _ _ _ r h => by simp [spec_l1Cut.l0] at h
 | k + 1 => by
  have ih0 := spec_l1Cut.mono_l k
  ·intro y0 y1 y2 y3
   unfold spec_l1Cut.l0
   repeat' with_reducible first | apply ih0 | exact LeO.refl _ | exact LeO.none _ | apply LeO.ite | refine LeO.bind ?_ fun _ => ?_
theorem spec_l1Cut.mono : ∀ a0 a1 k, LeO (spec_l1Cut.f k a0 a1) (spec_l1Cut.f (k + 1) a0 a1) := by
 intro a0 a1 k
 have ih0 := spec_l1Cut.mono_l k
 unfold spec_l1Cut.f
 repeat' with_reducible first | apply ih0 | exact LeO.refl _ | exact LeO.none _ | apply LeO.ite | refine LeO.bind ?_ fun _ => ?_
theorem spec_l1Cut.calls (k : Nat) (a0 : Int) (a1 : Int) (r : Int) (w : World) (h : spec_l1Cut.f k a0 a1 = some r) :
  Calls Tryz.prog 76 #[.int .i64 a0, .int .u64 a1] w fun e w' => e = .returned (.int .u64 r) ∧ Drawn0 w w' := by
 have H := h
 clear h
 unfold spec_l1Cut.f at H
 have H' := am_ H
 clear H
 go_enter Tryz.func76, Tryz.ntmps76
 go_wp2
 go_loopg [5, 6] k (fun kq v5 v6 w' => ∃ (x5_1 : Int) (x6_1 : Int), v5 = .int .u64 x5_1 ∧ v6 = .int .i64 x6_1 ∧ Aside0 (spec_l1Cut.l0 kq a0 a1 x5_1 x6_1 = some r) ∧ Aside0 (kq ≤ k) ∧ Drawn0 w w')
 case atStart => exact ⟨(0), (0), (Sh.es), (Sh.es), H', ⟨Nat.le_refl _⟩, Sh.dr⟩
 case round =>
  clear H'
  obtain ⟨x5_1, x6_1, rfl, rfl, HA, HK1, ⟨m1, rfl⟩⟩ := hrel
  cases gk with
  | zero => exact absurd HA.out (by simp [spec_l1Cut.l0])
  | succ k1 =>
   have H := HA.out
   clear HA
   simp only [spec_l1Cut.l0] at H
   by_cases c3 : x6_1 < a0
   ·rw [if_pos c3] at H
    have c3b0 := decide_eq_true c3
    clear c3
    obtain ⟨ji4, hj1⟩ : ∃ j_ : Int, (IntKind.u64.wrap (x6_1)) = j_ := ⟨_, rfl⟩
    replace H : (if 0 ≤ (ji4) then (spec_l1Cut.l0 k1 a0 a1 (Go.bits .or .u64 x5_1 (Go.bits .and .u64 a1 (shl .u64 1 (ji4)))) (wrap64 (x6_1 + 1))) else (none)) = some r := by first | (rw [hj1] at H; exact H) | (simp only [hj1] at H ⊢; exact H)
    by_cases c5 : 0 ≤ (ji4)
    ·rw [if_pos c5] at H
     have c5b0 := eq_true c5
     have c5b1 := decide_eq_true c5
     clear c5
     obtain ⟨ji6, hj2⟩ : ∃ j_ : Int, (shl .u64 1 (ji4)) = j_ := ⟨_, rfl⟩
     replace H : (spec_l1Cut.l0 k1 a0 a1 (Go.bits .or .u64 x5_1 (Go.bits .and .u64 a1 (ji6))) (wrap64 (x6_1 + 1))) = some r := by first | (rw [hj2] at H; exact H) | (simp only [hj2] at H ⊢; exact H)
     have hji6_ : (IntKind.u64.wrap (1 * 2 ^ min (ji4).toNat 64)) = ji6 := hj2
     have hji6z : (ji4) ≤ 64 → (IntKind.u64.wrap (1 * 2 ^ (ji4).toNat)) = ji6 := shl_small hj2
     have hji6u : (IntKind.u64.wrap (2 ^ min (ji4).toNat 64)) = ji6 := by have h_ := hji6_; rw [Int.one_mul] at h_; exact h_
     have hji6v : (ji4) ≤ 64 → (IntKind.u64.wrap (2 ^ (ji4).toNat)) = ji6 := fun hle_ => by have h_ := hji6z hle_; rw [Int.one_mul] at h_; exact h_
     have H' := am_ H
     clear H
     go_wp2
     go_roundg k1
     case measure => have := HK1.out; omega
     case rel => exact ⟨(Go.bits .or .u64 x5_1 (Go.bits .and .u64 a1 (ji6))), (wrap64 (x6_1 + 1)), (by first | rfl | (simp; done) | (simp only [← hj2] <;> (first | rfl | simp)) | (simp [*]; done)), (Sh.es), H', ⟨by have := HK1.out; omega⟩, Sh.dr⟩
    ·rw [if_neg c5] at H
     exact absurd H (by simp)
   ·rw [if_neg c3] at H
    have c3b0 := decide_eq_false c3
    clear c3
    obtain rfl := Option.some.inj H
    go_wp2
    go_ret
    exact ⟨Sh.es, Sh.dr⟩
def spec_GoodWord.f (k : Nat) (a0 : Int) (a1 : Int) : Option (Bool) := (spec_l1Wide.f a0).bind fun t116 => (if t116 = true then ((spec_l1Cut.f k a0 a1).bind fun t117 => (some (t117 == a1))) else (some false))
theorem spec_GoodWord.mono : ∀ a0 a1 k, LeO (spec_GoodWord.f k a0 a1) (spec_GoodWord.f (k + 1) a0 a1) := by
 intro a0 a1 k
 unfold spec_GoodWord.f
 repeat' with_reducible first | apply spec_l1Cut.mono | exact LeO.refl _ | exact LeO.none _ | apply LeO.ite | refine LeO.bind ?_ fun _ => ?_
theorem spec_GoodWord.calls (k : Nat) (a0 : Int) (a1 : Int) (r : Bool) (w : World) (h : spec_GoodWord.f k a0 a1 = some r) :
  Calls Tryz.prog 57 #[.int .i64 a0, .int .u64 a1] w fun e w' => e = .returned (.bool r) ∧ Drawn0 w w' := by
 have H := h
 clear h
 unfold spec_GoodWord.f at H
 obtain ⟨t116, A3, H⟩ := Sh.ba H
 by_cases c4 : t116 = true
 ·subst c4
  rw [if_pos rfl] at H
  obtain ⟨t117, A5, H⟩ := Sh.ba H
  obtain rfl := Option.some.inj H
  go_enter Tryz.func57, Tryz.ntmps57
  go_wp2_with (first | ((with_reducible refine Sh.k 73 ?_); refine Sh.gD (some 6) Tryz.func73 #[.int .i64 a0] (spec_l1Wide.calls a0 true _ A3.out) fun nd => ?_) | (go_at_call 76; (with_reducible refine (spec_l1Cut.calls k a0 a1 t117 _ A5.out).mono ?_); rintro e w' ⟨rfl, ⟨nd, rfl⟩⟩))
  go_ret
  exact ⟨Sh.es, Sh.dr⟩
 ·replace c4 := Bool.eq_false_iff.mpr c4
  subst c4
  rw [Sh.nf] at H
  obtain rfl := Option.some.inj H
  go_enter Tryz.func57, Tryz.ntmps57
  go_wp2_with (first | ((with_reducible refine Sh.k 73 ?_); refine Sh.gD (some 6) Tryz.func73 #[.int .i64 a0] (spec_l1Wide.calls a0 false _ A3.out) fun nd => ?_))
  go_ret
  exact ⟨Sh.es, Sh.dr⟩
def spec_l2N.f (k : Nat) (a0 : Int) (a1 : Int) (a2_0 : Int) (a2_1 : Int) : Option (Bool) := if a2_0 = 1 then ((spec_GoodWord.f k a0 a2_1).bind fun t119 => (some t119)) else (if a2_0 = 2 then (some (decide (a2_1 < (IntKind.u64.wrap (a1))))) else (if a2_0 = 20 then (some (decide (a2_1 < 2))) else (some (a2_1 == 0))))
theorem spec_l2N.mono : ∀ a0 a1 a2 a3 k, LeO (spec_l2N.f k a0 a1 a2 a3) (spec_l2N.f (k + 1) a0 a1 a2 a3) := by
 intro a0 a1 a2 a3 k
 unfold spec_l2N.f
 repeat' with_reducible first | apply spec_GoodWord.mono | exact LeO.refl _ | exact LeO.none _ | apply LeO.ite | refine LeO.bind ?_ fun _ => ?_
theorem spec_l2N.calls (k : Nat) (a0 : Int) (a1 : Int) (a2_0 : Int) (a2_1 : Int) (r : Bool) (w : World) (h : spec_l2N.f k a0 a1 a2_0 a2_1 = some r) :
  Calls Tryz.prog 75 #[.int .i64 a0, .int .i64 a1, .agg #[.int .i64 a2_0, .int .u64 a2_1]] w fun e w' => e = .returned (.bool r) ∧ Below w.heap.size w w' := by
 have hu80 := Tryz.underlying80
 have HB := am_ (Below.refl w.heap.size w)
 have H := h
 clear h
 unfold spec_l2N.f at H
 by_cases c4 : a2_0 = 1
 ·rw [if_pos c4] at H
  have c4b0 : (a2_0 == 1) = true := beq_iff_eq.mpr c4
  have c4b1 : (a2_0 != 1) = false := bne_eq_false_iff_eq.mpr c4
  clear c4
  obtain ⟨t119, A5, H⟩ := Sh.ba H
  obtain rfl := Option.some.inj H
  go_enter Tryz.func75, Tryz.ntmps75
  go_wp2_with (first | ((with_reducible refine Sh.d 5 ?_); refine Sh.bz w (N := 5) (cs := #[.int .i64 a2_0, .int .u64 a2_1]) (t := 80) (h := ?_); clear HB; intro gb118 w6 BK118 GE118 HB; obtain ⟨hcz7_0, hcz7_1, hfz7_0, hfz7_1⟩ := Sh.b2 BK118.out) | ((with_reducible refine Sh.k 57 ?_); refine Sh.gD (some 14) Tryz.func57 #[.int .i64 a0, .int .u64 a2_1] (spec_GoodWord.calls k a0 a2_1 t119 _ A5.out) fun nd => ?_))
  go_ret
  exact ⟨Sh.eR, Sh.bw⟩
 ·rw [if_neg c4] at H
  have c4b0 : (a2_0 == 1) = false := beq_eq_false_iff_ne.mpr c4
  have c4b1 : (a2_0 != 1) = true := bne_iff_ne.mpr c4
  by_cases c8 : a2_0 = 2
  ·rw [if_pos c8] at H
   have c8b0 : (a2_0 == 2) = true := beq_iff_eq.mpr c8
   have c8b1 : (a2_0 != 2) = false := bne_eq_false_iff_eq.mpr c8
   clear c8
   obtain rfl := Option.some.inj H
   go_enter Tryz.func75, Tryz.ntmps75
   go_wp2_with (first | ((with_reducible refine Sh.d 5 ?_); refine Sh.bz w (N := 5) (cs := #[.int .i64 a2_0, .int .u64 a2_1]) (t := 80) (h := ?_); clear HB; intro gb118 w9 BK118 GE118 HB; obtain ⟨hcz10_0, hcz10_1, hfz10_0, hfz10_1⟩ := Sh.b2 BK118.out))
   go_ret
   exact ⟨Sh.eR, Sh.bw⟩
  ·rw [if_neg c8] at H
   have c8b0 : (a2_0 == 2) = false := beq_eq_false_iff_ne.mpr c8
   have c8b1 : (a2_0 != 2) = true := bne_iff_ne.mpr c8
   by_cases c11 : a2_0 = 20
   ·rw [if_pos c11] at H
    have c11b0 : (a2_0 == 20) = true := beq_iff_eq.mpr c11
    have c11b1 : (a2_0 != 20) = false := bne_eq_false_iff_eq.mpr c11
    clear c11
    obtain rfl := Option.some.inj H
    go_enter Tryz.func75, Tryz.ntmps75
    go_wp2_with (first | ((with_reducible refine Sh.d 5 ?_); refine Sh.bz w (N := 5) (cs := #[.int .i64 a2_0, .int .u64 a2_1]) (t := 80) (h := ?_); clear HB; intro gb118 w12 BK118 GE118 HB; obtain ⟨hcz13_0, hcz13_1, hfz13_0, hfz13_1⟩ := Sh.b2 BK118.out))
    go_ret
    exact ⟨Sh.eR, Sh.bw⟩
   ·rw [if_neg c11] at H
    have c11b0 : (a2_0 == 20) = false := beq_eq_false_iff_ne.mpr c11
    have c11b1 : (a2_0 != 20) = true := bne_iff_ne.mpr c11
    obtain rfl := Option.some.inj H
    go_enter Tryz.func75, Tryz.ntmps75
    go_wp2_with (first | ((with_reducible refine Sh.d 5 ?_); refine Sh.bz w (N := 5) (cs := #[.int .i64 a2_0, .int .u64 a2_1]) (t := 80) (h := ?_); clear HB; intro gb118 w14 BK118 GE118 HB; obtain ⟨hcz15_0, hcz15_1, hfz15_0, hfz15_1⟩ := Sh.b2 BK118.out))
    go_ret
    exact ⟨Sh.eR, Sh.bw⟩
mutual
def spec_l2Kind.j0 : Nat → Int → Int → List (S80) → Bool → Option (Int)
 | 0, _, _, _, _ => none
 | k + 1, x0, x1, x2, x26 => if x26 = true then (some 0) else (spec_l2Kind.l0 k x0 x1 ([] : List Int) x2 (x2.length : Int) 0)
def spec_l2Kind.l0 : Nat → Int → Int → List Int → List (S80) → Int → Int → Option (Int)
 | 0, _, _, _, _, _, _ => none
 | k + 1, x0, x1, x7, x27, x28, x29 => if x29 < x28 then (if 0 ≤ x29 then (if x29 < (x27.length : Int) then ((spec_l2Need.f k ((rd_T80 x27 x29).f0)).bind fun bt126 => (if bt126.2.2 = 0 then (spec_l2Kind.j2 k x0 x1 x7 bt126.1 bt126.2.1 bt126.2.2 x27 x28 x29 true) else ((spec_l2N.f k x0 x1 ((rd_T80 x27 x29).f0) ((rd_T80 x27 x29).f1)).bind fun t129 => (if t129 = true then (spec_l2Kind.j2 k x0 x1 x7 bt126.1 bt126.2.1 bt126.2.2 x27 x28 x29 (decide ((x7.length : Int) < bt126.1))) else (spec_l2Kind.j2 k x0 x1 x7 bt126.1 bt126.2.1 bt126.2.2 x27 x28 x29 true))))) else (none)) else (none)) else (if (x7.length : Int) = 1 then (if 0 < (x7.length : Int) then (some (rd x7 0)) else (none)) else (some 0))
def spec_l2Kind.j2 : Nat → Int → Int → List Int → Int → Int → Int → List (S80) → Int → Int → Bool → Option (Int)
 | 0, _, _, _, _, _, _, _, _, _, _ => none
 | k + 1, x0, x1, x7, x10, x11, x12, x27, x28, x29, x54 => if x54 = true then (some 0) else (spec_l2Kind.l1 k x0 x1 x7 x10 x11 x12 x27 x28 x29)
def spec_l2Kind.l1 : Nat → Int → Int → List Int → Int → Int → Int → List (S80) → Int → Int → Option (Int)
 | 0, _, _, _, _, _, _, _, _, _ => none
 | k + 1, x0, x1, x7, x10, x11, x12, x27, x28, x29 => if x10 > 0 then (if 0 ≤ (wrap64 ((x7.length : Int) - 1)) then (if (wrap64 ((x7.length : Int) - 1)) < (x7.length : Int) then (if (rd x7 (wrap64 ((x7.length : Int) - 1))) = x11 then (if (wrap64 ((x7.length : Int) - 1)) ≤ (x7.length : Int) then (spec_l2Kind.l1 k x0 x1 (x7.take ((wrap64 ((x7.length : Int) - 1)) : Int).toNat) (wrap64 (x10 - 1)) x11 x12 x27 x28 x29) else (none)) else (some 0)) else (none)) else (none)) else (if x7.length < 17592186044416 then (spec_l2Kind.l0 k x0 x1 (x7 ++ [x12]) x27 x28 (wrap64 (x29 + 1))) else (none))
end
def spec_l2Kind.f (k : Nat) (a0 : Int) (a1 : Int) (l2 : List (S80)) : Option (Int) := (spec_l1Wide.f a0).bind fun t120 => (if t120 = true then ((spec_l1In.f a1 1 4).bind fun t121 => (if t121 = true then ((spec_l1In.f (l2.length : Int) 1 48).bind fun t122 => (spec_l2Kind.j0 k a0 a1 l2 (!t122))) else (spec_l2Kind.j0 k a0 a1 l2 true))) else (spec_l2Kind.j0 k a0 a1 l2 true))
theorem spec_l2Kind.mono_l : ∀ k, (∀ y0 y1 y2 y3, LeO (spec_l2Kind.j0 k y0 y1 y2 y3) (spec_l2Kind.j0 (k + 1) y0 y1 y2 y3)) ∧ (∀ y0 y1 y2 y3 y4 y5, LeO (spec_l2Kind.l0 k y0 y1 y2 y3 y4 y5) (spec_l2Kind.l0 (k + 1) y0 y1 y2 y3 y4 y5)) ∧ (∀ y0 y1 y2 y3 y4 y5 y6 y7 y8 y9, LeO (spec_l2Kind.j2 k y0 y1 y2 y3 y4 y5 y6 y7 y8 y9) (spec_l2Kind.j2 (k + 1) y0 y1 y2 y3 y4 y5 y6 y7 y8 y9)) ∧ (∀ y0 y1 y2 y3 y4 y5 y6 y7 y8, LeO (spec_l2Kind.l1 k y0 y1 y2 y3 y4 y5 y6 y7 y8) (spec_l2Kind.l1 (k + 1) y0 y1 y2 y3 y4 y5 y6 y7 y8))
 | 0 => ⟨fun _ _ _ _ r h => by simp [spec_l2Kind.j0] at h, fun _ _ _ _ _ _ r h => by simp [spec_l2Kind.l0] at h, fun _ _ _ _ _ _ _ _ _ _ r h => by simp [spec_l2Kind.j2] at h, fun _ _ _ _ _ _ _ _ _ r h => by simp [spec_l2Kind.l1] at h⟩
 | k + 1 => by
  obtain ⟨ih0, ih1, ih2, ih3⟩ := spec_l2Kind.mono_l k
  and_intros <;> intros
  all_goals (first | unfold spec_l2Kind.j0 | unfold spec_l2Kind.l0 | unfold spec_l2Kind.j2 | unfold spec_l2Kind.l1)
  all_goals repeat' with_reducible first | apply ih0 | apply ih1 | apply ih2 | apply ih3 | apply spec_l2N.mono | apply spec_l2Need.mono | exact LeO.refl _ | exact LeO.none _ | apply LeO.ite | refine LeO.bind ?_ fun _ => ?_
theorem spec_l2Kind.mono : ∀ a0 a1 a2 k, LeO (spec_l2Kind.f k a0 a1 a2) (spec_l2Kind.f (k + 1) a0 a1 a2) := by
 intro a0 a1 a2 k
 obtain ⟨ih0, ih1, ih2, ih3⟩ := spec_l2Kind.mono_l k
 unfold spec_l2Kind.f
 repeat' with_reducible first | apply ih0 | apply ih1 | apply ih2 | apply ih3 | apply spec_l2N.mono | apply spec_l2Need.mono | exact LeO.refl _ | exact LeO.none _ | apply LeO.ite | refine LeO.bind ?_ fun _ => ?_
theorem spec_l2Kind.calls (k : Nat) (a0 : Int) (a1 : Int) (A2 : Option Addr) (c2 : Nat) (l2 : List (S80)) (r : Int) (w : World) (hr2 : Kd.C k80 w A2 l2.length l2) (hc2 : l2.length ≤ c2) (h : spec_l2Kind.f k a0 a1 l2 = some r) :
  Calls Tryz.prog 56 #[.int .i64 a0, .int .i64 a1, .slice A2 l2.length c2] w fun e w' => e = .returned (.int .i64 r) ∧ Below w.heap.size w w' := by
 have hu80 := Tryz.underlying80
 have HR2 := am_ hr2
 have HC2 := am_ hc2
 clear hr2 hc2
 have HB := am_ (Below.refl w.heap.size w)
 have H := h
 clear h
 unfold spec_l2Kind.f at H
 have HC4 := am_ H
 clear H
 go_enter Tryz.func56, Tryz.ntmps56
 go_upto_region 1 with (fail)
 go_cut [26] (fun v26 wc => ∃ (kq : Nat) (x26_3 : Bool), v26 = .bool x26_3 ∧ Aside0 (spec_l2Kind.j0 kq a0 a1 l2 x26_3 = some r) ∧ Aside0 (kq ≤ k) ∧ Aside0 (Below w.heap.size w wc))
 case first =>
  have H := HC4.out
  clear HC4
  obtain ⟨t120, A5, H⟩ := Sh.ba H
  by_cases c6 : t120 = true
  ·subst c6
   rw [if_pos rfl] at H
   obtain ⟨t121, A7, H⟩ := Sh.ba H
   by_cases c8 : t121 = true
   ·subst c8
    rw [if_pos rfl] at H
    obtain ⟨t122, A9, H⟩ := Sh.ba H
    have H' := am_ H
    clear H
    go_wp2_with (first | ((with_reducible refine Sh.k 73 ?_); refine Sh.gD (some 14) Tryz.func73 #[.int .i64 a0] (spec_l1Wide.calls a0 true _ A5.out) fun nd => ?_) | (go_at_call 39; (with_reducible refine (spec_l1In.calls a1 1 4 true _ A7.out).mono ?_); rintro e w' ⟨rfl, ⟨nd, rfl⟩⟩) | (go_at_call 39; (with_reducible refine (spec_l1In.calls (l2.length : Int) 1 48 t122 _ A9.out).mono ?_); rintro e w' ⟨rfl, ⟨nd, rfl⟩⟩))
    go_meet
    case rel => exact ⟨_, (!t122), (Sh.es), H', ⟨Sh.om⟩, ⟨Sh.bw⟩⟩
   ·replace c8 := Bool.eq_false_iff.mpr c8
    subst c8
    rw [Sh.nf] at H
    have H' := am_ H
    clear H
    go_wp2_with (first | ((with_reducible refine Sh.k 73 ?_); refine Sh.gD (some 14) Tryz.func73 #[.int .i64 a0] (spec_l1Wide.calls a0 true _ A5.out) fun nd => ?_) | (go_at_call 39; (with_reducible refine (spec_l1In.calls a1 1 4 false _ A7.out).mono ?_); rintro e w' ⟨rfl, ⟨nd, rfl⟩⟩))
    go_meet
    case rel => exact ⟨_, (true), (Sh.es), H', ⟨Sh.om⟩, ⟨Sh.bw⟩⟩
  ·replace c6 := Bool.eq_false_iff.mpr c6
   subst c6
   rw [Sh.nf] at H
   have H' := am_ H
   clear H
   go_wp2_with (first | ((with_reducible refine Sh.k 73 ?_); refine Sh.gD (some 14) Tryz.func73 #[.int .i64 a0] (spec_l1Wide.calls a0 false _ A5.out) fun nd => ?_))
   go_meet
   case rel => exact ⟨_, (true), (Sh.es), H', ⟨Sh.om⟩, ⟨Sh.bw⟩⟩
 case rest =>
  clear HC4
  obtain ⟨kq, x26_3, rfl, HA, HJ3, HB⟩ := hcut
  cases kq with
  | zero => exact absurd HA.out (by simp [spec_l2Kind.j0])
  | succ kj3 =>
   have H := HA.out
   clear HA
   simp only [spec_l2Kind.j0] at H
   by_cases c10 : x26_3 = true
   ·subst c10
    rw [if_pos rfl] at H
    obtain rfl := Option.some.inj H
    go_wp2
    go_ret
    exact ⟨Sh.eR, Sh.bw⟩
   ·replace c10 := Bool.eq_false_iff.mpr c10
    subst c10
    rw [Sh.nf] at H
    have H' := am_ H
    clear H
    go_wp2
    go_loopg [7, 29] kj3 (fun kq v7 v29 w' => ∃ (x7_2 : List Int) (x29_2 : Int), v29 = .int .i64 x29_2 ∧ Aside0 (spec_l2Kind.l0 kq a0 a1 x7_2 l2 (l2.length : Int) x29_2 = some r) ∧ Aside0 (kq ≤ kj3) ∧ Aside0 (Kd.R (Kd.int .i64) 3 w' w.heap.size (fun _ => True) v7 x7_2) ∧ Aside0 (Below w.heap.size w w'))
    case atStart => exact ⟨(([] : List Int)), (0), (Sh.es), H', ⟨Nat.le_refl _⟩, ⟨by first | exact Kd.R_nil _ _ _ _ _ | exact Kd.N_nil _ _ _ _ _ | exact Kd.V_nil _ _ _ _ _ | exact Kd.Q_nil _ _ _ _ _ | exact Kd.S_nil _ _ _ _ _⟩, ⟨Sh.bw⟩⟩
    case round =>
     clear H'
     obtain ⟨x7_2, x29_2, rfl, HA, HK2, HO_7, HB⟩ := hrel
     cases gk with
     | zero => exact absurd HA.out (by simp [spec_l2Kind.l0])
     | succ k2 =>
      have H := HA.out
      clear HA
      simp only [spec_l2Kind.l0] at H
      by_cases c11 : x29_2 < (l2.length : Int)
      ·rw [if_pos c11] at H
       have c11b0 := decide_eq_true c11
       clear c11
       by_cases c12 : 0 ≤ x29_2
       ·rw [if_pos c12] at H
        have c12b0 := decide_eq_true c12
        clear c12
        by_cases c13 : x29_2 < (l2.length : Int)
        ·rw [if_pos c13] at H
         have c13b0 := decide_eq_true c13
         clear c13
         obtain ⟨⟨t126, t127, t128⟩, A140, H⟩ := Sh.bd H
         have A14 := am_ A140
         clear A140
         have HC15 := am_ H
         clear H
         have p124 : 0 ≤ (x29_2 : Int) := Sh.od
         have q124 : x29_2 < (l2.length : Int) := Sh.od
         obtain ⟨ad124, e124, hx124_0, hx124_1⟩ := at_T80 HR2.out x29_2 p124 q124
         cases e124
         try replace hx124_0 := Sh.cw hx124_0
         try replace hx124_1 := Sh.cw hx124_1
         replace p124 := eq_true p124
         replace q124 := eq_true q124
         go_upto_region 8 with (first | ((with_reducible refine Sh.d 9 ?_); (try (refine gate_guard (by rfl) ?_; dsimp only)); refine Sh.bx (N := 9) (cs := #[.int .i64 0, .int .u64 0]) (t := 80) (h := ?_); intro gb125 hg w16 hbox hb; replace HO_7 := am_ (Kd.R_below (Sh.rl HO_7.out) hb); have BK125 := am_ hbox; have GE125 := Sh.ag w hg; replace HB := Sh.hb hb; clear hb hbox hg; obtain ⟨hcz17_0, hcz17_1, hfz17_0, hfz17_1⟩ := Sh.b2 BK125.out) | ((with_reducible refine Sh.k 74 ?_); refine Sh.gD (some 36) Tryz.func74 #[.int .i64 ((rd_T80 l2 x29_2).f0)] (spec_l2Need.calls k2 ((rd_T80 l2 x29_2).f0) t126 t127 t128 _ A14.out) fun nd => ?_))
         (try simp only [Act.put, List.setIfInBounds_toArray, List.set_cons_zero, List.set_cons_succ])
         go_cut [54] (fun v54 wc => ∃ (kq : Nat) (x54_14 : Bool), v54 = .bool x54_14 ∧ Aside0 (spec_l2Kind.j2 kq a0 a1 x7_2 t126 t127 t128 l2 (l2.length : Int) x29_2 x54_14 = some r) ∧ Aside0 (kq ≤ k2) ∧ Aside0 (Kd.R (Kd.int .i64) 3 wc w.heap.size (fun _ => True) u7 x7_2) ∧ Aside0 (wc.heap[gb125]? = some (.cells #[.int .i64 ((rd_T80 l2 x29_2).f0), .int .u64 ((rd_T80 l2 x29_2).f1)] 80 (0, 0))) ∧ Aside0 (Below w.heap.size w wc))
         case first =>
          have H := HC15.out
          clear HC15
          by_cases c18 : t128 = 0
          ·rw [if_pos c18] at H
           have c18b0 : (t128 == 0) = true := beq_iff_eq.mpr c18
           have c18b1 : (t128 != 0) = false := bne_eq_false_iff_eq.mpr c18
           clear c18
           first | rw [c18b0] | (simp only [i64_w, i32_w]; rw [c18b0]) | skip
           have H' := am_ H
           clear H
           go_wp2
           go_meet
           case rel => exact ⟨_, (true), (Sh.es), H', ⟨by have := HJ3.out; have := HK2.out; first | omega | exact Nat.le_refl _⟩, ⟨Sh.rl (Kd.R_mono (Kd.R_far (p := ⟨gb125, 1, none⟩) (Kd.R_far (p := ⟨gb125, 0, none⟩) (Kd.R_types HO_7.out BK125.out (by decide)) (fun _ hk => hk.2) (.int .i64 ((rd_T80 l2 x29_2).f0))) (fun _ hk => hk.2) (.int .u64 ((rd_T80 l2 x29_2).f1))) (fun _ hk => trivial))⟩, ⟨by refine Sh.pl ?_; refine blk_put (cs := #[.int .i64 ((rd_T80 l2 x29_2).f0), .int .u64 0]) ?_ 1 _ rfl; refine Sh.pl ?_; refine blk_put (cs := #[.int .i64 0, .int .u64 0]) ?_ 0 _ rfl; refine Sh.pl ?_; exact BK125.out⟩, ⟨Sh.bw⟩⟩
          ·rw [if_neg c18] at H
           have c18b0 : (t128 == 0) = false := beq_eq_false_iff_ne.mpr c18
           have c18b1 : (t128 != 0) = true := bne_iff_ne.mpr c18
           first | rw [c18b0] | (simp only [i64_w, i32_w]; rw [c18b0]) | skip
           obtain ⟨t129, A19, H⟩ := Sh.ba H
           by_cases c20 : t129 = true
           ·subst c20
            rw [if_pos rfl] at H
            have H' := am_ H
            clear H
            have hcz21_0 := Sh.bc BK125.out 0
            have hcz21_1 := Sh.bc BK125.out 1
            have hfz21_0 := blk_frozen BK125.out 0
            have hfz21_1 := blk_frozen BK125.out 1
            go_wp2_with (first | (go_at_call 75; (with_reducible refine (spec_l2N.calls k2 a0 a1 ((rd_T80 l2 x29_2).f0) ((rd_T80 l2 x29_2).f1) true _ A19.out).mono ?_); rintro e w22 ⟨rfl, hb⟩; have n0_ := am_ (Kd.R_below (Sh.rl (Kd.R_mono (Kd.R_far (p := ⟨gb125, 1, none⟩) (Kd.R_far (p := ⟨gb125, 0, none⟩) (Kd.R_types HO_7.out BK125.out (by decide)) (fun _ hk => hk.2) (.int .i64 ((rd_T80 l2 x29_2).f0))) (fun _ hk => hk.2) (.int .u64 ((rd_T80 l2 x29_2).f1))) (fun _ h_ => h_.1))) hb); have n1_ := am_ (blk_below (g := gb125) (o := .cells #[.int .i64 ((rd_T80 l2 x29_2).f0), .int .u64 ((rd_T80 l2 x29_2).f1)] 80 (0, 0)) (by refine Sh.pl ?_; refine blk_put (cs := #[.int .i64 ((rd_T80 l2 x29_2).f0), .int .u64 0]) ?_ 1 _ rfl; refine Sh.pl ?_; refine blk_put (cs := #[.int .i64 0, .int .u64 0]) ?_ 0 _ rfl; refine Sh.pl ?_; exact BK125.out) hb); have n2_ := am_ (below_step Sh.bw hb); clear HO_7; clear BK125; clear HB; have HO_7 := n0_; have BK125 := n1_; have HB := n2_; clear n0_ n1_ n2_; (try clear hb); (try clear hb2); (try clear hk); (try clear hi); obtain ⟨Ao23, co23, eo23⟩ := Kd.R_slice HO_7.out; subst eo23))
            go_meet
            case rel => exact ⟨_, (decide ((x7_2.length : Int) < t126)), (Sh.es), H', ⟨by have := HJ3.out; have := HK2.out; first | omega | exact Nat.le_refl _⟩, ⟨Sh.rl HO_7.out⟩, ⟨by refine Sh.pl ?_; exact BK125.out⟩, ⟨Sh.bw⟩⟩
           ·replace c20 := Bool.eq_false_iff.mpr c20
            subst c20
            rw [Sh.nf] at H
            have H' := am_ H
            clear H
            have hcz24_0 := Sh.bc BK125.out 0
            have hcz24_1 := Sh.bc BK125.out 1
            have hfz24_0 := blk_frozen BK125.out 0
            have hfz24_1 := blk_frozen BK125.out 1
            go_wp2_with (first | (go_at_call 75; (with_reducible refine (spec_l2N.calls k2 a0 a1 ((rd_T80 l2 x29_2).f0) ((rd_T80 l2 x29_2).f1) false _ A19.out).mono ?_); rintro e w25 ⟨rfl, hb⟩; have n0_ := am_ (Kd.R_below (Sh.rl (Kd.R_mono (Kd.R_far (p := ⟨gb125, 1, none⟩) (Kd.R_far (p := ⟨gb125, 0, none⟩) (Kd.R_types HO_7.out BK125.out (by decide)) (fun _ hk => hk.2) (.int .i64 ((rd_T80 l2 x29_2).f0))) (fun _ hk => hk.2) (.int .u64 ((rd_T80 l2 x29_2).f1))) (fun _ h_ => h_.1))) hb); have n1_ := am_ (blk_below (g := gb125) (o := .cells #[.int .i64 ((rd_T80 l2 x29_2).f0), .int .u64 ((rd_T80 l2 x29_2).f1)] 80 (0, 0)) (by refine Sh.pl ?_; refine blk_put (cs := #[.int .i64 ((rd_T80 l2 x29_2).f0), .int .u64 0]) ?_ 1 _ rfl; refine Sh.pl ?_; refine blk_put (cs := #[.int .i64 0, .int .u64 0]) ?_ 0 _ rfl; refine Sh.pl ?_; exact BK125.out) hb); have n2_ := am_ (below_step Sh.bw hb); clear HO_7; clear BK125; clear HB; have HO_7 := n0_; have BK125 := n1_; have HB := n2_; clear n0_ n1_ n2_; (try clear hb); (try clear hb2); (try clear hk); (try clear hi)))
            go_meet
            case rel => exact ⟨_, (true), (Sh.es), H', ⟨by have := HJ3.out; have := HK2.out; first | omega | exact Nat.le_refl _⟩, ⟨Sh.rl HO_7.out⟩, ⟨by refine Sh.pl ?_; exact BK125.out⟩, ⟨Sh.bw⟩⟩
         case rest =>
          clear HC15
          try clear hx1
          try clear hx12
          try clear hcz17_0
          try clear hcz17_1
          try clear hcz21_0
          try clear hcz21_1
          try clear hcz24_0
          try clear hcz24_1
          try clear hfz17_0
          try clear hfz17_1
          try clear hfz21_0
          try clear hfz21_1
          try clear hfz24_0
          try clear hfz24_1
          try clear hx124_0
          try clear hx124_1
          obtain ⟨kq, x54_14, rfl, HA, HJ14, HO_7, BK125, HB⟩ := hcut
          cases kq with
          | zero => exact absurd HA.out (by simp [spec_l2Kind.j2])
          | succ kj14 =>
           have H := HA.out
           clear HA
           simp only [spec_l2Kind.j2] at H
           by_cases c26 : x54_14 = true
           ·subst c26
            rw [if_pos rfl] at H
            obtain rfl := Option.some.inj H
            go_wp2
            go_ret
            exact ⟨Sh.eR, Sh.bw⟩
           ·replace c26 := Bool.eq_false_iff.mpr c26
            subst c26
            rw [Sh.nf] at H
            have H' := am_ H
            clear H
            go_wp2
            go_loopg [7, 10] kj14 (fun kq v7 v10 w' => ∃ (x7_4 : List Int) (x10_4 : Int), v10 = .int .i64 x10_4 ∧ Aside0 (spec_l2Kind.l1 kq a0 a1 x7_4 x10_4 t127 t128 l2 (l2.length : Int) x29_2 = some r) ∧ Aside0 (kq ≤ kj14) ∧ Aside0 (Kd.R (Kd.int .i64) 3 w' w.heap.size (fun _ => True) v7 x7_4) ∧ Aside0 (w'.heap[gb125]? = some (.cells #[.int .i64 ((rd_T80 l2 x29_2).f0), .int .u64 ((rd_T80 l2 x29_2).f1)] 80 (0, 0))) ∧ Aside0 (Below w.heap.size w w'))
            case atStart => exact ⟨(x7_2), (t126), (Sh.es), H', ⟨Nat.le_refl _⟩, ⟨Sh.rl HO_7.out⟩, ⟨by refine Sh.pl ?_; exact BK125.out⟩, ⟨Sh.bw⟩⟩
            case round =>
             clear H'
             try clear hx1
             try clear hx12
             try clear hcz17_0
             try clear hcz17_1
             try clear hcz21_0
             try clear hcz21_1
             try clear hcz24_0
             try clear hcz24_1
             try clear hfz17_0
             try clear hfz17_1
             try clear hfz21_0
             try clear hfz21_1
             try clear hfz24_0
             try clear hfz24_1
             try clear hx124_0
             try clear hx124_1
             obtain ⟨x7_4, x10_4, rfl, HA, HK4, HO_7, BK125, HB⟩ := hrel
             cases gk with
             | zero => exact absurd HA.out (by simp [spec_l2Kind.l1])
             | succ k4 =>
              have H := HA.out
              clear HA
              simp only [spec_l2Kind.l1] at H
              by_cases c27 : x10_4 > 0
              ·rw [if_pos c27] at H
               have c27b0 : decide (0 < x10_4) = true := decide_eq_true c27
               clear c27
               obtain ⟨ji28, hj1⟩ : ∃ j_ : Int, (wrap64 ((x7_4.length : Int) - 1)) = j_ := ⟨_, rfl⟩
               replace H : (if 0 ≤ (ji28) then (if (ji28) < (x7_4.length : Int) then (if (rd x7_4 (ji28)) = t127 then (if (ji28) ≤ (x7_4.length : Int) then (spec_l2Kind.l1 k4 a0 a1 (x7_4.take ((ji28) : Int).toNat) (wrap64 (x10_4 - 1)) t127 t128 l2 (l2.length : Int) x29_2) else (none)) else (some 0)) else (none)) else (none)) = some r := by first | (rw [hj1] at H; exact H) | (simp only [hj1] at H ⊢; exact H)
               have hji28w : (IntKind.i64.wrap ((x7_4.length : Int) - 1)) = ji28 := (i64_w _).trans hj1
               by_cases c29 : 0 ≤ (ji28)
               ·rw [if_pos c29] at H
                have c29b0 := decide_eq_true c29
                clear c29
                by_cases c30 : (ji28) < (x7_4.length : Int)
                ·rw [if_pos c30] at H
                 have c30b0 := decide_eq_true c30
                 clear c30
                 by_cases c31 : (rd x7_4 (ji28)) = t127
                 ·rw [if_pos c31] at H
                  have c31b0 : ((rd x7_4 (ji28)) == t127) = true := beq_iff_eq.mpr c31
                  have c31b1 : ((rd x7_4 (ji28)) != t127) = false := bne_eq_false_iff_eq.mpr c31
                  clear c31
                  by_cases c32 : (ji28) ≤ (x7_4.length : Int)
                  ·rw [if_pos c32] at H
                   have c32b0 := eq_true c32
                   have c32b1 := decide_eq_true c32
                   clear c32
                   obtain ⟨y131, hy131⟩ : ∃ y_ : List Int, y_ = (x7_4.take ((ji28) : Int).toNat) := ⟨_, rfl⟩
                   replace H : (spec_l2Kind.l1 k4 a0 a1 y131 (wrap64 (x10_4 - 1)) t127 t128 l2 (l2.length : Int) x29_2) = some r := by first | (rw [hy131]; with_reducible exact H) | (have H2_ := (Option.bind_some _ _).symm.trans H; rw [hy131]; with_reducible exact H2_) | (have H2_ := (Option.bind_some _ _).symm.trans H; with_reducible exact H2_) | with_reducible exact H | (rw [hy131]; exact H) | exact H
                   have Ny131 := am_ hy131
                   clear hy131
                   have H' := am_ H
                   clear H
                   obtain ⟨Ao33, co33, eo33⟩ := Kd.R_slice HO_7.out
                   subst eo33
                   have p130 : 0 ≤ ((ji28) : Int) := Sh.od
                   have q130 : (ji28) < (x7_4.length : Int) := Sh.od
                   obtain ⟨ad130, e130, hx130_0⟩ := Kd.at_int (Kd.R_reads' HO_7.out).2.2 (ji28) p130 q130
                   cases e130
                   replace p130 := eq_true p130
                   replace q130 := eq_true q130
                   have q34 : ((ji28) : Int) ≤ ((x7_4.length : Int) : Int) := Sh.od
                   obtain ⟨i034, hi034, _, hsz34, _⟩ := info_parts info3
                   have hcut34 := cut_to (P := Tryz.prog) 27 3 .i64 Tryz.underlying27 hi034 (some ad130) x7_4.length co33 (ji28) (of_decide_eq_true (by first | (with_reducible assumption) | assumption)) q34 (Kd.R_reads' HO_7.out).2.1
                   have hr34 := Kd.R_take (m := ((ji28) : Int).toNat) HO_7.out (by omega)
                   have hy34 : y131.length = ((ji28) : Int).toNat := (by rw [Ny131.out, List.length_take]; omega)
                   rw [← Ny131.out] at hr34
                   rw [← hy34] at hr34 hcut34
                   clear hy34 hi034 hsz34 HO_7
                   have HO133 := am_ hr34
                   clear hr34
                   replace q34 := eq_true q34
                   go_wp2
                   go_roundg k4
                   case measure => have := HJ3.out; have := HK2.out; have := HJ14.out; have := HK4.out; omega
                   case rel => exact ⟨(y131), (wrap64 (x10_4 - 1)), (Sh.es), H', ⟨by have := HJ3.out; have := HK2.out; have := HJ14.out; have := HK4.out; omega⟩, ⟨Sh.rl HO133.out⟩, ⟨by refine Sh.pl ?_; exact BK125.out⟩, ⟨Sh.bw⟩⟩
                  ·rw [if_neg c32] at H
                   exact absurd H (by simp)
                 ·rw [if_neg c31] at H
                  have c31b0 : ((rd x7_4 (ji28)) == t127) = false := beq_eq_false_iff_ne.mpr c31
                  have c31b1 : ((rd x7_4 (ji28)) != t127) = true := bne_iff_ne.mpr c31
                  obtain rfl := Option.some.inj H
                  obtain ⟨Ao35, co35, eo35⟩ := Kd.R_slice HO_7.out
                  subst eo35
                  have p130 : 0 ≤ ((ji28) : Int) := Sh.od
                  have q130 : (ji28) < (x7_4.length : Int) := Sh.od
                  obtain ⟨ad130, e130, hx130_0⟩ := Kd.at_int (Kd.R_reads' HO_7.out).2.2 (ji28) p130 q130
                  cases e130
                  replace p130 := eq_true p130
                  replace q130 := eq_true q130
                  go_wp2
                  go_ret
                  exact ⟨by first | rfl | (simp [errW_none, errW_some] <;> rfl) | (simp only [← hj1]; first | rfl | (simp [errW_none, errW_some] <;> rfl)) | (simp [*, errW_none, errW_some] <;> rfl), Sh.bw⟩
                ·rw [if_neg c30] at H
                 exact absurd H (by simp)
               ·rw [if_neg c29] at H
                exact absurd H (by simp)
              ·rw [if_neg c27] at H
               have c27b0 : decide (0 < x10_4) = false := decide_eq_false c27
               clear c27
               by_cases c36 : x7_4.length < 17592186044416
               ·rw [if_pos c36] at H
                have LMc36 := am_ c36
                clear c36
                obtain ⟨y134, hy134⟩ : ∃ y_ : List Int, y_ = (x7_4 ++ [t128]) := ⟨_, rfl⟩
                replace H : (spec_l2Kind.l0 k4 a0 a1 y134 l2 (l2.length : Int) (wrap64 (x29_2 + 1))) = some r := by first | (rw [hy134]; with_reducible exact H) | (have H2_ := (Option.bind_some _ _).symm.trans H; rw [hy134]; with_reducible exact H2_) | (have H2_ := (Option.bind_some _ _).symm.trans H; with_reducible exact H2_) | with_reducible exact H | (rw [hy134]; exact H) | exact H
                have Ny134 := am_ hy134
                clear hy134
                have H' := am_ H
                clear H
                go_wp2_with (first | ((with_reducible refine gate_builtin (b := .append) (xs := #[.tmp 72, .tmp 74]) rfl ?_); (try (refine gate_guard (by rfl) ?_; dsimp only)); at_builtin; refine Kd.R_append (Kd.int .i64) (w0 := w) w.heap.size rfl (.tmp 72) (.tmp 74) 27 3 (.int .i64 0) 8 rfl Tryz.underlying27 info3 rfl (by decide) (by omega) u7 x7_4 t128 [.int .i64 t128] (fun _ => True) (fun _ => False) rfl rfl ?aP (fun _ hk => hk.elim) ?aF ?aO ?aB ?aS ?aL ?_; (case aP => exact rfl); (case aB => exact Sh.bw); (case aF => exact (fun _ _ => trivial)); (case aO => exact (Sh.rl HO_7.out)); (case aS => exact (below_size Sh.bw)); (case aL => have := LMc36.out; omega); intro v135 w37 ho hb hg hat; rw [← Ny134.out] at ho; have n0_ := am_ (blk_grown (g := gb125) (o := .cells #[.int .i64 ((rd_T80 l2 x29_2).f0), .int .u64 ((rd_T80 l2 x29_2).f1)] 80 (0, 0)) (Sh.pl BK125.out) hg (Kd.R_ne HO_7.out BK125.out (by decide))); have n1_ := am_ hb; have n2_ := am_ ho; clear BK125; clear HB; clear HO_7; have BK125 := n0_; have HB := n1_; have HO136 := n2_; clear n0_ n1_ n2_; clear ho hb hg hat))
                go_roundg k4
                case measure => have := HJ3.out; have := HK2.out; have := HJ14.out; have := HK4.out; omega
                case rel => exact ⟨(y134), (wrap64 (x29_2 + 1)), (Sh.es), H', ⟨by have := HJ3.out; have := HK2.out; have := HJ14.out; have := HK4.out; omega⟩, ⟨Sh.rl HO136.out⟩, ⟨Sh.bw⟩⟩
               ·rw [if_neg c36] at H
                exact absurd H (by simp)
        ·rw [if_neg c13] at H
         exact absurd H (by simp)
       ·rw [if_neg c12] at H
        exact absurd H (by simp)
      ·rw [if_neg c11] at H
       have c11b0 := decide_eq_false c11
       clear c11
       by_cases c38 : (x7_2.length : Int) = 1
       ·rw [if_pos c38] at H
        have c38b0 : ((x7_2.length : Int) == 1) = true := beq_iff_eq.mpr c38
        have c38b1 : ((x7_2.length : Int) != 1) = false := bne_eq_false_iff_eq.mpr c38
        clear c38
        by_cases c39 : 0 < (x7_2.length : Int)
        ·rw [if_pos c39] at H
         have c39b0 := decide_eq_true c39
         have c39b1 : decide (0 < x7_2.length) = true := decide_eq_true (by omega)
         clear c39
         obtain rfl := Option.some.inj H
         obtain ⟨Ao40, co40, eo40⟩ := Kd.R_slice HO_7.out
         subst eo40
         have p123 : 0 ≤ (0 : Int) := (by omega)
         have q123 : 0 < (x7_2.length : Int) := Sh.od
         obtain ⟨ad123, e123, hx123_0⟩ := Kd.at_int (Kd.R_reads' HO_7.out).2.2 0 p123 q123
         cases e123
         have qi123 : (0 < x7_2.length) = True := eq_true (by omega)
         (try rw [show ((0 : Int)).toNat = 0 from rfl] at hx123_0)
         (try rw [Addr.add_zero'] at hx123_0)
         replace p123 := eq_true p123
         replace q123 := eq_true q123
         go_wp2
         go_ret
         exact ⟨Sh.eR, Sh.bw⟩
        ·rw [if_neg c39] at H
         exact absurd H (by simp)
       ·rw [if_neg c38] at H
        have c38b0 : ((x7_2.length : Int) == 1) = false := beq_eq_false_iff_ne.mpr c38
        have c38b1 : ((x7_2.length : Int) != 1) = true := bne_iff_ne.mpr c38
        obtain rfl := Option.some.inj H
        obtain ⟨Ao41, co41, eo41⟩ := Kd.R_slice HO_7.out
        subst eo41
        go_wp2
        go_ret
        exact ⟨Sh.eR, Sh.bw⟩
def spec_l7Asks.f (k : Nat) (a0_0 : Int) (a0_1 : Int) (l0_2 : List (S80)) (l0_3 : List (S72)) (l1 : List (S80)) : Option (Bool) := (spec_l2Kind.f k a0_0 a0_1 l1).bind fun t138 => (some (t138 == 2))
theorem spec_l7Asks.mono : ∀ a0 a1 a2 a3 a4 k, LeO (spec_l7Asks.f k a0 a1 a2 a3 a4) (spec_l7Asks.f (k + 1) a0 a1 a2 a3 a4) := by
 intro a0 a1 a2 a3 a4 k
 unfold spec_l7Asks.f
 repeat' with_reducible first | apply spec_l2Kind.mono | exact LeO.refl _ | exact LeO.none _ | apply LeO.ite | refine LeO.bind ?_ fun _ => ?_
theorem spec_l7Asks.calls (k : Nat) (a0_0 : Int) (a0_1 : Int) (A0_2 : Option Addr) (c0_2 : Nat) (l0_2 : List (S80)) (A0_3 : Option Addr) (c0_3 : Nat) (l0_3 : List (S72)) (A1 : Option Addr) (c1 : Nat) (l1 : List (S80)) (r : Bool) (w : World) (hr0_2 : Kd.C k80 w A0_2 l0_2.length l0_2) (hc0_2 : l0_2.length ≤ c0_2) (hr0_3 : Kd.C k72 w A0_3 l0_3.length l0_3) (hc0_3 : l0_3.length ≤ c0_3) (hr1 : Kd.C k80 w A1 l1.length l1) (hc1 : l1.length ≤ c1) (h : spec_l7Asks.f k a0_0 a0_1 l0_2 l0_3 l1 = some r) :
  Calls Tryz.prog 38 #[.agg #[.int .i64 a0_0, .int .i64 a0_1, .slice A0_2 l0_2.length c0_2, .slice A0_3 l0_3.length c0_3], .slice A1 l1.length c1] w fun e w' => e = .returned (.bool r) ∧ Below w.heap.size w w' := by
 have hu36 := Tryz.underlying36
 have HR0_2 := am_ hr0_2
 have HC0_2 := am_ hc0_2
 clear hr0_2 hc0_2
 have HR0_3 := am_ hr0_3
 have HC0_3 := am_ hc0_3
 clear hr0_3 hc0_3
 have HR1 := am_ hr1
 have HC1 := am_ hc1
 clear hr1 hc1
 have HB := am_ (Below.refl w.heap.size w)
 have H := h
 clear h
 unfold spec_l7Asks.f at H
 obtain ⟨t138, A3, H⟩ := Sh.ba H
 obtain rfl := Option.some.inj H
 go_enter Tryz.func38, Tryz.ntmps38
 go_wp2_with (first | ((with_reducible refine Sh.d 2 ?_); refine Sh.bz w (N := 2) (cs := #[.int .i64 a0_0, .int .i64 a0_1, .slice A0_2 l0_2.length c0_2, .slice A0_3 l0_3.length c0_3]) (t := 36) (h := ?_); clear HB; intro gb137 w4 BK137 GE137 HB; obtain ⟨hcz5_0, hcz5_1, hcz5_2, hcz5_3, hfz5_0, hfz5_1, hfz5_2, hfz5_3⟩ := Sh.b4 BK137.out) | ((with_reducible refine Sh.k 56 ?_); refine Sh.gB (some 10) Tryz.func56 #[.int .i64 a0_0, .int .i64 a0_1, .slice A1 l1.length c1] (spec_l2Kind.calls k a0_0 a0_1 _ _ l1 t138 _ (Sh.cB HR1.out) HC1.out A3.out) fun w6 hb => ?_; replace BK137 := Sh.ab BK137 hb; replace HB := Sh.hb hb; (try clear hb); (try clear hb2); (try clear hk); (try clear hi)))
 go_ret
 exact ⟨Sh.eR, Sh.bw⟩
mutual
def spec_l7Command.j0 : Nat → Bool → Int → Int → List (S80) → List (S72) → List (S80) → List (S94) → Option (Bool)
 | 0, _, _, _, _, _, _, _ => none
 | k + 1, x19, x140000, x140001, x140002, x140003, x141000, x141001 => if x19 = true then (some false) else (spec_l7Command.l0 k x141001 (x141001.length : Int) 0 x140000 x140001 x140002 x140003 x141000 x141001)
def spec_l7Command.l0 : Nat → List (S94) → Int → Int → Int → Int → List (S80) → List (S72) → List (S80) → List (S94) → Option (Bool)
 | 0, _, _, _, _, _, _, _, _, _ => none
 | k + 1, x21, x22, x23, x140000, x140001, x140002, x140003, x141000, x141001 => if x23 < x22 then (if 0 ≤ x23 then (if x23 < (x21.length : Int) then ((spec_l1In.f ((rd_T94 x21 x23).f0) 0 (wrap64 (x140001 - 1))).bind fun t144 => (if t144 = true then (if x23 > 0 then (if 0 ≤ (wrap64 (x23 - 1)) then (if (wrap64 (x23 - 1)) < (x141001.length : Int) then (if ((rd_T94 x141001 (wrap64 (x23 - 1))).f0) ≥ ((rd_T94 x21 x23).f0) then (some false) else ((spec_l2Kind.f k x140000 x140001 ((rd_T94 x21 x23).f1)).bind fun t146 => (if t146 = 1 then (spec_l7Command.l0 k x21 x22 (wrap64 (x23 + 1)) x140000 x140001 x140002 x140003 x141000 x141001) else (some false)))) else (none)) else (none)) else ((spec_l2Kind.f k x140000 x140001 ((rd_T94 x21 x23).f1)).bind fun t147 => (if t147 = 1 then (spec_l7Command.l0 k x21 x22 (wrap64 (x23 + 1)) x140000 x140001 x140002 x140003 x141000 x141001) else (some false)))) else (some false))) else (none)) else (none)) else (some true)
end
def spec_l7Command.f (k : Nat) (a0_0 : Int) (a0_1 : Int) (l0_2 : List (S80)) (l0_3 : List (S72)) (l1_0 : List (S80)) (l1_1 : List (S94)) : Option (Bool) := (spec_l7Asks.f k a0_0 a0_1 l0_2 l0_3 l1_0).bind fun t141 => (if t141 = true then (spec_l7Command.j0 k (decide ((l1_1.length : Int) > a0_1)) a0_0 a0_1 l0_2 l0_3 l1_0 l1_1) else (spec_l7Command.j0 k true a0_0 a0_1 l0_2 l0_3 l1_0 l1_1))
theorem spec_l7Command.mono_l : ∀ k, (∀ y0 y1 y2 y3 y4 y5 y6, LeO (spec_l7Command.j0 k y0 y1 y2 y3 y4 y5 y6) (spec_l7Command.j0 (k + 1) y0 y1 y2 y3 y4 y5 y6)) ∧ (∀ y0 y1 y2 y3 y4 y5 y6 y7 y8, LeO (spec_l7Command.l0 k y0 y1 y2 y3 y4 y5 y6 y7 y8) (spec_l7Command.l0 (k + 1) y0 y1 y2 y3 y4 y5 y6 y7 y8))
 | 0 => ⟨fun _ _ _ _ _ _ _ r h => by simp [spec_l7Command.j0] at h, fun _ _ _ _ _ _ _ _ _ r h => by simp [spec_l7Command.l0] at h⟩
 | k + 1 => by
  obtain ⟨ih0, ih1⟩ := spec_l7Command.mono_l k
  and_intros <;> intros
  all_goals (first | unfold spec_l7Command.j0 | unfold spec_l7Command.l0)
  all_goals repeat' with_reducible first | apply ih0 | apply ih1 | apply spec_l2Kind.mono | apply spec_l7Asks.mono | exact LeO.refl _ | exact LeO.none _ | apply LeO.ite | refine LeO.bind ?_ fun _ => ?_
theorem spec_l7Command.mono : ∀ a0 a1 a2 a3 a4 a5 k, LeO (spec_l7Command.f k a0 a1 a2 a3 a4 a5) (spec_l7Command.f (k + 1) a0 a1 a2 a3 a4 a5) := by
 intro a0 a1 a2 a3 a4 a5 k
 obtain ⟨ih0, ih1⟩ := spec_l7Command.mono_l k
 unfold spec_l7Command.f
 repeat' with_reducible first | apply ih0 | apply ih1 | apply spec_l2Kind.mono | apply spec_l7Asks.mono | exact LeO.refl _ | exact LeO.none _ | apply LeO.ite | refine LeO.bind ?_ fun _ => ?_
def spec_l7Command.T6 : Bool × List (List Nat × List Nat) := (true, [([], []), ([0], [0]), ([], []), ([2], [2]), ([3], [3]), ([1, 4], [1, 4]), ([5], [5]), ([6, 5], [6]), ([7], [7]), ([8, 7], [7, 8]), ([9, 7, 7], [7, 9]), ([10], [10]), ([11, 10], [10, 11]), ([10], [10]), ([13, 10], [10, 13]), ([12, 14, 10], [10, 12, 14]), ([15, 10], [10, 15]), ([16, 10], [10, 16]), ([10], [10]), ([18, 10], [10, 18]), ([17, 19, 10], [10, 17, 19]), ([10, 20, 7], [7, 10, 20]), ([7, 21], [7, 21]), ([22, 10], [22]), ([23], [23]), ([24, 23], [23, 24]), ([23], [23]), ([26, 23], [23, 26]), ([23], [23]), ([28, 23], [23, 28]), ([25, 27, 29, 23, 23], [23, 25, 27, 29]), ([30, 23], [23, 30]), ([23, 31], [23, 31])])
def spec_l7Command.B6 : List Nat := [0, 1, 0, 4, 12, 31, 63, 127, 255, 511, 1023, 2047, 4095, 2047, 10239, 32767, 65535, 131071, 2047, 264191, 1048575, 2097151, 4194303, 8388607, 16777215, 33554431, 16777215, 83886079, 16777215, 285212671, 1073741823, 2147483647, 4294967295]
theorem spec_l7Command.tab6 : rtab .any (opsOf Tryz.f40 6) = spec_l7Command.T6 := by kernel_rfl
theorem spec_l7Command.bits6 : waitsOk spec_l7Command.T6.2 spec_l7Command.B6 = true := by kernel_rfl
theorem spec_l7Command.calls (k : Nat) (a0_0 : Int) (a0_1 : Int) (A0_2 : Option Addr) (c0_2 : Nat) (l0_2 : List (S80)) (A0_3 : Option Addr) (c0_3 : Nat) (l0_3 : List (S72)) (A1_0 : Option Addr) (c1_0 : Nat) (l1_0 : List (S80)) (A1_1 : Option Addr) (c1_1 : Nat) (l1_1 : List (S94)) (r : Bool) (w : World) (hr0_2 : Kd.C k80 w A0_2 l0_2.length l0_2) (hc0_2 : l0_2.length ≤ c0_2) (hr0_3 : Kd.C k72 w A0_3 l0_3.length l0_3) (hc0_3 : l0_3.length ≤ c0_3) (hr1_0 : Kd.C k80 w A1_0 l1_0.length l1_0) (hc1_0 : l1_0.length ≤ c1_0) (hr1_1 : Kd.C k94 w A1_1 l1_1.length l1_1) (hc1_1 : l1_1.length ≤ c1_1) (h : spec_l7Command.f k a0_0 a0_1 l0_2 l0_3 l1_0 l1_1 = some r) :
  Calls Tryz.prog 40 #[.agg #[.int .i64 a0_0, .int .i64 a0_1, .slice A0_2 l0_2.length c0_2, .slice A0_3 l0_3.length c0_3], .agg #[.slice A1_0 l1_0.length c1_0, .slice A1_1 l1_1.length c1_1]] w fun e w' => e = .returned (.bool r) ∧ Below w.heap.size w w' := by
 have hu36 := Tryz.underlying36
 have hu72 := Tryz.underlying72
 have hu94 := Tryz.underlying94
 have HR0_2 := am_ hr0_2
 have HC0_2 := am_ hc0_2
 clear hr0_2 hc0_2
 have HR0_3 := am_ hr0_3
 have HC0_3 := am_ hc0_3
 clear hr0_3 hc0_3
 have HR1_0 := am_ hr1_0
 have HC1_0 := am_ hc1_0
 clear hr1_0 hc1_0
 have HR1_1 := am_ hr1_1
 have HC1_1 := am_ hc1_1
 clear hr1_1 hc1_1
 have HB := am_ (Below.refl w.heap.size w)
 have H := h
 clear h
 unfold spec_l7Command.f at H
 have HC3 := am_ H
 clear H
 go_enter Tryz.func40, Tryz.ntmps40
 go_upto_region 1 with (first | ((with_reducible refine Sh.d 2 ?_); (try (refine gate_guard (by rfl) ?_; dsimp only)); refine Sh.bz w (N := 2) (cs := #[.int .i64 a0_0, .int .i64 a0_1, .slice A0_2 l0_2.length c0_2, .slice A0_3 l0_3.length c0_3]) (t := 36) (h := ?_); clear HB; intro gb139 w4 BK139 GE139 HB) | ((with_reducible refine Sh.d 3 ?_); (try (refine gate_guard (by rfl) ?_; dsimp only)); refine Sh.bx (N := 3) (cs := #[.slice A1_0 l1_0.length c1_0, .slice A1_1 l1_1.length c1_1]) (t := 72) (h := ?_); intro gb140 hg w5 hbox hb; have BK140 := am_ hbox; have GE140 := Sh.ag w hg; replace HB := Sh.hb hb; have NB139_140 := am_ (Sh.nl hg BK139.out); have NB140_139 := am_ (Sh.ng hg BK139.out); replace BK139 := Sh.ab BK139 hb; clear hb hbox hg))
 (try simp only [Act.put, List.setIfInBounds_toArray, List.set_cons_zero, List.set_cons_succ])
 go_cut [19] (fun v19 wc => ∃ (kq : Nat) (x19_2 : Bool), v19 = .bool x19_2 ∧ Aside0 (spec_l7Command.j0 kq x19_2 a0_0 a0_1 l0_2 l0_3 l1_0 l1_1 = some r) ∧ Aside0 (kq ≤ k) ∧ Aside0 (wc.heap[gb139]? = some (.cells #[.int .i64 a0_0, .int .i64 a0_1, (.slice A0_2 l0_2.length c0_2), (.slice A0_3 l0_3.length c0_3)] 36 (0, 0))) ∧ Aside0 (wc.heap[gb140]? = some (.cells #[(.slice A1_0 l1_0.length c1_0), (.slice A1_1 l1_1.length c1_1)] 72 (0, 0))) ∧ Aside0 (Below w.heap.size w wc))
 case first =>
  have H := HC3.out
  clear HC3
  obtain ⟨t141, A6, H⟩ := Sh.ba H
  by_cases c7 : t141 = true
  ·subst c7
   rw [if_pos rfl] at H
   have H' := am_ H
   clear H
   have hnb8 := NB139_140.out
   have hnc8 := NB140_139.out
   have hcz9_0 := Sh.bc BK139.out 0
   have hcz9_1 := Sh.bc BK139.out 1
   have hcz9_2 := Sh.bc BK139.out 2
   have hcz9_3 := Sh.bc BK139.out 3
   have hfz9_0 := blk_frozen BK139.out 0
   have hfz9_1 := blk_frozen BK139.out 1
   have hfz9_2 := blk_frozen BK139.out 2
   have hfz9_3 := blk_frozen BK139.out 3
   have hcz10_0 := Sh.bc BK140.out 0
   have hcz10_1 := Sh.bc BK140.out 1
   have hfz10_0 := blk_frozen BK140.out 0
   have hfz10_1 := blk_frozen BK140.out 1
   go_wp2_with (first | ((with_reducible refine Sh.k 38 ?_); refine Sh.gB (some 10) Tryz.func38 #[.agg #[.int .i64 a0_0, .int .i64 a0_1, .slice A0_2 l0_2.length c0_2, .slice A0_3 l0_3.length c0_3], .slice A1_0 l1_0.length c1_0] (spec_l7Asks.calls k a0_0 a0_1 _ _ l0_2 _ _ l0_3 _ _ l1_0 true _ (Sh.cB HR0_2.out) HC0_2.out (Sh.cB HR0_3.out) HC0_3.out (Sh.cB HR1_0.out) HC1_0.out A6.out) fun w11 hb => ?_; replace BK139 := Sh.ab BK139 hb; replace BK140 := Sh.ab BK140 hb; replace HB := Sh.hb hb; (try clear hb); (try clear hb2); (try clear hk); (try clear hi); obtain ⟨hcz12_0, hcz12_1, hfz12_0, hfz12_1⟩ := Sh.b2 BK140.out; obtain ⟨hcz13_0, hcz13_1, hcz13_2, hcz13_3, hfz13_0, hfz13_1, hfz13_2, hfz13_3⟩ := Sh.b4 BK139.out))
   go_meet
   case rel => exact ⟨_, (decide ((l1_1.length : Int) > a0_1)), (Sh.es), H', ⟨Sh.om⟩, ⟨by refine Sh.pl ?_; exact BK139.out⟩, ⟨by refine Sh.pl ?_; exact BK140.out⟩, ⟨Sh.bw⟩⟩
  ·replace c7 := Bool.eq_false_iff.mpr c7
   subst c7
   rw [Sh.nf] at H
   have H' := am_ H
   clear H
   have hnb14 := NB139_140.out
   have hnc14 := NB140_139.out
   have hcz15_0 := Sh.bc BK139.out 0
   have hcz15_1 := Sh.bc BK139.out 1
   have hcz15_2 := Sh.bc BK139.out 2
   have hcz15_3 := Sh.bc BK139.out 3
   have hfz15_0 := blk_frozen BK139.out 0
   have hfz15_1 := blk_frozen BK139.out 1
   have hfz15_2 := blk_frozen BK139.out 2
   have hfz15_3 := blk_frozen BK139.out 3
   have hcz16_0 := Sh.bc BK140.out 0
   have hcz16_1 := Sh.bc BK140.out 1
   have hfz16_0 := blk_frozen BK140.out 0
   have hfz16_1 := blk_frozen BK140.out 1
   go_wp2_with (first | ((with_reducible refine Sh.k 38 ?_); refine Sh.gB (some 10) Tryz.func38 #[.agg #[.int .i64 a0_0, .int .i64 a0_1, .slice A0_2 l0_2.length c0_2, .slice A0_3 l0_3.length c0_3], .slice A1_0 l1_0.length c1_0] (spec_l7Asks.calls k a0_0 a0_1 _ _ l0_2 _ _ l0_3 _ _ l1_0 false _ (Sh.cB HR0_2.out) HC0_2.out (Sh.cB HR0_3.out) HC0_3.out (Sh.cB HR1_0.out) HC1_0.out A6.out) fun w17 hb => ?_; replace BK139 := Sh.ab BK139 hb; replace BK140 := Sh.ab BK140 hb; replace HB := Sh.hb hb; (try clear hb); (try clear hb2); (try clear hk); (try clear hi)))
   go_meet
   case rel => exact ⟨_, (true), (Sh.es), H', ⟨Sh.om⟩, ⟨by refine Sh.pl ?_; exact BK139.out⟩, ⟨by refine Sh.pl ?_; exact BK140.out⟩, ⟨Sh.bw⟩⟩
 case rest =>
  clear HC3
  try clear hcz10_0
  try clear hcz10_1
  try clear hcz12_0
  try clear hcz12_1
  try clear hcz13_0
  try clear hcz13_1
  try clear hcz13_2
  try clear hcz13_3
  try clear hcz15_0
  try clear hcz15_1
  try clear hcz15_2
  try clear hcz15_3
  try clear hcz16_0
  try clear hcz16_1
  try clear hcz9_0
  try clear hcz9_1
  try clear hcz9_2
  try clear hcz9_3
  try clear hfz10_0
  try clear hfz10_1
  try clear hfz12_0
  try clear hfz12_1
  try clear hfz13_0
  try clear hfz13_1
  try clear hfz13_2
  try clear hfz13_3
  try clear hfz15_0
  try clear hfz15_1
  try clear hfz15_2
  try clear hfz15_3
  try clear hfz16_0
  try clear hfz16_1
  try clear hfz9_0
  try clear hfz9_1
  try clear hfz9_2
  try clear hfz9_3
  obtain ⟨kq, x19_2, rfl, HA, HJ2, BK139, BK140, HB⟩ := hcut
  cases kq with
  | zero => exact absurd HA.out (by simp [spec_l7Command.j0])
  | succ kj2 =>
   have H := HA.out
   clear HA
   simp only [spec_l7Command.j0] at H
   by_cases c18 : x19_2 = true
   ·subst c18
    rw [if_pos rfl] at H
    obtain rfl := Option.some.inj H
    go_wp2
    go_ret
    exact ⟨Sh.eR, Sh.bw⟩
   ·replace c18 := Bool.eq_false_iff.mpr c18
    subst c18
    rw [Sh.nf] at H
    have H' := am_ H
    clear H
    have hnb19 := NB140_139.out
    have hnc19 := NB139_140.out
    have hcz20_0 := Sh.bc BK140.out 0
    have hcz20_1 := Sh.bc BK140.out 1
    have hfz20_0 := blk_frozen BK140.out 0
    have hfz20_1 := blk_frozen BK140.out 1
    go_wp2
    go_loopg [23] kj2 (fun kq v23 w' => ∃ (x23_2 : Int), v23 = .int .i64 x23_2 ∧ Aside0 (spec_l7Command.l0 kq l1_1 (l1_1.length : Int) x23_2 a0_0 a0_1 l0_2 l0_3 l1_0 l1_1 = some r) ∧ Aside0 (kq ≤ kj2) ∧ Aside0 (w'.heap[gb139]? = some (.cells #[.int .i64 a0_0, .int .i64 a0_1, (.slice A0_2 l0_2.length c0_2), (.slice A0_3 l0_3.length c0_3)] 36 (0, 0))) ∧ Aside0 (w'.heap[gb140]? = some (.cells #[(.slice A1_0 l1_0.length c1_0), (.slice A1_1 l1_1.length c1_1)] 72 (0, 0))) ∧ Aside0 (Below w.heap.size w w'))
    case atStart => exact ⟨(0), (Sh.es), H', ⟨Nat.le_refl _⟩, ⟨by refine Sh.pl ?_; exact BK139.out⟩, ⟨by refine Sh.pl ?_; exact BK140.out⟩, ⟨Sh.bw⟩⟩
    case round =>
     clear H'
     try clear hcz10_0
     try clear hcz10_1
     try clear hcz12_0
     try clear hcz12_1
     try clear hcz13_0
     try clear hcz13_1
     try clear hcz13_2
     try clear hcz13_3
     try clear hcz15_0
     try clear hcz15_1
     try clear hcz15_2
     try clear hcz15_3
     try clear hcz16_0
     try clear hcz16_1
     try clear hcz20_0
     try clear hcz20_1
     try clear hcz9_0
     try clear hcz9_1
     try clear hcz9_2
     try clear hcz9_3
     try clear hfz10_0
     try clear hfz10_1
     try clear hfz12_0
     try clear hfz12_1
     try clear hfz13_0
     try clear hfz13_1
     try clear hfz13_2
     try clear hfz13_3
     try clear hfz15_0
     try clear hfz15_1
     try clear hfz15_2
     try clear hfz15_3
     try clear hfz16_0
     try clear hfz16_1
     try clear hfz20_0
     try clear hfz20_1
     try clear hfz9_0
     try clear hfz9_1
     try clear hfz9_2
     try clear hfz9_3
     obtain ⟨x23_2, rfl, HA, HK2, BK139, BK140, HB⟩ := hrel
     cases gk with
     | zero => exact absurd HA.out (by simp [spec_l7Command.l0])
     | succ k2 =>
      have H := HA.out
      clear HA
      simp only [spec_l7Command.l0] at H
      by_cases c21 : x23_2 < (l1_1.length : Int)
      ·rw [if_pos c21] at H
       have c21b0 := decide_eq_true c21
       clear c21
       by_cases c22 : 0 ≤ x23_2
       ·rw [if_pos c22] at H
        have c22b0 := decide_eq_true c22
        clear c22
        by_cases c23 : x23_2 < (l1_1.length : Int)
        ·rw [if_pos c23] at H
         have c23b0 := decide_eq_true c23
         clear c23
         obtain ⟨t144, A24, H⟩ := Sh.ba H
         by_cases c25 : t144 = true
         ·subst c25
          rw [if_pos rfl] at H
          by_cases c26 : x23_2 > 0
          ·rw [if_pos c26] at H
           have c26b0 : decide (0 < x23_2) = true := decide_eq_true c26
           clear c26
           obtain ⟨ji27, hj1⟩ : ∃ j_ : Int, (wrap64 (x23_2 - 1)) = j_ := ⟨_, rfl⟩
           replace H : (if 0 ≤ (ji27) then (if (ji27) < (l1_1.length : Int) then (if ((rd_T94 l1_1 (ji27)).f0) ≥ ((rd_T94 l1_1 x23_2).f0) then (some false) else ((spec_l2Kind.f k2 a0_0 a0_1 ((rd_T94 l1_1 x23_2).f1)).bind fun t146 => (if t146 = 1 then (spec_l7Command.l0 k2 l1_1 (l1_1.length : Int) (wrap64 (x23_2 + 1)) a0_0 a0_1 l0_2 l0_3 l1_0 l1_1) else (some false)))) else (none)) else (none)) = some r := by first | (rw [hj1] at H; exact H) | (simp only [hj1] at H ⊢; exact H)
           (try rw [hj1] at A24)
           have hji27w : (IntKind.i64.wrap (x23_2 - 1)) = ji27 := (i64_w _).trans hj1
           by_cases c28 : 0 ≤ (ji27)
           ·rw [if_pos c28] at H
            have c28b0 := decide_eq_true c28
            clear c28
            by_cases c29 : (ji27) < (l1_1.length : Int)
            ·rw [if_pos c29] at H
             have c29b0 := decide_eq_true c29
             clear c29
             by_cases c30 : ((rd_T94 l1_1 (ji27)).f0) ≥ ((rd_T94 l1_1 x23_2).f0)
             ·rw [if_pos c30] at H
              have c30b0 : decide (((rd_T94 l1_1 x23_2).f0) ≤ ((rd_T94 l1_1 (ji27)).f0)) = true := decide_eq_true c30
              clear c30
              obtain rfl := Option.some.inj H
              have p142 : 0 ≤ (x23_2 : Int) := Sh.od
              have q142 : x23_2 < (l1_1.length : Int) := Sh.od
              obtain ⟨ad142, A142_1, c142_1, e142, hx142_0, hx142_1, hl142_1, hi142_1⟩ := at_T94 HR1_1.out x23_2 p142 q142
              cases e142
              try replace hx142_0 := Sh.cw hx142_0
              try replace hx142_1 := Sh.cw hx142_1
              have HR142_1 := am_ hi142_1
              have HC142_1 := am_ hl142_1
              clear hi142_1 hl142_1
              replace p142 := eq_true p142
              replace q142 := eq_true q142
              try go_wp2_with (first | ((with_reducible refine Sh.d 6 ?_); (try (refine gate_guard (by rfl) ?_; dsimp only)); refine Sh.bx (N := 6) (cs := #[.int .i64 0, .slice none 0 0]) (t := 94) (h := ?_); intro gb143 hg w31 hbox hb; have BK143 := am_ hbox; have GE143 := Sh.ag w hg; replace HB := Sh.hb hb; have NB139_143 := am_ (Sh.nl hg BK139.out); have NB143_139 := am_ (Sh.ng hg BK139.out); replace BK139 := Sh.ab BK139 hb; have NB140_143 := am_ (Sh.nl hg BK140.out); have NB143_140 := am_ (Sh.ng hg BK140.out); replace BK140 := Sh.ab BK140 hb; clear hb hbox hg; have hnb32 := NB143_139.out; have hnc32 := NB139_143.out; have hnb33 := NB143_140.out; have hnc33 := NB140_143.out; obtain ⟨hcz34_0, hcz34_1, hfz34_0, hfz34_1⟩ := Sh.b2 BK143.out))
              have n0_ : Aside0 (((w31.setCell ⟨gb143, 0, none⟩ (.int .i64 ((rd_T94 l1_1 x23_2).f0))).setCell ⟨gb143, 1, none⟩ (.slice A142_1 ((rd_T94 l1_1 x23_2).f1).length c142_1)).heap[gb139]? = some (.cells #[.int .i64 a0_0, .int .i64 a0_1, .slice A0_2 l0_2.length c0_2, .slice A0_3 l0_3.length c0_3] 36 (0, 0))) := ⟨by refine Sh.pl ?_; refine blk_far ?_ NB139_143.out _; refine Sh.pl ?_; refine blk_far ?_ NB139_143.out _; refine Sh.pl ?_; exact BK139.out⟩
              have n1_ : Aside0 (((w31.setCell ⟨gb143, 0, none⟩ (.int .i64 ((rd_T94 l1_1 x23_2).f0))).setCell ⟨gb143, 1, none⟩ (.slice A142_1 ((rd_T94 l1_1 x23_2).f1).length c142_1)).heap[gb140]? = some (.cells #[.slice A1_0 l1_0.length c1_0, .slice (some ad142) l1_1.length c1_1] 72 (0, 0))) := ⟨by refine Sh.pl ?_; refine blk_far ?_ NB140_143.out _; refine Sh.pl ?_; refine blk_far ?_ NB140_143.out _; refine Sh.pl ?_; exact BK140.out⟩
              have n2_ : Aside0 (((w31.setCell ⟨gb143, 0, none⟩ (.int .i64 ((rd_T94 l1_1 x23_2).f0))).setCell ⟨gb143, 1, none⟩ (.slice A142_1 ((rd_T94 l1_1 x23_2).f1).length c142_1)).heap[gb143]? = some (.cells #[.int .i64 ((rd_T94 l1_1 x23_2).f0), .slice A142_1 ((rd_T94 l1_1 x23_2).f1).length c142_1] 94 (0, 0))) := ⟨by refine Sh.pl ?_; refine blk_put (cs := #[.int .i64 ((rd_T94 l1_1 x23_2).f0), .slice none 0 0]) ?_ 1 _ rfl; refine Sh.pl ?_; refine blk_put (cs := #[.int .i64 0, .slice none 0 0]) ?_ 0 _ rfl; refine Sh.pl ?_; exact BK143.out⟩
              have n3_ : Aside0 (Below w.heap.size w ((w31.setCell ⟨gb143, 0, none⟩ (.int .i64 ((rd_T94 l1_1 x23_2).f0))).setCell ⟨gb143, 1, none⟩ (.slice A142_1 ((rd_T94 l1_1 x23_2).f1).length c142_1))) := ⟨Sh.bw⟩
              (try clear BK139)
              (try clear BK140)
              (try clear BK143)
              (try clear HB)
              generalize ((w31.setCell ⟨gb143, 0, none⟩ (.int .i64 ((rd_T94 l1_1 x23_2).f0))).setCell ⟨gb143, 1, none⟩ (.slice A142_1 ((rd_T94 l1_1 x23_2).f1).length c142_1)) = w35 at n0_ n1_ n2_ n3_ ⊢
              have BK139 := n0_
              have BK140 := n1_
              have BK143 := n2_
              have HB := n3_
              clear n0_ n1_ n2_ n3_
              replace BK139 := am_ (blk_drew BK139.out)
              replace BK140 := am_ (blk_drew BK140.out)
              replace BK143 := am_ (blk_drew BK143.out)
              replace HB := am_ (below_drew1 HB.out)
              have p145 : 0 ≤ ((ji27) : Int) := Sh.od
              have q145 : (ji27) < (l1_1.length : Int) := Sh.od
              obtain ⟨ad145, A145_1, c145_1, e145, hx145_0, hx145_1, hl145_1, hi145_1⟩ := at_T94 HR1_1.out (ji27) p145 q145
              have hw145_1 := hx145_1
              have hw145_0 := hx145_0
              obtain rfl : ad142 = ad145 := (by injection e145)
              try replace hx145_0 := Sh.cw hx145_0
              try replace hx145_1 := Sh.cw hx145_1
              have HR145_1 := am_ hi145_1
              have HC145_1 := am_ hl145_1
              clear hi145_1 hl145_1
              replace p145 := eq_true p145
              replace q145 := eq_true q145
              refine start_ (n := 33) (S := fun w' => w'.cell? ⟨gb143, 0, none⟩ = some (.int .i64 ((rd_T94 l1_1 x23_2).f0)) ∧ w'.cell? ⟨gb143, 1, none⟩ = some (.slice A142_1 ((rd_T94 l1_1 x23_2).f1).length c142_1) ∧ w'.cell? ⟨gb139, 0, none⟩ = some (.int .i64 a0_0) ∧ w'.cell? ⟨gb139, 1, none⟩ = some (.int .i64 a0_1) ∧ w'.cell? ⟨gb139, 2, none⟩ = some (.slice A0_2 l0_2.length c0_2) ∧ w'.cell? ⟨gb139, 3, none⟩ = some (.slice A0_3 l0_3.length c0_3) ∧ w'.cell? ⟨gb140, 0, none⟩ = some (.slice A1_0 l1_0.length c1_0) ∧ w'.cell? ⟨gb140, 1, none⟩ = some (.slice (some ad142) l1_1.length c1_1) ∧ w'.cell? (ad142.add (((ji27)).toNat * 2)) = some (.int .i64 ((rd_T94 l1_1 (ji27)).f0)) ∧ w'.cell? ⟨(ad142.add (((ji27)).toNat * 2)).block, (ad142.add (((ji27)).toNat * 2)).off + 1, none⟩ = some (.slice A145_1 ((rd_T94 l1_1 (ji27)).f1).length c145_1)) (ds := []) (Sh.nm 33 0) (by kernel_rfl) rfl rfl Sh.cs (fun hHeld => ?_); refine with_tabW spec_l7Command.tab6 spec_l7Command.bits6 (fun HT_ HW_ => ?_)
              generalize w35.drew = w36 at BK139 BK140 BK143 HB HR145_1 hx145_0 hx145_1 hHeld ⊢
              refine Sh.qA 0 ?_; refine Sh.qA 2 ?_; refine Sh.qT 1 hHeld ?_; refine Sh.qT 3 hHeld ?_; refine Sh.qA 4 ?_
              refine Sh.oC 5 Tryz.func39 #[.int .i64 ((rd_T94 l1_1 x23_2).f0), .int .i64 0, .int .i64 (wrap64 (a0_1 - 1))] fun K hK => ?_
              with_reducible refine (spec_l1In.calls ((rd_T94 l1_1 x23_2).f0) 0 (wrap64 (a0_1 - 1)) true _ A24.out).mono ?_
              rintro e w' ⟨rfl, ⟨nd, rfl⟩⟩
              refine ⟨_, rfl, ?_⟩
              refine Sh.kN hK Sh.cs fun hHeld => ?_
              clear hK K
              refine Sh.qA 6 ?_; refine Sh.qA 7 ?_; refine Sh.qA 8 ?_; refine Sh.qA 9 ?_; refine Sh.qA 10 ?_; refine Sh.qA 11 ?_; refine Sh.qA 13 ?_; refine Sh.qA 14 ?_; refine Sh.qA 18 ?_; refine Sh.qT 12 hHeld ?_; refine Sh.qA 15 ?_; refine Sh.qA 16 ?_; refine Sh.qT 17 hHeld ?_; refine Sh.qT 19 hHeld ?_; refine Sh.qA 20 ?_; refine Sh.qA 21 ?_; refine Sh.qA 22 ?_; refine Sh.qA 23 ?_; refine Sh.qU 24 ?_; refine Sh.qU 25 ?_; refine Sh.qU 26 ?_; refine Sh.qU 27 ?_; refine Sh.qU 28 ?_; refine Sh.qU 29 ?_; refine Sh.qU 30 ?_; refine Sh.qU 31 ?_; refine Sh.qA 32 ?_
              refine done_ (done_of HT_.out (by kernel_rfl)) ?_
              try go_wp2
              go_ret
              exact ⟨by first | rfl | (simp [errW_none, errW_some] <;> rfl) | (simp only [← hj1]; first | rfl | (simp [errW_none, errW_some] <;> rfl)) | (simp [*, errW_none, errW_some] <;> rfl), Sh.bw⟩
             ·rw [if_neg c30] at H
              have c30b0 : decide (((rd_T94 l1_1 x23_2).f0) ≤ ((rd_T94 l1_1 (ji27)).f0)) = false := decide_eq_false c30
              clear c30
              obtain ⟨t146, A37, H⟩ := Sh.ba H
              by_cases c38 : t146 = 1
              ·rw [if_pos c38] at H
               have c38b0 : (t146 == 1) = true := beq_iff_eq.mpr c38
               have c38b1 : (t146 != 1) = false := bne_eq_false_iff_eq.mpr c38
               clear c38
               have H' := am_ H
               clear H
               have p142 : 0 ≤ (x23_2 : Int) := Sh.od
               have q142 : x23_2 < (l1_1.length : Int) := Sh.od
               obtain ⟨ad142, A142_1, c142_1, e142, hx142_0, hx142_1, hl142_1, hi142_1⟩ := at_T94 HR1_1.out x23_2 p142 q142
               cases e142
               try replace hx142_0 := Sh.cw hx142_0
               try replace hx142_1 := Sh.cw hx142_1
               have HR142_1 := am_ hi142_1
               have HC142_1 := am_ hl142_1
               clear hi142_1 hl142_1
               replace p142 := eq_true p142
               replace q142 := eq_true q142
               try go_wp2_with (first | ((with_reducible refine Sh.d 6 ?_); (try (refine gate_guard (by rfl) ?_; dsimp only)); refine Sh.bx (N := 6) (cs := #[.int .i64 0, .slice none 0 0]) (t := 94) (h := ?_); intro gb143 hg w39 hbox hb; have BK143 := am_ hbox; have GE143 := Sh.ag w hg; replace HB := Sh.hb hb; have NB139_143 := am_ (Sh.nl hg BK139.out); have NB143_139 := am_ (Sh.ng hg BK139.out); replace BK139 := Sh.ab BK139 hb; have NB140_143 := am_ (Sh.nl hg BK140.out); have NB143_140 := am_ (Sh.ng hg BK140.out); replace BK140 := Sh.ab BK140 hb; clear hb hbox hg; have hnb40 := NB143_139.out; have hnc40 := NB139_143.out; have hnb41 := NB143_140.out; have hnc41 := NB140_143.out; obtain ⟨hcz42_0, hcz42_1, hfz42_0, hfz42_1⟩ := Sh.b2 BK143.out))
               have n0_ : Aside0 (((w39.setCell ⟨gb143, 0, none⟩ (.int .i64 ((rd_T94 l1_1 x23_2).f0))).setCell ⟨gb143, 1, none⟩ (.slice A142_1 ((rd_T94 l1_1 x23_2).f1).length c142_1)).heap[gb139]? = some (.cells #[.int .i64 a0_0, .int .i64 a0_1, .slice A0_2 l0_2.length c0_2, .slice A0_3 l0_3.length c0_3] 36 (0, 0))) := ⟨by refine Sh.pl ?_; refine blk_far ?_ NB139_143.out _; refine Sh.pl ?_; refine blk_far ?_ NB139_143.out _; refine Sh.pl ?_; exact BK139.out⟩
               have n1_ : Aside0 (((w39.setCell ⟨gb143, 0, none⟩ (.int .i64 ((rd_T94 l1_1 x23_2).f0))).setCell ⟨gb143, 1, none⟩ (.slice A142_1 ((rd_T94 l1_1 x23_2).f1).length c142_1)).heap[gb140]? = some (.cells #[.slice A1_0 l1_0.length c1_0, .slice (some ad142) l1_1.length c1_1] 72 (0, 0))) := ⟨by refine Sh.pl ?_; refine blk_far ?_ NB140_143.out _; refine Sh.pl ?_; refine blk_far ?_ NB140_143.out _; refine Sh.pl ?_; exact BK140.out⟩
               have n2_ : Aside0 (((w39.setCell ⟨gb143, 0, none⟩ (.int .i64 ((rd_T94 l1_1 x23_2).f0))).setCell ⟨gb143, 1, none⟩ (.slice A142_1 ((rd_T94 l1_1 x23_2).f1).length c142_1)).heap[gb143]? = some (.cells #[.int .i64 ((rd_T94 l1_1 x23_2).f0), .slice A142_1 ((rd_T94 l1_1 x23_2).f1).length c142_1] 94 (0, 0))) := ⟨by refine Sh.pl ?_; refine blk_put (cs := #[.int .i64 ((rd_T94 l1_1 x23_2).f0), .slice none 0 0]) ?_ 1 _ rfl; refine Sh.pl ?_; refine blk_put (cs := #[.int .i64 0, .slice none 0 0]) ?_ 0 _ rfl; refine Sh.pl ?_; exact BK143.out⟩
               have n3_ : Aside0 (Below w.heap.size w ((w39.setCell ⟨gb143, 0, none⟩ (.int .i64 ((rd_T94 l1_1 x23_2).f0))).setCell ⟨gb143, 1, none⟩ (.slice A142_1 ((rd_T94 l1_1 x23_2).f1).length c142_1))) := ⟨Sh.bw⟩
               (try clear BK139)
               (try clear BK140)
               (try clear BK143)
               (try clear HB)
               generalize ((w39.setCell ⟨gb143, 0, none⟩ (.int .i64 ((rd_T94 l1_1 x23_2).f0))).setCell ⟨gb143, 1, none⟩ (.slice A142_1 ((rd_T94 l1_1 x23_2).f1).length c142_1)) = w43 at n0_ n1_ n2_ n3_ ⊢
               have BK139 := n0_
               have BK140 := n1_
               have BK143 := n2_
               have HB := n3_
               clear n0_ n1_ n2_ n3_
               replace BK139 := am_ (blk_drew BK139.out)
               replace BK140 := am_ (blk_drew BK140.out)
               replace BK143 := am_ (blk_drew BK143.out)
               replace HB := am_ (below_drew1 HB.out)
               have p145 : 0 ≤ ((ji27) : Int) := Sh.od
               have q145 : (ji27) < (l1_1.length : Int) := Sh.od
               obtain ⟨ad145, A145_1, c145_1, e145, hx145_0, hx145_1, hl145_1, hi145_1⟩ := at_T94 HR1_1.out (ji27) p145 q145
               have hw145_1 := hx145_1
               have hw145_0 := hx145_0
               obtain rfl : ad142 = ad145 := (by injection e145)
               try replace hx145_0 := Sh.cw hx145_0
               try replace hx145_1 := Sh.cw hx145_1
               have HR145_1 := am_ hi145_1
               have HC145_1 := am_ hl145_1
               clear hi145_1 hl145_1
               replace p145 := eq_true p145
               replace q145 := eq_true q145
               refine start_ (n := 33) (S := fun w' => w'.cell? ⟨gb143, 0, none⟩ = some (.int .i64 ((rd_T94 l1_1 x23_2).f0)) ∧ w'.cell? ⟨gb143, 1, none⟩ = some (.slice A142_1 ((rd_T94 l1_1 x23_2).f1).length c142_1) ∧ w'.cell? ⟨gb139, 0, none⟩ = some (.int .i64 a0_0) ∧ w'.cell? ⟨gb139, 1, none⟩ = some (.int .i64 a0_1) ∧ w'.cell? ⟨gb139, 2, none⟩ = some (.slice A0_2 l0_2.length c0_2) ∧ w'.cell? ⟨gb139, 3, none⟩ = some (.slice A0_3 l0_3.length c0_3) ∧ w'.cell? ⟨gb140, 0, none⟩ = some (.slice A1_0 l1_0.length c1_0) ∧ w'.cell? ⟨gb140, 1, none⟩ = some (.slice (some ad142) l1_1.length c1_1) ∧ w'.cell? (ad142.add (((ji27)).toNat * 2)) = some (.int .i64 ((rd_T94 l1_1 (ji27)).f0)) ∧ w'.cell? ⟨(ad142.add (((ji27)).toNat * 2)).block, (ad142.add (((ji27)).toNat * 2)).off + 1, none⟩ = some (.slice A145_1 ((rd_T94 l1_1 (ji27)).f1).length c145_1)) (ds := []) (Sh.nm 33 0) (by kernel_rfl) rfl rfl Sh.cs (fun hHeld => ?_); refine with_tabW spec_l7Command.tab6 spec_l7Command.bits6 (fun HT_ HW_ => ?_)
               generalize w43.drew = w44 at BK139 BK140 BK143 HB HR145_1 hx145_0 hx145_1 hHeld ⊢
               refine Sh.qA 0 ?_; refine Sh.qA 2 ?_; refine Sh.qT 1 hHeld ?_; refine Sh.qT 3 hHeld ?_; refine Sh.qA 4 ?_
               refine Sh.oC 5 Tryz.func39 #[.int .i64 ((rd_T94 l1_1 x23_2).f0), .int .i64 0, .int .i64 (wrap64 (a0_1 - 1))] fun K hK => ?_
               with_reducible refine (spec_l1In.calls ((rd_T94 l1_1 x23_2).f0) 0 (wrap64 (a0_1 - 1)) true _ A24.out).mono ?_
               rintro e w' ⟨rfl, ⟨nd, rfl⟩⟩
               refine ⟨_, rfl, ?_⟩
               refine Sh.kN hK Sh.cs fun hHeld => ?_
               clear hK K
               refine Sh.qA 6 ?_; refine Sh.qA 7 ?_; refine Sh.qA 8 ?_; refine Sh.qA 9 ?_; refine Sh.qA 10 ?_; refine Sh.qA 11 ?_; refine Sh.qA 13 ?_; refine Sh.qA 14 ?_; refine Sh.qA 18 ?_; refine Sh.qT 12 hHeld ?_; refine Sh.qA 15 ?_; refine Sh.qA 16 ?_; refine Sh.qT 17 hHeld ?_; refine Sh.qT 19 hHeld ?_; refine Sh.qA 20 ?_; refine Sh.qA 21 ?_; refine Sh.qA 22 ?_; refine Sh.qA 23 ?_; refine Sh.qA 24 ?_; refine Sh.qA 26 ?_; refine Sh.qA 28 ?_; refine Sh.qT 25 hHeld ?_; refine Sh.qT 27 hHeld ?_; refine Sh.qT 29 hHeld ?_
               refine Sh.oC 30 Tryz.func56 #[.int .i64 a0_0, .int .i64 a0_1, .slice A142_1 ((rd_T94 l1_1 x23_2).f1).length c142_1] fun K hK => ?_
               with_reducible refine (spec_l2Kind.calls k2 a0_0 a0_1 _ _ ((rd_T94 l1_1 x23_2).f1) t146 _ (Sh.cB HR142_1.out) HC142_1.out A37.out).mono ?_
               rintro e w45 ⟨rfl, hb⟩
               refine ⟨_, rfl, ?_⟩
               replace BK139 := Sh.ab BK139 hb
               replace BK140 := Sh.ab BK140 hb
               replace BK143 := Sh.ab BK143 hb
               replace HB := Sh.hb hb
               (try clear hb)
               (try clear hb2)
               (try clear hk)
               (try clear hi)
               refine Sh.kN hK Sh.cs fun hHeld => ?_
               clear hK K
               refine Sh.qA 31 ?_; refine Sh.qA 32 ?_
               refine done_ (done_of HT_.out (by kernel_rfl)) ?_
               try go_wp2
               go_roundg k2
               case measure => have := HJ2.out; have := HK2.out; omega
               case rel => exact ⟨(wrap64 (x23_2 + 1)), (Sh.es), H', ⟨by have := HJ2.out; have := HK2.out; omega⟩, ⟨by refine Sh.pl ?_; exact BK139.out⟩, ⟨by refine Sh.pl ?_; exact BK140.out⟩, ⟨Sh.bw⟩⟩
              ·rw [if_neg c38] at H
               have c38b0 : (t146 == 1) = false := beq_eq_false_iff_ne.mpr c38
               have c38b1 : (t146 != 1) = true := bne_iff_ne.mpr c38
               obtain rfl := Option.some.inj H
               have p142 : 0 ≤ (x23_2 : Int) := Sh.od
               have q142 : x23_2 < (l1_1.length : Int) := Sh.od
               obtain ⟨ad142, A142_1, c142_1, e142, hx142_0, hx142_1, hl142_1, hi142_1⟩ := at_T94 HR1_1.out x23_2 p142 q142
               cases e142
               try replace hx142_0 := Sh.cw hx142_0
               try replace hx142_1 := Sh.cw hx142_1
               have HR142_1 := am_ hi142_1
               have HC142_1 := am_ hl142_1
               clear hi142_1 hl142_1
               replace p142 := eq_true p142
               replace q142 := eq_true q142
               try go_wp2_with (first | ((with_reducible refine Sh.d 6 ?_); (try (refine gate_guard (by rfl) ?_; dsimp only)); refine Sh.bx (N := 6) (cs := #[.int .i64 0, .slice none 0 0]) (t := 94) (h := ?_); intro gb143 hg w46 hbox hb; have BK143 := am_ hbox; have GE143 := Sh.ag w hg; replace HB := Sh.hb hb; have NB139_143 := am_ (Sh.nl hg BK139.out); have NB143_139 := am_ (Sh.ng hg BK139.out); replace BK139 := Sh.ab BK139 hb; have NB140_143 := am_ (Sh.nl hg BK140.out); have NB143_140 := am_ (Sh.ng hg BK140.out); replace BK140 := Sh.ab BK140 hb; clear hb hbox hg; have hnb47 := NB143_139.out; have hnc47 := NB139_143.out; have hnb48 := NB143_140.out; have hnc48 := NB140_143.out; obtain ⟨hcz49_0, hcz49_1, hfz49_0, hfz49_1⟩ := Sh.b2 BK143.out))
               have n0_ : Aside0 (((w46.setCell ⟨gb143, 0, none⟩ (.int .i64 ((rd_T94 l1_1 x23_2).f0))).setCell ⟨gb143, 1, none⟩ (.slice A142_1 ((rd_T94 l1_1 x23_2).f1).length c142_1)).heap[gb139]? = some (.cells #[.int .i64 a0_0, .int .i64 a0_1, .slice A0_2 l0_2.length c0_2, .slice A0_3 l0_3.length c0_3] 36 (0, 0))) := ⟨by refine Sh.pl ?_; refine blk_far ?_ NB139_143.out _; refine Sh.pl ?_; refine blk_far ?_ NB139_143.out _; refine Sh.pl ?_; exact BK139.out⟩
               have n1_ : Aside0 (((w46.setCell ⟨gb143, 0, none⟩ (.int .i64 ((rd_T94 l1_1 x23_2).f0))).setCell ⟨gb143, 1, none⟩ (.slice A142_1 ((rd_T94 l1_1 x23_2).f1).length c142_1)).heap[gb140]? = some (.cells #[.slice A1_0 l1_0.length c1_0, .slice (some ad142) l1_1.length c1_1] 72 (0, 0))) := ⟨by refine Sh.pl ?_; refine blk_far ?_ NB140_143.out _; refine Sh.pl ?_; refine blk_far ?_ NB140_143.out _; refine Sh.pl ?_; exact BK140.out⟩
               have n2_ : Aside0 (((w46.setCell ⟨gb143, 0, none⟩ (.int .i64 ((rd_T94 l1_1 x23_2).f0))).setCell ⟨gb143, 1, none⟩ (.slice A142_1 ((rd_T94 l1_1 x23_2).f1).length c142_1)).heap[gb143]? = some (.cells #[.int .i64 ((rd_T94 l1_1 x23_2).f0), .slice A142_1 ((rd_T94 l1_1 x23_2).f1).length c142_1] 94 (0, 0))) := ⟨by refine Sh.pl ?_; refine blk_put (cs := #[.int .i64 ((rd_T94 l1_1 x23_2).f0), .slice none 0 0]) ?_ 1 _ rfl; refine Sh.pl ?_; refine blk_put (cs := #[.int .i64 0, .slice none 0 0]) ?_ 0 _ rfl; refine Sh.pl ?_; exact BK143.out⟩
               have n3_ : Aside0 (Below w.heap.size w ((w46.setCell ⟨gb143, 0, none⟩ (.int .i64 ((rd_T94 l1_1 x23_2).f0))).setCell ⟨gb143, 1, none⟩ (.slice A142_1 ((rd_T94 l1_1 x23_2).f1).length c142_1))) := ⟨Sh.bw⟩
               (try clear BK139)
               (try clear BK140)
               (try clear BK143)
               (try clear HB)
               generalize ((w46.setCell ⟨gb143, 0, none⟩ (.int .i64 ((rd_T94 l1_1 x23_2).f0))).setCell ⟨gb143, 1, none⟩ (.slice A142_1 ((rd_T94 l1_1 x23_2).f1).length c142_1)) = w50 at n0_ n1_ n2_ n3_ ⊢
               have BK139 := n0_
               have BK140 := n1_
               have BK143 := n2_
               have HB := n3_
               clear n0_ n1_ n2_ n3_
               replace BK139 := am_ (blk_drew BK139.out)
               replace BK140 := am_ (blk_drew BK140.out)
               replace BK143 := am_ (blk_drew BK143.out)
               replace HB := am_ (below_drew1 HB.out)
               have p145 : 0 ≤ ((ji27) : Int) := Sh.od
               have q145 : (ji27) < (l1_1.length : Int) := Sh.od
               obtain ⟨ad145, A145_1, c145_1, e145, hx145_0, hx145_1, hl145_1, hi145_1⟩ := at_T94 HR1_1.out (ji27) p145 q145
               have hw145_1 := hx145_1
               have hw145_0 := hx145_0
               obtain rfl : ad142 = ad145 := (by injection e145)
               try replace hx145_0 := Sh.cw hx145_0
               try replace hx145_1 := Sh.cw hx145_1
               have HR145_1 := am_ hi145_1
               have HC145_1 := am_ hl145_1
               clear hi145_1 hl145_1
               replace p145 := eq_true p145
               replace q145 := eq_true q145
               refine start_ (n := 33) (S := fun w' => w'.cell? ⟨gb143, 0, none⟩ = some (.int .i64 ((rd_T94 l1_1 x23_2).f0)) ∧ w'.cell? ⟨gb143, 1, none⟩ = some (.slice A142_1 ((rd_T94 l1_1 x23_2).f1).length c142_1) ∧ w'.cell? ⟨gb139, 0, none⟩ = some (.int .i64 a0_0) ∧ w'.cell? ⟨gb139, 1, none⟩ = some (.int .i64 a0_1) ∧ w'.cell? ⟨gb139, 2, none⟩ = some (.slice A0_2 l0_2.length c0_2) ∧ w'.cell? ⟨gb139, 3, none⟩ = some (.slice A0_3 l0_3.length c0_3) ∧ w'.cell? ⟨gb140, 0, none⟩ = some (.slice A1_0 l1_0.length c1_0) ∧ w'.cell? ⟨gb140, 1, none⟩ = some (.slice (some ad142) l1_1.length c1_1) ∧ w'.cell? (ad142.add (((ji27)).toNat * 2)) = some (.int .i64 ((rd_T94 l1_1 (ji27)).f0)) ∧ w'.cell? ⟨(ad142.add (((ji27)).toNat * 2)).block, (ad142.add (((ji27)).toNat * 2)).off + 1, none⟩ = some (.slice A145_1 ((rd_T94 l1_1 (ji27)).f1).length c145_1)) (ds := []) (Sh.nm 33 0) (by kernel_rfl) rfl rfl Sh.cs (fun hHeld => ?_); refine with_tabW spec_l7Command.tab6 spec_l7Command.bits6 (fun HT_ HW_ => ?_)
               generalize w50.drew = w51 at BK139 BK140 BK143 HB HR145_1 hx145_0 hx145_1 hHeld ⊢
               refine Sh.qA 0 ?_; refine Sh.qA 2 ?_; refine Sh.qT 1 hHeld ?_; refine Sh.qT 3 hHeld ?_; refine Sh.qA 4 ?_
               refine Sh.oC 5 Tryz.func39 #[.int .i64 ((rd_T94 l1_1 x23_2).f0), .int .i64 0, .int .i64 (wrap64 (a0_1 - 1))] fun K hK => ?_
               with_reducible refine (spec_l1In.calls ((rd_T94 l1_1 x23_2).f0) 0 (wrap64 (a0_1 - 1)) true _ A24.out).mono ?_
               rintro e w' ⟨rfl, ⟨nd, rfl⟩⟩
               refine ⟨_, rfl, ?_⟩
               refine Sh.kN hK Sh.cs fun hHeld => ?_
               clear hK K
               refine Sh.qA 6 ?_; refine Sh.qA 7 ?_; refine Sh.qA 8 ?_; refine Sh.qA 9 ?_; refine Sh.qA 10 ?_; refine Sh.qA 11 ?_; refine Sh.qA 13 ?_; refine Sh.qA 14 ?_; refine Sh.qA 18 ?_; refine Sh.qT 12 hHeld ?_; refine Sh.qA 15 ?_; refine Sh.qA 16 ?_; refine Sh.qT 17 hHeld ?_; refine Sh.qT 19 hHeld ?_; refine Sh.qA 20 ?_; refine Sh.qA 21 ?_; refine Sh.qA 22 ?_; refine Sh.qA 23 ?_; refine Sh.qA 24 ?_; refine Sh.qA 26 ?_; refine Sh.qA 28 ?_; refine Sh.qT 25 hHeld ?_; refine Sh.qT 27 hHeld ?_; refine Sh.qT 29 hHeld ?_
               refine Sh.oC 30 Tryz.func56 #[.int .i64 a0_0, .int .i64 a0_1, .slice A142_1 ((rd_T94 l1_1 x23_2).f1).length c142_1] fun K hK => ?_
               with_reducible refine (spec_l2Kind.calls k2 a0_0 a0_1 _ _ ((rd_T94 l1_1 x23_2).f1) t146 _ (Sh.cB HR142_1.out) HC142_1.out A37.out).mono ?_
               rintro e w52 ⟨rfl, hb⟩
               refine ⟨_, rfl, ?_⟩
               replace BK139 := Sh.ab BK139 hb
               replace BK140 := Sh.ab BK140 hb
               replace BK143 := Sh.ab BK143 hb
               replace HB := Sh.hb hb
               (try clear hb)
               (try clear hb2)
               (try clear hk)
               (try clear hi)
               refine Sh.kN hK Sh.cs fun hHeld => ?_
               clear hK K
               refine Sh.qA 31 ?_; refine Sh.qA 32 ?_
               refine done_ (done_of HT_.out (by kernel_rfl)) ?_
               try go_wp2
               go_ret
               exact ⟨by first | rfl | (simp [errW_none, errW_some] <;> rfl) | (simp only [← hj1]; first | rfl | (simp [errW_none, errW_some] <;> rfl)) | (simp [*, errW_none, errW_some] <;> rfl), Sh.bw⟩
            ·rw [if_neg c29] at H
             exact absurd H (by simp)
           ·rw [if_neg c28] at H
            exact absurd H (by simp)
          ·rw [if_neg c26] at H
           have c26b0 : decide (0 < x23_2) = false := decide_eq_false c26
           clear c26
           obtain ⟨t147, A53, H⟩ := Sh.ba H
           by_cases c54 : t147 = 1
           ·rw [if_pos c54] at H
            have c54b0 : (t147 == 1) = true := beq_iff_eq.mpr c54
            have c54b1 : (t147 != 1) = false := bne_eq_false_iff_eq.mpr c54
            clear c54
            have H' := am_ H
            clear H
            have p142 : 0 ≤ (x23_2 : Int) := Sh.od
            have q142 : x23_2 < (l1_1.length : Int) := Sh.od
            obtain ⟨ad142, A142_1, c142_1, e142, hx142_0, hx142_1, hl142_1, hi142_1⟩ := at_T94 HR1_1.out x23_2 p142 q142
            cases e142
            try replace hx142_0 := Sh.cw hx142_0
            try replace hx142_1 := Sh.cw hx142_1
            have HR142_1 := am_ hi142_1
            have HC142_1 := am_ hl142_1
            clear hi142_1 hl142_1
            replace p142 := eq_true p142
            replace q142 := eq_true q142
            try go_wp2_with (first | ((with_reducible refine Sh.d 6 ?_); (try (refine gate_guard (by rfl) ?_; dsimp only)); refine Sh.bx (N := 6) (cs := #[.int .i64 0, .slice none 0 0]) (t := 94) (h := ?_); intro gb143 hg w55 hbox hb; have BK143 := am_ hbox; have GE143 := Sh.ag w hg; replace HB := Sh.hb hb; have NB139_143 := am_ (Sh.nl hg BK139.out); have NB143_139 := am_ (Sh.ng hg BK139.out); replace BK139 := Sh.ab BK139 hb; have NB140_143 := am_ (Sh.nl hg BK140.out); have NB143_140 := am_ (Sh.ng hg BK140.out); replace BK140 := Sh.ab BK140 hb; clear hb hbox hg; have hnb56 := NB143_139.out; have hnc56 := NB139_143.out; have hnb57 := NB143_140.out; have hnc57 := NB140_143.out; obtain ⟨hcz58_0, hcz58_1, hfz58_0, hfz58_1⟩ := Sh.b2 BK143.out))
            have n0_ : Aside0 (((w55.setCell ⟨gb143, 0, none⟩ (.int .i64 ((rd_T94 l1_1 x23_2).f0))).setCell ⟨gb143, 1, none⟩ (.slice A142_1 ((rd_T94 l1_1 x23_2).f1).length c142_1)).heap[gb139]? = some (.cells #[.int .i64 a0_0, .int .i64 a0_1, .slice A0_2 l0_2.length c0_2, .slice A0_3 l0_3.length c0_3] 36 (0, 0))) := ⟨by refine Sh.pl ?_; refine blk_far ?_ NB139_143.out _; refine Sh.pl ?_; refine blk_far ?_ NB139_143.out _; refine Sh.pl ?_; exact BK139.out⟩
            have n1_ : Aside0 (((w55.setCell ⟨gb143, 0, none⟩ (.int .i64 ((rd_T94 l1_1 x23_2).f0))).setCell ⟨gb143, 1, none⟩ (.slice A142_1 ((rd_T94 l1_1 x23_2).f1).length c142_1)).heap[gb140]? = some (.cells #[.slice A1_0 l1_0.length c1_0, .slice (some ad142) l1_1.length c1_1] 72 (0, 0))) := ⟨by refine Sh.pl ?_; refine blk_far ?_ NB140_143.out _; refine Sh.pl ?_; refine blk_far ?_ NB140_143.out _; refine Sh.pl ?_; exact BK140.out⟩
            have n2_ : Aside0 (((w55.setCell ⟨gb143, 0, none⟩ (.int .i64 ((rd_T94 l1_1 x23_2).f0))).setCell ⟨gb143, 1, none⟩ (.slice A142_1 ((rd_T94 l1_1 x23_2).f1).length c142_1)).heap[gb143]? = some (.cells #[.int .i64 ((rd_T94 l1_1 x23_2).f0), .slice A142_1 ((rd_T94 l1_1 x23_2).f1).length c142_1] 94 (0, 0))) := ⟨by refine Sh.pl ?_; refine blk_put (cs := #[.int .i64 ((rd_T94 l1_1 x23_2).f0), .slice none 0 0]) ?_ 1 _ rfl; refine Sh.pl ?_; refine blk_put (cs := #[.int .i64 0, .slice none 0 0]) ?_ 0 _ rfl; refine Sh.pl ?_; exact BK143.out⟩
            have n3_ : Aside0 (Below w.heap.size w ((w55.setCell ⟨gb143, 0, none⟩ (.int .i64 ((rd_T94 l1_1 x23_2).f0))).setCell ⟨gb143, 1, none⟩ (.slice A142_1 ((rd_T94 l1_1 x23_2).f1).length c142_1))) := ⟨Sh.bw⟩
            (try clear BK139)
            (try clear BK140)
            (try clear BK143)
            (try clear HB)
            generalize ((w55.setCell ⟨gb143, 0, none⟩ (.int .i64 ((rd_T94 l1_1 x23_2).f0))).setCell ⟨gb143, 1, none⟩ (.slice A142_1 ((rd_T94 l1_1 x23_2).f1).length c142_1)) = w59 at n0_ n1_ n2_ n3_ ⊢
            have BK139 := n0_
            have BK140 := n1_
            have BK143 := n2_
            have HB := n3_
            clear n0_ n1_ n2_ n3_
            replace BK139 := am_ (blk_drew BK139.out)
            replace BK140 := am_ (blk_drew BK140.out)
            replace BK143 := am_ (blk_drew BK143.out)
            replace HB := am_ (below_drew1 HB.out)
            refine start_ (n := 33) (S := fun w' => w'.cell? ⟨gb143, 0, none⟩ = some (.int .i64 ((rd_T94 l1_1 x23_2).f0)) ∧ w'.cell? ⟨gb143, 1, none⟩ = some (.slice A142_1 ((rd_T94 l1_1 x23_2).f1).length c142_1) ∧ w'.cell? ⟨gb139, 0, none⟩ = some (.int .i64 a0_0) ∧ w'.cell? ⟨gb139, 1, none⟩ = some (.int .i64 a0_1) ∧ w'.cell? ⟨gb139, 2, none⟩ = some (.slice A0_2 l0_2.length c0_2) ∧ w'.cell? ⟨gb139, 3, none⟩ = some (.slice A0_3 l0_3.length c0_3)) (ds := []) (Sh.nm 33 0) (by kernel_rfl) rfl rfl Sh.cs (fun hHeld => ?_); refine with_tabW spec_l7Command.tab6 spec_l7Command.bits6 (fun HT_ HW_ => ?_)
            generalize w59.drew = w60 at BK139 BK140 BK143 HB hHeld ⊢
            refine Sh.qA 0 ?_; refine Sh.qA 2 ?_; refine Sh.qT 1 hHeld ?_; refine Sh.qT 3 hHeld ?_; refine Sh.qA 4 ?_
            refine Sh.oC 5 Tryz.func39 #[.int .i64 ((rd_T94 l1_1 x23_2).f0), .int .i64 0, .int .i64 (wrap64 (a0_1 - 1))] fun K hK => ?_
            with_reducible refine (spec_l1In.calls ((rd_T94 l1_1 x23_2).f0) 0 (wrap64 (a0_1 - 1)) true _ A24.out).mono ?_
            rintro e w' ⟨rfl, ⟨nd, rfl⟩⟩
            refine ⟨_, rfl, ?_⟩
            refine Sh.kN hK Sh.cs fun hHeld => ?_
            clear hK K
            refine Sh.qA 6 ?_; refine Sh.qA 7 ?_; refine Sh.qA 8 ?_; refine Sh.qA 9 ?_; refine Sh.qA 10 ?_; refine Sh.qU 11 ?_; refine Sh.qU 12 ?_; refine Sh.qU 13 ?_; refine Sh.qU 14 ?_; refine Sh.qU 15 ?_; refine Sh.qU 16 ?_; refine Sh.qU 17 ?_; refine Sh.qU 18 ?_; refine Sh.qU 19 ?_; refine Sh.qU 20 ?_; refine Sh.qA 21 ?_; refine Sh.qA 22 ?_; refine Sh.qA 23 ?_; refine Sh.qA 24 ?_; refine Sh.qA 26 ?_; refine Sh.qA 28 ?_; refine Sh.qT 25 hHeld ?_; refine Sh.qT 27 hHeld ?_; refine Sh.qT 29 hHeld ?_
            refine Sh.oC 30 Tryz.func56 #[.int .i64 a0_0, .int .i64 a0_1, .slice A142_1 ((rd_T94 l1_1 x23_2).f1).length c142_1] fun K hK => ?_
            with_reducible refine (spec_l2Kind.calls k2 a0_0 a0_1 _ _ ((rd_T94 l1_1 x23_2).f1) t147 _ (Sh.cB HR142_1.out) HC142_1.out A53.out).mono ?_
            rintro e w61 ⟨rfl, hb⟩
            refine ⟨_, rfl, ?_⟩
            replace BK139 := Sh.ab BK139 hb
            replace BK140 := Sh.ab BK140 hb
            replace BK143 := Sh.ab BK143 hb
            replace HB := Sh.hb hb
            (try clear hb)
            (try clear hb2)
            (try clear hk)
            (try clear hi)
            refine Sh.kN hK Sh.cs fun hHeld => ?_
            clear hK K
            refine Sh.qA 31 ?_; refine Sh.qA 32 ?_
            refine done_ (done_of HT_.out (by kernel_rfl)) ?_
            try go_wp2
            go_roundg k2
            case measure => have := HJ2.out; have := HK2.out; omega
            case rel => exact ⟨(wrap64 (x23_2 + 1)), (Sh.es), H', ⟨by have := HJ2.out; have := HK2.out; omega⟩, ⟨by refine Sh.pl ?_; exact BK139.out⟩, ⟨by refine Sh.pl ?_; exact BK140.out⟩, ⟨Sh.bw⟩⟩
           ·rw [if_neg c54] at H
            have c54b0 : (t147 == 1) = false := beq_eq_false_iff_ne.mpr c54
            have c54b1 : (t147 != 1) = true := bne_iff_ne.mpr c54
            obtain rfl := Option.some.inj H
            have p142 : 0 ≤ (x23_2 : Int) := Sh.od
            have q142 : x23_2 < (l1_1.length : Int) := Sh.od
            obtain ⟨ad142, A142_1, c142_1, e142, hx142_0, hx142_1, hl142_1, hi142_1⟩ := at_T94 HR1_1.out x23_2 p142 q142
            cases e142
            try replace hx142_0 := Sh.cw hx142_0
            try replace hx142_1 := Sh.cw hx142_1
            have HR142_1 := am_ hi142_1
            have HC142_1 := am_ hl142_1
            clear hi142_1 hl142_1
            replace p142 := eq_true p142
            replace q142 := eq_true q142
            try go_wp2_with (first | ((with_reducible refine Sh.d 6 ?_); (try (refine gate_guard (by rfl) ?_; dsimp only)); refine Sh.bx (N := 6) (cs := #[.int .i64 0, .slice none 0 0]) (t := 94) (h := ?_); intro gb143 hg w62 hbox hb; have BK143 := am_ hbox; have GE143 := Sh.ag w hg; replace HB := Sh.hb hb; have NB139_143 := am_ (Sh.nl hg BK139.out); have NB143_139 := am_ (Sh.ng hg BK139.out); replace BK139 := Sh.ab BK139 hb; have NB140_143 := am_ (Sh.nl hg BK140.out); have NB143_140 := am_ (Sh.ng hg BK140.out); replace BK140 := Sh.ab BK140 hb; clear hb hbox hg; have hnb63 := NB143_139.out; have hnc63 := NB139_143.out; have hnb64 := NB143_140.out; have hnc64 := NB140_143.out; obtain ⟨hcz65_0, hcz65_1, hfz65_0, hfz65_1⟩ := Sh.b2 BK143.out))
            have n0_ : Aside0 (((w62.setCell ⟨gb143, 0, none⟩ (.int .i64 ((rd_T94 l1_1 x23_2).f0))).setCell ⟨gb143, 1, none⟩ (.slice A142_1 ((rd_T94 l1_1 x23_2).f1).length c142_1)).heap[gb139]? = some (.cells #[.int .i64 a0_0, .int .i64 a0_1, .slice A0_2 l0_2.length c0_2, .slice A0_3 l0_3.length c0_3] 36 (0, 0))) := ⟨by refine Sh.pl ?_; refine blk_far ?_ NB139_143.out _; refine Sh.pl ?_; refine blk_far ?_ NB139_143.out _; refine Sh.pl ?_; exact BK139.out⟩
            have n1_ : Aside0 (((w62.setCell ⟨gb143, 0, none⟩ (.int .i64 ((rd_T94 l1_1 x23_2).f0))).setCell ⟨gb143, 1, none⟩ (.slice A142_1 ((rd_T94 l1_1 x23_2).f1).length c142_1)).heap[gb140]? = some (.cells #[.slice A1_0 l1_0.length c1_0, .slice (some ad142) l1_1.length c1_1] 72 (0, 0))) := ⟨by refine Sh.pl ?_; refine blk_far ?_ NB140_143.out _; refine Sh.pl ?_; refine blk_far ?_ NB140_143.out _; refine Sh.pl ?_; exact BK140.out⟩
            have n2_ : Aside0 (((w62.setCell ⟨gb143, 0, none⟩ (.int .i64 ((rd_T94 l1_1 x23_2).f0))).setCell ⟨gb143, 1, none⟩ (.slice A142_1 ((rd_T94 l1_1 x23_2).f1).length c142_1)).heap[gb143]? = some (.cells #[.int .i64 ((rd_T94 l1_1 x23_2).f0), .slice A142_1 ((rd_T94 l1_1 x23_2).f1).length c142_1] 94 (0, 0))) := ⟨by refine Sh.pl ?_; refine blk_put (cs := #[.int .i64 ((rd_T94 l1_1 x23_2).f0), .slice none 0 0]) ?_ 1 _ rfl; refine Sh.pl ?_; refine blk_put (cs := #[.int .i64 0, .slice none 0 0]) ?_ 0 _ rfl; refine Sh.pl ?_; exact BK143.out⟩
            have n3_ : Aside0 (Below w.heap.size w ((w62.setCell ⟨gb143, 0, none⟩ (.int .i64 ((rd_T94 l1_1 x23_2).f0))).setCell ⟨gb143, 1, none⟩ (.slice A142_1 ((rd_T94 l1_1 x23_2).f1).length c142_1))) := ⟨Sh.bw⟩
            (try clear BK139)
            (try clear BK140)
            (try clear BK143)
            (try clear HB)
            generalize ((w62.setCell ⟨gb143, 0, none⟩ (.int .i64 ((rd_T94 l1_1 x23_2).f0))).setCell ⟨gb143, 1, none⟩ (.slice A142_1 ((rd_T94 l1_1 x23_2).f1).length c142_1)) = w66 at n0_ n1_ n2_ n3_ ⊢
            have BK139 := n0_
            have BK140 := n1_
            have BK143 := n2_
            have HB := n3_
            clear n0_ n1_ n2_ n3_
            replace BK139 := am_ (blk_drew BK139.out)
            replace BK140 := am_ (blk_drew BK140.out)
            replace BK143 := am_ (blk_drew BK143.out)
            replace HB := am_ (below_drew1 HB.out)
            refine start_ (n := 33) (S := fun w' => w'.cell? ⟨gb143, 0, none⟩ = some (.int .i64 ((rd_T94 l1_1 x23_2).f0)) ∧ w'.cell? ⟨gb143, 1, none⟩ = some (.slice A142_1 ((rd_T94 l1_1 x23_2).f1).length c142_1) ∧ w'.cell? ⟨gb139, 0, none⟩ = some (.int .i64 a0_0) ∧ w'.cell? ⟨gb139, 1, none⟩ = some (.int .i64 a0_1) ∧ w'.cell? ⟨gb139, 2, none⟩ = some (.slice A0_2 l0_2.length c0_2) ∧ w'.cell? ⟨gb139, 3, none⟩ = some (.slice A0_3 l0_3.length c0_3)) (ds := []) (Sh.nm 33 0) (by kernel_rfl) rfl rfl Sh.cs (fun hHeld => ?_); refine with_tabW spec_l7Command.tab6 spec_l7Command.bits6 (fun HT_ HW_ => ?_)
            generalize w66.drew = w67 at BK139 BK140 BK143 HB hHeld ⊢
            refine Sh.qA 0 ?_; refine Sh.qA 2 ?_; refine Sh.qT 1 hHeld ?_; refine Sh.qT 3 hHeld ?_; refine Sh.qA 4 ?_
            refine Sh.oC 5 Tryz.func39 #[.int .i64 ((rd_T94 l1_1 x23_2).f0), .int .i64 0, .int .i64 (wrap64 (a0_1 - 1))] fun K hK => ?_
            with_reducible refine (spec_l1In.calls ((rd_T94 l1_1 x23_2).f0) 0 (wrap64 (a0_1 - 1)) true _ A24.out).mono ?_
            rintro e w' ⟨rfl, ⟨nd, rfl⟩⟩
            refine ⟨_, rfl, ?_⟩
            refine Sh.kN hK Sh.cs fun hHeld => ?_
            clear hK K
            refine Sh.qA 6 ?_; refine Sh.qA 7 ?_; refine Sh.qA 8 ?_; refine Sh.qA 9 ?_; refine Sh.qA 10 ?_; refine Sh.qU 11 ?_; refine Sh.qU 12 ?_; refine Sh.qU 13 ?_; refine Sh.qU 14 ?_; refine Sh.qU 15 ?_; refine Sh.qU 16 ?_; refine Sh.qU 17 ?_; refine Sh.qU 18 ?_; refine Sh.qU 19 ?_; refine Sh.qU 20 ?_; refine Sh.qA 21 ?_; refine Sh.qA 22 ?_; refine Sh.qA 23 ?_; refine Sh.qA 24 ?_; refine Sh.qA 26 ?_; refine Sh.qA 28 ?_; refine Sh.qT 25 hHeld ?_; refine Sh.qT 27 hHeld ?_; refine Sh.qT 29 hHeld ?_
            refine Sh.oC 30 Tryz.func56 #[.int .i64 a0_0, .int .i64 a0_1, .slice A142_1 ((rd_T94 l1_1 x23_2).f1).length c142_1] fun K hK => ?_
            with_reducible refine (spec_l2Kind.calls k2 a0_0 a0_1 _ _ ((rd_T94 l1_1 x23_2).f1) t147 _ (Sh.cB HR142_1.out) HC142_1.out A53.out).mono ?_
            rintro e w68 ⟨rfl, hb⟩
            refine ⟨_, rfl, ?_⟩
            replace BK139 := Sh.ab BK139 hb
            replace BK140 := Sh.ab BK140 hb
            replace BK143 := Sh.ab BK143 hb
            replace HB := Sh.hb hb
            (try clear hb)
            (try clear hb2)
            (try clear hk)
            (try clear hi)
            refine Sh.kN hK Sh.cs fun hHeld => ?_
            clear hK K
            refine Sh.qA 31 ?_; refine Sh.qA 32 ?_
            refine done_ (done_of HT_.out (by kernel_rfl)) ?_
            try go_wp2
            go_ret
            exact ⟨Sh.eR, Sh.bw⟩
         ·replace c25 := Bool.eq_false_iff.mpr c25
          subst c25
          rw [Sh.nf] at H
          obtain rfl := Option.some.inj H
          have p142 : 0 ≤ (x23_2 : Int) := Sh.od
          have q142 : x23_2 < (l1_1.length : Int) := Sh.od
          obtain ⟨ad142, A142_1, c142_1, e142, hx142_0, hx142_1, hl142_1, hi142_1⟩ := at_T94 HR1_1.out x23_2 p142 q142
          cases e142
          try replace hx142_0 := Sh.cw hx142_0
          try replace hx142_1 := Sh.cw hx142_1
          have HR142_1 := am_ hi142_1
          have HC142_1 := am_ hl142_1
          clear hi142_1 hl142_1
          replace p142 := eq_true p142
          replace q142 := eq_true q142
          try go_wp2_with (first | ((with_reducible refine Sh.d 6 ?_); (try (refine gate_guard (by rfl) ?_; dsimp only)); refine Sh.bx (N := 6) (cs := #[.int .i64 0, .slice none 0 0]) (t := 94) (h := ?_); intro gb143 hg w69 hbox hb; have BK143 := am_ hbox; have GE143 := Sh.ag w hg; replace HB := Sh.hb hb; have NB139_143 := am_ (Sh.nl hg BK139.out); have NB143_139 := am_ (Sh.ng hg BK139.out); replace BK139 := Sh.ab BK139 hb; have NB140_143 := am_ (Sh.nl hg BK140.out); have NB143_140 := am_ (Sh.ng hg BK140.out); replace BK140 := Sh.ab BK140 hb; clear hb hbox hg; have hnb70 := NB143_139.out; have hnc70 := NB139_143.out; have hnb71 := NB143_140.out; have hnc71 := NB140_143.out; obtain ⟨hcz72_0, hcz72_1, hfz72_0, hfz72_1⟩ := Sh.b2 BK143.out))
          have n0_ : Aside0 (((w69.setCell ⟨gb143, 0, none⟩ (.int .i64 ((rd_T94 l1_1 x23_2).f0))).setCell ⟨gb143, 1, none⟩ (.slice A142_1 ((rd_T94 l1_1 x23_2).f1).length c142_1)).heap[gb139]? = some (.cells #[.int .i64 a0_0, .int .i64 a0_1, .slice A0_2 l0_2.length c0_2, .slice A0_3 l0_3.length c0_3] 36 (0, 0))) := ⟨by refine Sh.pl ?_; refine blk_far ?_ NB139_143.out _; refine Sh.pl ?_; refine blk_far ?_ NB139_143.out _; refine Sh.pl ?_; exact BK139.out⟩
          have n1_ : Aside0 (((w69.setCell ⟨gb143, 0, none⟩ (.int .i64 ((rd_T94 l1_1 x23_2).f0))).setCell ⟨gb143, 1, none⟩ (.slice A142_1 ((rd_T94 l1_1 x23_2).f1).length c142_1)).heap[gb140]? = some (.cells #[.slice A1_0 l1_0.length c1_0, .slice (some ad142) l1_1.length c1_1] 72 (0, 0))) := ⟨by refine Sh.pl ?_; refine blk_far ?_ NB140_143.out _; refine Sh.pl ?_; refine blk_far ?_ NB140_143.out _; refine Sh.pl ?_; exact BK140.out⟩
          have n2_ : Aside0 (((w69.setCell ⟨gb143, 0, none⟩ (.int .i64 ((rd_T94 l1_1 x23_2).f0))).setCell ⟨gb143, 1, none⟩ (.slice A142_1 ((rd_T94 l1_1 x23_2).f1).length c142_1)).heap[gb143]? = some (.cells #[.int .i64 ((rd_T94 l1_1 x23_2).f0), .slice A142_1 ((rd_T94 l1_1 x23_2).f1).length c142_1] 94 (0, 0))) := ⟨by refine Sh.pl ?_; refine blk_put (cs := #[.int .i64 ((rd_T94 l1_1 x23_2).f0), .slice none 0 0]) ?_ 1 _ rfl; refine Sh.pl ?_; refine blk_put (cs := #[.int .i64 0, .slice none 0 0]) ?_ 0 _ rfl; refine Sh.pl ?_; exact BK143.out⟩
          have n3_ : Aside0 (Below w.heap.size w ((w69.setCell ⟨gb143, 0, none⟩ (.int .i64 ((rd_T94 l1_1 x23_2).f0))).setCell ⟨gb143, 1, none⟩ (.slice A142_1 ((rd_T94 l1_1 x23_2).f1).length c142_1))) := ⟨Sh.bw⟩
          (try clear BK139)
          (try clear BK140)
          (try clear BK143)
          (try clear HB)
          generalize ((w69.setCell ⟨gb143, 0, none⟩ (.int .i64 ((rd_T94 l1_1 x23_2).f0))).setCell ⟨gb143, 1, none⟩ (.slice A142_1 ((rd_T94 l1_1 x23_2).f1).length c142_1)) = w73 at n0_ n1_ n2_ n3_ ⊢
          have BK139 := n0_
          have BK140 := n1_
          have BK143 := n2_
          have HB := n3_
          clear n0_ n1_ n2_ n3_
          replace BK139 := am_ (blk_drew BK139.out)
          replace BK140 := am_ (blk_drew BK140.out)
          replace BK143 := am_ (blk_drew BK143.out)
          replace HB := am_ (below_drew1 HB.out)
          refine start_ (n := 33) (S := fun w' => w'.cell? ⟨gb143, 0, none⟩ = some (.int .i64 ((rd_T94 l1_1 x23_2).f0)) ∧ w'.cell? ⟨gb143, 1, none⟩ = some (.slice A142_1 ((rd_T94 l1_1 x23_2).f1).length c142_1) ∧ w'.cell? ⟨gb139, 0, none⟩ = some (.int .i64 a0_0) ∧ w'.cell? ⟨gb139, 1, none⟩ = some (.int .i64 a0_1) ∧ w'.cell? ⟨gb139, 2, none⟩ = some (.slice A0_2 l0_2.length c0_2) ∧ w'.cell? ⟨gb139, 3, none⟩ = some (.slice A0_3 l0_3.length c0_3)) (ds := []) (Sh.nm 33 0) (by kernel_rfl) rfl rfl Sh.cs (fun hHeld => ?_); refine with_tabW spec_l7Command.tab6 spec_l7Command.bits6 (fun HT_ HW_ => ?_)
          generalize w73.drew = w74 at BK139 BK140 BK143 HB hHeld ⊢
          refine Sh.qA 0 ?_; refine Sh.qA 2 ?_; refine Sh.qT 1 hHeld ?_; refine Sh.qT 3 hHeld ?_; refine Sh.qA 4 ?_
          refine Sh.oC 5 Tryz.func39 #[.int .i64 ((rd_T94 l1_1 x23_2).f0), .int .i64 0, .int .i64 (wrap64 (a0_1 - 1))] fun K hK => ?_
          with_reducible refine (spec_l1In.calls ((rd_T94 l1_1 x23_2).f0) 0 (wrap64 (a0_1 - 1)) false _ A24.out).mono ?_
          rintro e w' ⟨rfl, ⟨nd, rfl⟩⟩
          refine ⟨_, rfl, ?_⟩
          refine Sh.kN hK Sh.cs fun hHeld => ?_
          clear hK K
          refine Sh.qA 6 ?_; refine Sh.qA 7 ?_; refine Sh.qU 8 ?_; refine Sh.qU 9 ?_; refine Sh.qU 10 ?_; refine Sh.qU 11 ?_; refine Sh.qU 12 ?_; refine Sh.qU 13 ?_; refine Sh.qU 14 ?_; refine Sh.qU 15 ?_; refine Sh.qU 16 ?_; refine Sh.qU 17 ?_; refine Sh.qU 18 ?_; refine Sh.qU 19 ?_; refine Sh.qU 20 ?_; refine Sh.qU 21 ?_; refine Sh.qA 22 ?_; refine Sh.qA 23 ?_; refine Sh.qU 24 ?_; refine Sh.qU 25 ?_; refine Sh.qU 26 ?_; refine Sh.qU 27 ?_; refine Sh.qU 28 ?_; refine Sh.qU 29 ?_; refine Sh.qU 30 ?_; refine Sh.qU 31 ?_; refine Sh.qA 32 ?_
          refine done_ (done_of HT_.out (by kernel_rfl)) ?_
          try go_wp2
          go_ret
          exact ⟨Sh.eR, Sh.bw⟩
        ·rw [if_neg c23] at H
         exact absurd H (by simp)
       ·rw [if_neg c22] at H
        exact absurd H (by simp)
      ·rw [if_neg c21] at H
       have c21b0 := decide_eq_false c21
       clear c21
       obtain rfl := Option.some.inj H
       go_wp2
       go_ret
       exact ⟨Sh.eR, Sh.bw⟩
mutual
def spec_GoodProgram.j0 : Nat → Bool → Int → Int → List (S80) → List (S72) → Option (Bool)
 | 0, _, _, _, _, _ => none
 | k + 1, x16, x149000, x149001, x149002, x149003 => if x16 = true then (some false) else (spec_GoodProgram.l0 k x149003 (x149003.length : Int) 0 x149000 x149001 x149002 x149003)
def spec_GoodProgram.l0 : Nat → List (S72) → Int → Int → Int → Int → List (S80) → List (S72) → Option (Bool)
 | 0, _, _, _, _, _, _, _ => none
 | k + 1, x18, x19, x20, x149000, x149001, x149002, x149003 => if x20 < x19 then (if 0 ≤ x20 then (if x20 < (x18.length : Int) then ((spec_l7Command.f k x149000 x149001 x149002 x149003 ((rd_T72 x18 x20).f0) ((rd_T72 x18 x20).f1)).bind fun t153 => (if t153 = true then (spec_GoodProgram.l0 k x18 x19 (wrap64 (x20 + 1)) x149000 x149001 x149002 x149003) else (some false))) else (none)) else (none)) else (some true)
end
def spec_GoodProgram.f (k : Nat) (a0_0 : Int) (a0_1 : Int) (l0_2 : List (S80)) (l0_3 : List (S72)) : Option (Bool) := (spec_l7Asks.f k a0_0 a0_1 l0_2 l0_3 l0_2).bind fun t149 => (if t149 = true then ((spec_l1In.f (l0_3.length : Int) 1 6).bind fun t150 => (spec_GoodProgram.j0 k (!t150) a0_0 a0_1 l0_2 l0_3)) else (spec_GoodProgram.j0 k true a0_0 a0_1 l0_2 l0_3))
theorem spec_GoodProgram.mono_l : ∀ k, (∀ y0 y1 y2 y3 y4, LeO (spec_GoodProgram.j0 k y0 y1 y2 y3 y4) (spec_GoodProgram.j0 (k + 1) y0 y1 y2 y3 y4)) ∧ (∀ y0 y1 y2 y3 y4 y5 y6, LeO (spec_GoodProgram.l0 k y0 y1 y2 y3 y4 y5 y6) (spec_GoodProgram.l0 (k + 1) y0 y1 y2 y3 y4 y5 y6))
 | 0 => ⟨fun _ _ _ _ _ r h => by simp [spec_GoodProgram.j0] at h, fun _ _ _ _ _ _ _ r h => by simp [spec_GoodProgram.l0] at h⟩
 | k + 1 => by
  obtain ⟨ih0, ih1⟩ := spec_GoodProgram.mono_l k
  and_intros <;> intros
  all_goals (first | unfold spec_GoodProgram.j0 | unfold spec_GoodProgram.l0)
  all_goals repeat' with_reducible first | apply ih0 | apply ih1 | apply spec_l7Asks.mono | apply spec_l7Command.mono | exact LeO.refl _ | exact LeO.none _ | apply LeO.ite | refine LeO.bind ?_ fun _ => ?_
theorem spec_GoodProgram.mono : ∀ a0 a1 a2 a3 k, LeO (spec_GoodProgram.f k a0 a1 a2 a3) (spec_GoodProgram.f (k + 1) a0 a1 a2 a3) := by
 intro a0 a1 a2 a3 k
 obtain ⟨ih0, ih1⟩ := spec_GoodProgram.mono_l k
 unfold spec_GoodProgram.f
 repeat' with_reducible first | apply ih0 | apply ih1 | apply spec_l7Asks.mono | apply spec_l7Command.mono | exact LeO.refl _ | exact LeO.none _ | apply LeO.ite | refine LeO.bind ?_ fun _ => ?_
theorem spec_GoodProgram.calls (k : Nat) (a0_0 : Int) (a0_1 : Int) (A0_2 : Option Addr) (c0_2 : Nat) (l0_2 : List (S80)) (A0_3 : Option Addr) (c0_3 : Nat) (l0_3 : List (S72)) (r : Bool) (w : World) (hr0_2 : Kd.C k80 w A0_2 l0_2.length l0_2) (hc0_2 : l0_2.length ≤ c0_2) (hr0_3 : Kd.C k72 w A0_3 l0_3.length l0_3) (hc0_3 : l0_3.length ≤ c0_3) (h : spec_GoodProgram.f k a0_0 a0_1 l0_2 l0_3 = some r) :
  Calls Tryz.prog 24 #[.agg #[.int .i64 a0_0, .int .i64 a0_1, .slice A0_2 l0_2.length c0_2, .slice A0_3 l0_3.length c0_3]] w fun e w' => e = .returned (.bool r) ∧ Below w.heap.size w w' := by
 have hu36 := Tryz.underlying36
 have hu72 := Tryz.underlying72
 have HR0_2 := am_ hr0_2
 have HC0_2 := am_ hc0_2
 clear hr0_2 hc0_2
 have HR0_3 := am_ hr0_3
 have HC0_3 := am_ hc0_3
 clear hr0_3 hc0_3
 have HB := am_ (Below.refl w.heap.size w)
 have H := h
 clear h
 unfold spec_GoodProgram.f at H
 have HC2 := am_ H
 clear H
 go_enter Tryz.func24, Tryz.ntmps24
 go_upto_region 1 with (first | ((with_reducible refine Sh.d 1 ?_); (try (refine gate_guard (by rfl) ?_; dsimp only)); refine Sh.bz w (N := 1) (cs := #[.int .i64 a0_0, .int .i64 a0_1, .slice A0_2 l0_2.length c0_2, .slice A0_3 l0_3.length c0_3]) (t := 36) (h := ?_); clear HB; intro gb148 w3 BK148 GE148 HB))
 (try simp only [Act.put, List.setIfInBounds_toArray, List.set_cons_zero, List.set_cons_succ])
 go_cut [16] (fun v16 wc => ∃ (kq : Nat) (x16_1 : Bool), v16 = .bool x16_1 ∧ Aside0 (spec_GoodProgram.j0 kq x16_1 a0_0 a0_1 l0_2 l0_3 = some r) ∧ Aside0 (kq ≤ k) ∧ Aside0 (wc.heap[gb148]? = some (.cells #[.int .i64 a0_0, .int .i64 a0_1, (.slice A0_2 l0_2.length c0_2), (.slice A0_3 l0_3.length c0_3)] 36 (0, 0))) ∧ Aside0 (Below w.heap.size w wc))
 case first =>
  have H := HC2.out
  clear HC2
  obtain ⟨t149, A4, H⟩ := Sh.ba H
  by_cases c5 : t149 = true
  ·subst c5
   rw [if_pos rfl] at H
   obtain ⟨t150, A6, H⟩ := Sh.ba H
   have H' := am_ H
   clear H
   have hcz7_0 := Sh.bc BK148.out 0
   have hcz7_1 := Sh.bc BK148.out 1
   have hcz7_2 := Sh.bc BK148.out 2
   have hcz7_3 := Sh.bc BK148.out 3
   have hfz7_0 := blk_frozen BK148.out 0
   have hfz7_1 := blk_frozen BK148.out 1
   have hfz7_2 := blk_frozen BK148.out 2
   have hfz7_3 := blk_frozen BK148.out 3
   go_wp2_with (first | ((with_reducible refine Sh.k 38 ?_); refine Sh.gB (some 8) Tryz.func38 #[.agg #[.int .i64 a0_0, .int .i64 a0_1, .slice A0_2 l0_2.length c0_2, .slice A0_3 l0_3.length c0_3], .slice A0_2 l0_2.length c0_2] (spec_l7Asks.calls k a0_0 a0_1 _ _ l0_2 _ _ l0_3 _ _ l0_2 true _ (Sh.cB HR0_2.out) HC0_2.out (Sh.cB HR0_3.out) HC0_3.out (Sh.cB HR0_2.out) HC0_2.out A4.out) fun w8 hb => ?_; replace BK148 := Sh.ab BK148 hb; replace HB := Sh.hb hb; (try clear hb); (try clear hb2); (try clear hk); (try clear hi); obtain ⟨hcz9_0, hcz9_1, hcz9_2, hcz9_3, hfz9_0, hfz9_1, hfz9_2, hfz9_3⟩ := Sh.b4 BK148.out) | (go_at_call 39; (with_reducible refine (spec_l1In.calls (l0_3.length : Int) 1 6 t150 _ A6.out).mono ?_); rintro e w' ⟨rfl, ⟨nd, rfl⟩⟩))
   go_meet
   case rel => exact ⟨_, (!t150), (Sh.es), H', ⟨Sh.om⟩, ⟨by refine Sh.pl ?_; exact BK148.out⟩, ⟨Sh.bw⟩⟩
  ·replace c5 := Bool.eq_false_iff.mpr c5
   subst c5
   rw [Sh.nf] at H
   have H' := am_ H
   clear H
   have hcz10_0 := Sh.bc BK148.out 0
   have hcz10_1 := Sh.bc BK148.out 1
   have hcz10_2 := Sh.bc BK148.out 2
   have hcz10_3 := Sh.bc BK148.out 3
   have hfz10_0 := blk_frozen BK148.out 0
   have hfz10_1 := blk_frozen BK148.out 1
   have hfz10_2 := blk_frozen BK148.out 2
   have hfz10_3 := blk_frozen BK148.out 3
   go_wp2_with (first | ((with_reducible refine Sh.k 38 ?_); refine Sh.gB (some 8) Tryz.func38 #[.agg #[.int .i64 a0_0, .int .i64 a0_1, .slice A0_2 l0_2.length c0_2, .slice A0_3 l0_3.length c0_3], .slice A0_2 l0_2.length c0_2] (spec_l7Asks.calls k a0_0 a0_1 _ _ l0_2 _ _ l0_3 _ _ l0_2 false _ (Sh.cB HR0_2.out) HC0_2.out (Sh.cB HR0_3.out) HC0_3.out (Sh.cB HR0_2.out) HC0_2.out A4.out) fun w11 hb => ?_; replace BK148 := Sh.ab BK148 hb; replace HB := Sh.hb hb; (try clear hb); (try clear hb2); (try clear hk); (try clear hi)))
   go_meet
   case rel => exact ⟨_, (true), (Sh.es), H', ⟨Sh.om⟩, ⟨by refine Sh.pl ?_; exact BK148.out⟩, ⟨Sh.bw⟩⟩
 case rest =>
  clear HC2
  try clear hcz10_0
  try clear hcz10_1
  try clear hcz10_2
  try clear hcz10_3
  try clear hcz7_0
  try clear hcz7_1
  try clear hcz7_2
  try clear hcz7_3
  try clear hcz9_0
  try clear hcz9_1
  try clear hcz9_2
  try clear hcz9_3
  try clear hfz10_0
  try clear hfz10_1
  try clear hfz10_2
  try clear hfz10_3
  try clear hfz7_0
  try clear hfz7_1
  try clear hfz7_2
  try clear hfz7_3
  try clear hfz9_0
  try clear hfz9_1
  try clear hfz9_2
  try clear hfz9_3
  obtain ⟨kq, x16_1, rfl, HA, HJ1, BK148, HB⟩ := hcut
  cases kq with
  | zero => exact absurd HA.out (by simp [spec_GoodProgram.j0])
  | succ kj1 =>
   have H := HA.out
   clear HA
   simp only [spec_GoodProgram.j0] at H
   by_cases c12 : x16_1 = true
   ·subst c12
    rw [if_pos rfl] at H
    obtain rfl := Option.some.inj H
    go_wp2
    go_ret
    exact ⟨Sh.eR, Sh.bw⟩
   ·replace c12 := Bool.eq_false_iff.mpr c12
    subst c12
    rw [Sh.nf] at H
    have H' := am_ H
    clear H
    have hcz13_0 := Sh.bc BK148.out 0
    have hcz13_1 := Sh.bc BK148.out 1
    have hcz13_2 := Sh.bc BK148.out 2
    have hcz13_3 := Sh.bc BK148.out 3
    have hfz13_0 := blk_frozen BK148.out 0
    have hfz13_1 := blk_frozen BK148.out 1
    have hfz13_2 := blk_frozen BK148.out 2
    have hfz13_3 := blk_frozen BK148.out 3
    go_wp2
    go_loopg [20] kj1 (fun kq v20 w' => ∃ (x20_2 : Int), v20 = .int .i64 x20_2 ∧ Aside0 (spec_GoodProgram.l0 kq l0_3 (l0_3.length : Int) x20_2 a0_0 a0_1 l0_2 l0_3 = some r) ∧ Aside0 (kq ≤ kj1) ∧ Aside0 (w'.heap[gb148]? = some (.cells #[.int .i64 a0_0, .int .i64 a0_1, (.slice A0_2 l0_2.length c0_2), (.slice A0_3 l0_3.length c0_3)] 36 (0, 0))) ∧ Aside0 (Below w.heap.size w w'))
    case atStart => exact ⟨(0), (Sh.es), H', ⟨Nat.le_refl _⟩, ⟨by refine Sh.pl ?_; exact BK148.out⟩, ⟨Sh.bw⟩⟩
    case round =>
     clear H'
     try clear hcz10_0
     try clear hcz10_1
     try clear hcz10_2
     try clear hcz10_3
     try clear hcz13_0
     try clear hcz13_1
     try clear hcz13_2
     try clear hcz13_3
     try clear hcz7_0
     try clear hcz7_1
     try clear hcz7_2
     try clear hcz7_3
     try clear hcz9_0
     try clear hcz9_1
     try clear hcz9_2
     try clear hcz9_3
     try clear hfz10_0
     try clear hfz10_1
     try clear hfz10_2
     try clear hfz10_3
     try clear hfz13_0
     try clear hfz13_1
     try clear hfz13_2
     try clear hfz13_3
     try clear hfz7_0
     try clear hfz7_1
     try clear hfz7_2
     try clear hfz7_3
     try clear hfz9_0
     try clear hfz9_1
     try clear hfz9_2
     try clear hfz9_3
     obtain ⟨x20_2, rfl, HA, HK2, BK148, HB⟩ := hrel
     cases gk with
     | zero => exact absurd HA.out (by simp [spec_GoodProgram.l0])
     | succ k2 =>
      have H := HA.out
      clear HA
      simp only [spec_GoodProgram.l0] at H
      by_cases c14 : x20_2 < (l0_3.length : Int)
      ·rw [if_pos c14] at H
       have c14b0 := decide_eq_true c14
       clear c14
       by_cases c15 : 0 ≤ x20_2
       ·rw [if_pos c15] at H
        have c15b0 := decide_eq_true c15
        clear c15
        by_cases c16 : x20_2 < (l0_3.length : Int)
        ·rw [if_pos c16] at H
         have c16b0 := decide_eq_true c16
         clear c16
         obtain ⟨t153, A17, H⟩ := Sh.ba H
         by_cases c18 : t153 = true
         ·subst c18
          rw [if_pos rfl] at H
          have H' := am_ H
          clear H
          have p151 : 0 ≤ (x20_2 : Int) := Sh.od
          have q151 : x20_2 < (l0_3.length : Int) := Sh.od
          obtain ⟨ad151, A151_0, c151_0, A151_1, c151_1, e151, hx151_0, hx151_1, hl151_0, hi151_0, hl151_1, hi151_1⟩ := at_T72 HR0_3.out x20_2 p151 q151
          cases e151
          try replace hx151_0 := Sh.cw hx151_0
          try replace hx151_1 := Sh.cw hx151_1
          have HR151_0 := am_ hi151_0
          have HC151_0 := am_ hl151_0
          clear hi151_0 hl151_0
          have HR151_1 := am_ hi151_1
          have HC151_1 := am_ hl151_1
          clear hi151_1 hl151_1
          replace p151 := eq_true p151
          replace q151 := eq_true q151
          go_wp2_with (first | ((with_reducible refine Sh.d 4 ?_); (try (refine gate_guard (by rfl) ?_; dsimp only)); refine Sh.bx (N := 4) (cs := #[.slice none 0 0, .slice none 0 0]) (t := 72) (h := ?_); intro gb152 hg w19 hbox hb; have BK152 := am_ hbox; have GE152 := Sh.ag w hg; replace HB := Sh.hb hb; have NB148_152 := am_ (Sh.nl hg BK148.out); have NB152_148 := am_ (Sh.ng hg BK148.out); replace BK148 := Sh.ab BK148 hb; clear hb hbox hg; have hnb20 := NB152_148.out; have hnc20 := NB148_152.out; obtain ⟨hcz21_0, hcz21_1, hfz21_0, hfz21_1⟩ := Sh.b2 BK152.out; obtain ⟨hcz22_0, hcz22_1, hcz22_2, hcz22_3, hfz22_0, hfz22_1, hfz22_2, hfz22_3⟩ := Sh.b4 BK148.out) | ((with_reducible refine Sh.k 40 ?_); refine Sh.gB (some 26) Tryz.func40 #[.agg #[.int .i64 a0_0, .int .i64 a0_1, .slice A0_2 l0_2.length c0_2, .slice (some ad151) l0_3.length c0_3], .agg #[.slice A151_0 ((rd_T72 l0_3 x20_2).f0).length c151_0, .slice A151_1 ((rd_T72 l0_3 x20_2).f1).length c151_1]] (spec_l7Command.calls k2 a0_0 a0_1 _ _ l0_2 _ _ l0_3 _ _ ((rd_T72 l0_3 x20_2).f0) _ _ ((rd_T72 l0_3 x20_2).f1) true _ (Sh.cB HR0_2.out) HC0_2.out (Sh.cB HR0_3.out) HC0_3.out (Sh.cB HR151_0.out) HC151_0.out (Sh.cB HR151_1.out) HC151_1.out A17.out) fun w23 hb => ?_; replace BK148 := am_ (blk_below (g := gb148) (o := .cells #[.int .i64 a0_0, .int .i64 a0_1, .slice A0_2 l0_2.length c0_2, .slice (some ad151) l0_3.length c0_3] 36 (0, 0)) (by refine Sh.pl ?_; refine blk_far ?_ NB148_152.out _; refine Sh.pl ?_; refine blk_far ?_ NB148_152.out _; refine Sh.pl ?_; exact BK148.out) hb); replace BK152 := am_ (blk_below (g := gb152) (o := .cells #[.slice A151_0 ((rd_T72 l0_3 x20_2).f0).length c151_0, .slice A151_1 ((rd_T72 l0_3 x20_2).f1).length c151_1] 72 (0, 0)) (by refine Sh.pl ?_; refine blk_put (cs := #[.slice A151_0 ((rd_T72 l0_3 x20_2).f0).length c151_0, .slice none 0 0]) ?_ 1 _ rfl; refine Sh.pl ?_; refine blk_put (cs := #[.slice none 0 0, .slice none 0 0]) ?_ 0 _ rfl; refine Sh.pl ?_; exact BK152.out) hb); replace HB := Sh.hb hb; (try clear hb); (try clear hb2); (try clear hk); (try clear hi)))
          go_roundg k2
          case measure => have := HJ1.out; have := HK2.out; omega
          case rel => exact ⟨(wrap64 (x20_2 + 1)), (Sh.es), H', ⟨by have := HJ1.out; have := HK2.out; omega⟩, ⟨by refine Sh.pl ?_; exact BK148.out⟩, ⟨Sh.bw⟩⟩
         ·replace c18 := Bool.eq_false_iff.mpr c18
          subst c18
          rw [Sh.nf] at H
          obtain rfl := Option.some.inj H
          have p151 : 0 ≤ (x20_2 : Int) := Sh.od
          have q151 : x20_2 < (l0_3.length : Int) := Sh.od
          obtain ⟨ad151, A151_0, c151_0, A151_1, c151_1, e151, hx151_0, hx151_1, hl151_0, hi151_0, hl151_1, hi151_1⟩ := at_T72 HR0_3.out x20_2 p151 q151
          cases e151
          try replace hx151_0 := Sh.cw hx151_0
          try replace hx151_1 := Sh.cw hx151_1
          have HR151_0 := am_ hi151_0
          have HC151_0 := am_ hl151_0
          clear hi151_0 hl151_0
          have HR151_1 := am_ hi151_1
          have HC151_1 := am_ hl151_1
          clear hi151_1 hl151_1
          replace p151 := eq_true p151
          replace q151 := eq_true q151
          go_wp2_with (first | ((with_reducible refine Sh.d 4 ?_); (try (refine gate_guard (by rfl) ?_; dsimp only)); refine Sh.bx (N := 4) (cs := #[.slice none 0 0, .slice none 0 0]) (t := 72) (h := ?_); intro gb152 hg w24 hbox hb; have BK152 := am_ hbox; have GE152 := Sh.ag w hg; replace HB := Sh.hb hb; have NB148_152 := am_ (Sh.nl hg BK148.out); have NB152_148 := am_ (Sh.ng hg BK148.out); replace BK148 := Sh.ab BK148 hb; clear hb hbox hg; have hnb25 := NB152_148.out; have hnc25 := NB148_152.out; obtain ⟨hcz26_0, hcz26_1, hfz26_0, hfz26_1⟩ := Sh.b2 BK152.out; obtain ⟨hcz27_0, hcz27_1, hcz27_2, hcz27_3, hfz27_0, hfz27_1, hfz27_2, hfz27_3⟩ := Sh.b4 BK148.out) | ((with_reducible refine Sh.k 40 ?_); refine Sh.gB (some 26) Tryz.func40 #[.agg #[.int .i64 a0_0, .int .i64 a0_1, .slice A0_2 l0_2.length c0_2, .slice (some ad151) l0_3.length c0_3], .agg #[.slice A151_0 ((rd_T72 l0_3 x20_2).f0).length c151_0, .slice A151_1 ((rd_T72 l0_3 x20_2).f1).length c151_1]] (spec_l7Command.calls k2 a0_0 a0_1 _ _ l0_2 _ _ l0_3 _ _ ((rd_T72 l0_3 x20_2).f0) _ _ ((rd_T72 l0_3 x20_2).f1) false _ (Sh.cB HR0_2.out) HC0_2.out (Sh.cB HR0_3.out) HC0_3.out (Sh.cB HR151_0.out) HC151_0.out (Sh.cB HR151_1.out) HC151_1.out A17.out) fun w28 hb => ?_; replace BK148 := am_ (blk_below (g := gb148) (o := .cells #[.int .i64 a0_0, .int .i64 a0_1, .slice A0_2 l0_2.length c0_2, .slice (some ad151) l0_3.length c0_3] 36 (0, 0)) (by refine Sh.pl ?_; refine blk_far ?_ NB148_152.out _; refine Sh.pl ?_; refine blk_far ?_ NB148_152.out _; refine Sh.pl ?_; exact BK148.out) hb); replace BK152 := am_ (blk_below (g := gb152) (o := .cells #[.slice A151_0 ((rd_T72 l0_3 x20_2).f0).length c151_0, .slice A151_1 ((rd_T72 l0_3 x20_2).f1).length c151_1] 72 (0, 0)) (by refine Sh.pl ?_; refine blk_put (cs := #[.slice A151_0 ((rd_T72 l0_3 x20_2).f0).length c151_0, .slice none 0 0]) ?_ 1 _ rfl; refine Sh.pl ?_; refine blk_put (cs := #[.slice none 0 0, .slice none 0 0]) ?_ 0 _ rfl; refine Sh.pl ?_; exact BK152.out) hb); replace HB := Sh.hb hb; (try clear hb); (try clear hb2); (try clear hk); (try clear hi)))
          go_ret
          exact ⟨Sh.eR, Sh.bw⟩
        ·rw [if_neg c16] at H
         exact absurd H (by simp)
       ·rw [if_neg c15] at H
        exact absurd H (by simp)
      ·rw [if_neg c14] at H
       have c14b0 := decide_eq_false c14
       clear c14
       obtain rfl := Option.some.inj H
       go_wp2
       go_ret
       exact ⟨Sh.eR, Sh.bw⟩
def spec_l2Words.l0 : Nat → Int → List Int → Int → Int → Option (Bool)
 | 0, _, _, _, _ => none
 | k + 1, x0, x7, x8, x9 => if x9 < x8 then (if 0 ≤ x9 then (if x9 < (x7.length : Int) then ((spec_GoodWord.f k x0 (rd x7 x9)).bind fun t155 => (if t155 = true then (spec_l2Words.l0 k x0 x7 x8 (wrap64 (x9 + 1))) else (some false))) else (none)) else (none)) else (some true)
def spec_l2Words.f (k : Nat) (a0 : Int) (l1 : List Int) : Option (Bool) := spec_l2Words.l0 k a0 l1 (l1.length : Int) 0
theorem spec_l2Words.mono_l : ∀ k, (∀ y0 y1 y2 y3, LeO (spec_l2Words.l0 k y0 y1 y2 y3) (spec_l2Words.l0 (k + 1) y0 y1 y2 y3))
 | 0 => fun _ _ _ _ r h => by simp [spec_l2Words.l0] at h
 | k + 1 => by
  have ih0 := spec_l2Words.mono_l k
  ·intro y0 y1 y2 y3
   unfold spec_l2Words.l0
   repeat' with_reducible first | apply ih0 | apply spec_GoodWord.mono | exact LeO.refl _ | exact LeO.none _ | apply LeO.ite | refine LeO.bind ?_ fun _ => ?_
theorem spec_l2Words.mono : ∀ a0 a1 k, LeO (spec_l2Words.f k a0 a1) (spec_l2Words.f (k + 1) a0 a1) := by
 intro a0 a1 k
 have ih0 := spec_l2Words.mono_l k
 unfold spec_l2Words.f
 repeat' with_reducible first | apply ih0 | apply spec_GoodWord.mono | exact LeO.refl _ | exact LeO.none _ | apply LeO.ite | refine LeO.bind ?_ fun _ => ?_
theorem spec_l2Words.calls (k : Nat) (a0 : Int) (A1 : Option Addr) (c1 : Nat) (l1 : List Int) (r : Bool) (w : World) (hr1 : Kd.C (Kd.int .u64) w A1 l1.length l1) (hc1 : l1.length ≤ c1) (h : spec_l2Words.f k a0 l1 = some r) :
  Calls Tryz.prog 41 #[.int .i64 a0, .slice A1 l1.length c1] w fun e w' => e = .returned (.bool r) ∧ Drawn0 w w' := by
 have HR1 := am_ hr1
 have HC1 := am_ hc1
 clear hr1 hc1
 have H := h
 clear h
 unfold spec_l2Words.f at H
 have H' := am_ H
 clear H
 go_enter Tryz.func41, Tryz.ntmps41
 go_wp2
 go_loopg [9] k (fun kq v9 w' => ∃ (x9_1 : Int), v9 = .int .i64 x9_1 ∧ Aside0 (spec_l2Words.l0 kq a0 l1 (l1.length : Int) x9_1 = some r) ∧ Aside0 (kq ≤ k) ∧ Drawn0 w w')
 case atStart => exact ⟨(0), (Sh.es), H', ⟨Nat.le_refl _⟩, Sh.dr⟩
 case round =>
  clear H'
  obtain ⟨x9_1, rfl, HA, HK1, ⟨m1, rfl⟩⟩ := hrel
  cases gk with
  | zero => exact absurd HA.out (by simp [spec_l2Words.l0])
  | succ k1 =>
   have H := HA.out
   clear HA
   simp only [spec_l2Words.l0] at H
   by_cases c3 : x9_1 < (l1.length : Int)
   ·rw [if_pos c3] at H
    have c3b0 := decide_eq_true c3
    clear c3
    by_cases c4 : 0 ≤ x9_1
    ·rw [if_pos c4] at H
     have c4b0 := decide_eq_true c4
     clear c4
     by_cases c5 : x9_1 < (l1.length : Int)
     ·rw [if_pos c5] at H
      have c5b0 := decide_eq_true c5
      clear c5
      obtain ⟨t155, A6, H⟩ := Sh.ba H
      by_cases c7 : t155 = true
      ·subst c7
       rw [if_pos rfl] at H
       have H' := am_ H
       clear H
       have p154 : 0 ≤ (x9_1 : Int) := Sh.od
       have q154 : x9_1 < (l1.length : Int) := Sh.od
       obtain ⟨ad154, e154, hx154_0⟩ := Kd.at_int HR1.out x9_1 p154 q154
       cases e154
       replace p154 := eq_true p154
       replace q154 := eq_true q154
       go_wp2_with (first | ((with_reducible refine Sh.k 57 ?_); refine Sh.gD (some 15) Tryz.func57 #[.int .i64 a0, .int .u64 (rd l1 x9_1)] (spec_GoodWord.calls k1 a0 (rd l1 x9_1) true _ A6.out) fun nd => ?_))
       go_roundg k1
       case measure => have := HK1.out; omega
       case rel => exact ⟨(wrap64 (x9_1 + 1)), (Sh.es), H', ⟨by have := HK1.out; omega⟩, Sh.dr⟩
      ·replace c7 := Bool.eq_false_iff.mpr c7
       subst c7
       rw [Sh.nf] at H
       obtain rfl := Option.some.inj H
       have p154 : 0 ≤ (x9_1 : Int) := Sh.od
       have q154 : x9_1 < (l1.length : Int) := Sh.od
       obtain ⟨ad154, e154, hx154_0⟩ := Kd.at_int HR1.out x9_1 p154 q154
       cases e154
       replace p154 := eq_true p154
       replace q154 := eq_true q154
       go_wp2_with (first | ((with_reducible refine Sh.k 57 ?_); refine Sh.gD (some 15) Tryz.func57 #[.int .i64 a0, .int .u64 (rd l1 x9_1)] (spec_GoodWord.calls k1 a0 (rd l1 x9_1) false _ A6.out) fun nd => ?_))
       go_ret
       exact ⟨Sh.es, Sh.dr⟩
     ·rw [if_neg c5] at H
      exact absurd H (by simp)
    ·rw [if_neg c4] at H
     exact absurd H (by simp)
   ·rw [if_neg c3] at H
    have c3b0 := decide_eq_false c3
    clear c3
    obtain rfl := Option.some.inj H
    go_wp2
    go_ret
    exact ⟨Sh.es, Sh.dr⟩
def spec_l7State.f (k : Nat) (a0_0 : Int) (a0_1 : Int) (l0_2 : List (S80)) (l0_3 : List (S72)) (l1 : List Int) : Option (Bool) := if (l1.length : Int) = a0_1 then ((spec_l2Words.f k a0_0 l1).bind fun t157 => (some t157)) else (some false)
theorem spec_l7State.mono : ∀ a0 a1 a2 a3 a4 k, LeO (spec_l7State.f k a0 a1 a2 a3 a4) (spec_l7State.f (k + 1) a0 a1 a2 a3 a4) := by
 intro a0 a1 a2 a3 a4 k
 unfold spec_l7State.f
 repeat' with_reducible first | apply spec_l2Words.mono | exact LeO.refl _ | exact LeO.none _ | apply LeO.ite | refine LeO.bind ?_ fun _ => ?_
theorem spec_l7State.calls (k : Nat) (a0_0 : Int) (a0_1 : Int) (A0_2 : Option Addr) (c0_2 : Nat) (l0_2 : List (S80)) (A0_3 : Option Addr) (c0_3 : Nat) (l0_3 : List (S72)) (A1 : Option Addr) (c1 : Nat) (l1 : List Int) (r : Bool) (w : World) (hr0_2 : Kd.C k80 w A0_2 l0_2.length l0_2) (hc0_2 : l0_2.length ≤ c0_2) (hr0_3 : Kd.C k72 w A0_3 l0_3.length l0_3) (hc0_3 : l0_3.length ≤ c0_3) (hr1 : Kd.C (Kd.int .u64) w A1 l1.length l1) (hc1 : l1.length ≤ c1) (h : spec_l7State.f k a0_0 a0_1 l0_2 l0_3 l1 = some r) :
  Calls Tryz.prog 25 #[.agg #[.int .i64 a0_0, .int .i64 a0_1, .slice A0_2 l0_2.length c0_2, .slice A0_3 l0_3.length c0_3], .slice A1 l1.length c1] w fun e w' => e = .returned (.bool r) ∧ Below w.heap.size w w' := by
 have hu36 := Tryz.underlying36
 have HR0_2 := am_ hr0_2
 have HC0_2 := am_ hc0_2
 clear hr0_2 hc0_2
 have HR0_3 := am_ hr0_3
 have HC0_3 := am_ hc0_3
 clear hr0_3 hc0_3
 have HR1 := am_ hr1
 have HC1 := am_ hc1
 clear hr1 hc1
 have HB := am_ (Below.refl w.heap.size w)
 have H := h
 clear h
 unfold spec_l7State.f at H
 by_cases c3 : (l1.length : Int) = a0_1
 ·rw [if_pos c3] at H
  have c3b0 : ((l1.length : Int) == a0_1) = true := beq_iff_eq.mpr c3
  have c3b1 : ((l1.length : Int) != a0_1) = false := bne_eq_false_iff_eq.mpr c3
  clear c3
  obtain ⟨t157, A4, H⟩ := Sh.ba H
  obtain rfl := Option.some.inj H
  go_enter Tryz.func25, Tryz.ntmps25
  go_wp2_with (first | ((with_reducible refine Sh.d 2 ?_); refine Sh.bz w (N := 2) (cs := #[.int .i64 a0_0, .int .i64 a0_1, .slice A0_2 l0_2.length c0_2, .slice A0_3 l0_3.length c0_3]) (t := 36) (h := ?_); clear HB; intro gb156 w5 BK156 GE156 HB; obtain ⟨hcz6_0, hcz6_1, hcz6_2, hcz6_3, hfz6_0, hfz6_1, hfz6_2, hfz6_3⟩ := Sh.b4 BK156.out) | (go_at_call 41; (with_reducible refine (spec_l2Words.calls k a0_0 _ _ l1 t157 _ (Sh.cB HR1.out) HC1.out A4.out).mono ?_); rintro e w' ⟨rfl, ⟨nd, rfl⟩⟩))
  go_ret
  exact ⟨Sh.eR, Sh.bw⟩
 ·rw [if_neg c3] at H
  have c3b0 : ((l1.length : Int) == a0_1) = false := beq_eq_false_iff_ne.mpr c3
  have c3b1 : ((l1.length : Int) != a0_1) = true := bne_iff_ne.mpr c3
  obtain rfl := Option.some.inj H
  go_enter Tryz.func25, Tryz.ntmps25
  go_wp2_with (first | ((with_reducible refine Sh.d 2 ?_); refine Sh.bz w (N := 2) (cs := #[.int .i64 a0_0, .int .i64 a0_1, .slice A0_2 l0_2.length c0_2, .slice A0_3 l0_3.length c0_3]) (t := 36) (h := ?_); clear HB; intro gb156 w7 BK156 GE156 HB; obtain ⟨hcz8_0, hcz8_1, hcz8_2, hcz8_3, hfz8_0, hfz8_1, hfz8_2, hfz8_3⟩ := Sh.b4 BK156.out))
  go_ret
  exact ⟨Sh.eR, Sh.bw⟩
def spec_l1Both.f (k : Nat) (a0 : Int) (a1 : Int) (a2 : Int) : Option (Bool) := (spec_GoodWord.f k a0 a1).bind fun t158 => (if t158 = true then ((spec_GoodWord.f k a0 a2).bind fun t159 => (some t159)) else (some false))
theorem spec_l1Both.mono : ∀ a0 a1 a2 k, LeO (spec_l1Both.f k a0 a1 a2) (spec_l1Both.f (k + 1) a0 a1 a2) := by
 intro a0 a1 a2 k
 unfold spec_l1Both.f
 repeat' with_reducible first | apply spec_GoodWord.mono | exact LeO.refl _ | exact LeO.none _ | apply LeO.ite | refine LeO.bind ?_ fun _ => ?_
theorem spec_l1Both.calls (k : Nat) (a0 : Int) (a1 : Int) (a2 : Int) (r : Bool) (w : World) (h : spec_l1Both.f k a0 a1 a2 = some r) :
  Calls Tryz.prog 97 #[.int .i64 a0, .int .u64 a1, .int .u64 a2] w fun e w' => e = .returned (.bool r) ∧ Drawn0 w w' := by
 have H := h
 clear h
 unfold spec_l1Both.f at H
 obtain ⟨t158, A4, H⟩ := Sh.ba H
 by_cases c5 : t158 = true
 ·subst c5
  rw [if_pos rfl] at H
  obtain ⟨t159, A6, H⟩ := Sh.ba H
  obtain rfl := Option.some.inj H
  go_enter Tryz.func97, Tryz.ntmps97
  go_wp2_with (first | ((with_reducible refine Sh.k 57 ?_); refine Sh.gD (some 9) Tryz.func57 #[.int .i64 a0, .int .u64 a1] (spec_GoodWord.calls k a0 a1 true _ A4.out) fun nd => ?_) | (go_at_call 57; (with_reducible refine (spec_GoodWord.calls k a0 a2 t159 _ A6.out).mono ?_); rintro e w' ⟨rfl, ⟨nd, rfl⟩⟩))
  go_ret
  exact ⟨Sh.es, Sh.dr⟩
 ·replace c5 := Bool.eq_false_iff.mpr c5
  subst c5
  rw [Sh.nf] at H
  obtain rfl := Option.some.inj H
  go_enter Tryz.func97, Tryz.ntmps97
  go_wp2_with (first | ((with_reducible refine Sh.k 57 ?_); refine Sh.gD (some 9) Tryz.func57 #[.int .i64 a0, .int .u64 a1] (spec_GoodWord.calls k a0 a1 false _ A4.out) fun nd => ?_))
  go_ret
  exact ⟨Sh.es, Sh.dr⟩
def spec_DivWord.f (k : Nat) (a0 : Int) (a1 : Int) (a2 : Int) : Option (Int × Int × Bool) := (spec_l1Both.f k a0 a1 a2).bind fun t160 => (if t160 = true then (if a2 = 0 then ((spec_l1Cut.f k a0 18446744073709551615).bind fun t161 => (some (t161, a1, true))) else (some (IntKind.u64.wrap (Int.tdiv a1 a2), Int.tmod a1 a2, true))) else (some (0, 0, false)))
theorem spec_DivWord.mono : ∀ a0 a1 a2 k, LeO (spec_DivWord.f k a0 a1 a2) (spec_DivWord.f (k + 1) a0 a1 a2) := by
 intro a0 a1 a2 k
 unfold spec_DivWord.f
 repeat' with_reducible first | apply spec_l1Both.mono | apply spec_l1Cut.mono | exact LeO.refl _ | exact LeO.none _ | apply LeO.ite | refine LeO.bind ?_ fun _ => ?_
theorem spec_DivWord.calls (k : Nat) (a0 : Int) (a1 : Int) (a2 : Int) (r1 : Int) (r2 : Int) (r3 : Bool) (w : World) (h : spec_DivWord.f k a0 a1 a2 = some (r1, r2, r3)) :
  Calls Tryz.prog 87 #[.int .i64 a0, .int .u64 a1, .int .u64 a2] w fun e w' => e = .returned (.tuple #[.int .u64 r1, .int .u64 r2, .bool r3]) ∧ Drawn0 w w' := by
 have H := h
 clear h
 unfold spec_DivWord.f at H
 obtain ⟨t160, A4, H⟩ := Sh.ba H
 by_cases c5 : t160 = true
 ·subst c5
  rw [if_pos rfl] at H
  by_cases c6 : a2 = 0
  ·rw [if_pos c6] at H
   have c6b0 : (a2 == 0) = true := beq_iff_eq.mpr c6
   have c6b1 : (a2 != 0) = false := bne_eq_false_iff_eq.mpr c6
   clear c6
   obtain ⟨t161, A7, H⟩ := Sh.ba H
   simp only [Option.some.injEq, Prod.mk.injEq] at H
   obtain ⟨rfl, rfl, rfl⟩ := H
   go_enter Tryz.func87, Tryz.ntmps87
   go_wp2_with (first | (go_at_call 97; (with_reducible refine (spec_l1Both.calls k a0 a1 a2 true _ A4.out).mono ?_); rintro e w' ⟨rfl, ⟨nd, rfl⟩⟩; (try first | exact ⟨rfl, _, World.drewN_drewN _ _ _⟩ | exact ⟨rfl, _, Eq.trans (World.drewN_drewN _ _ _) (congrArg (World.drewN _) (Nat.add_assoc _ _ _))⟩)) | (go_at_call 76; (with_reducible refine (spec_l1Cut.calls k a0 18446744073709551615 t161 _ A7.out).mono ?_); rintro e w' ⟨rfl, ⟨nd, rfl⟩⟩; (try first | exact ⟨rfl, _, World.drewN_drewN _ _ _⟩ | exact ⟨rfl, _, Eq.trans (World.drewN_drewN _ _ _) (congrArg (World.drewN _) (Nat.add_assoc _ _ _))⟩)))
   repeat (go_quiet (first | (go_at_call 97; (with_reducible refine (spec_l1Both.calls k a0 a1 a2 true _ A4.out).mono ?_); rintro e w' ⟨rfl, ⟨nd, rfl⟩⟩; (try first | exact ⟨rfl, _, World.drewN_drewN _ _ _⟩ | exact ⟨rfl, _, Eq.trans (World.drewN_drewN _ _ _) (congrArg (World.drewN _) (Nat.add_assoc _ _ _))⟩)) | (go_at_call 76; (with_reducible refine (spec_l1Cut.calls k a0 18446744073709551615 t161 _ A7.out).mono ?_); rintro e w' ⟨rfl, ⟨nd, rfl⟩⟩; (try first | exact ⟨rfl, _, World.drewN_drewN _ _ _⟩ | exact ⟨rfl, _, Eq.trans (World.drewN_drewN _ _ _) (congrArg (World.drewN _) (Nat.add_assoc _ _ _))⟩))); try go_wp2_with (first | (go_at_call 97; (with_reducible refine (spec_l1Both.calls k a0 a1 a2 true _ A4.out).mono ?_); rintro e w' ⟨rfl, ⟨nd, rfl⟩⟩; (try first | exact ⟨rfl, _, World.drewN_drewN _ _ _⟩ | exact ⟨rfl, _, Eq.trans (World.drewN_drewN _ _ _) (congrArg (World.drewN _) (Nat.add_assoc _ _ _))⟩)) | (go_at_call 76; (with_reducible refine (spec_l1Cut.calls k a0 18446744073709551615 t161 _ A7.out).mono ?_); rintro e w' ⟨rfl, ⟨nd, rfl⟩⟩; (try first | exact ⟨rfl, _, World.drewN_drewN _ _ _⟩ | exact ⟨rfl, _, Eq.trans (World.drewN_drewN _ _ _) (congrArg (World.drewN _) (Nat.add_assoc _ _ _))⟩))))
   go_ret3
   exact ⟨Sh.es, Sh.dr⟩
  ·rw [if_neg c6] at H
   have c6b0 : (a2 == 0) = false := beq_eq_false_iff_ne.mpr c6
   have c6b1 : (a2 != 0) = true := bne_iff_ne.mpr c6
   simp only [Option.some.injEq, Prod.mk.injEq] at H
   obtain ⟨rfl, rfl, rfl⟩ := H
   go_enter Tryz.func87, Tryz.ntmps87
   go_wp2_with (first | (go_at_call 97; (with_reducible refine (spec_l1Both.calls k a0 a1 a2 true _ A4.out).mono ?_); rintro e w' ⟨rfl, ⟨nd, rfl⟩⟩; (try first | exact ⟨rfl, _, World.drewN_drewN _ _ _⟩ | exact ⟨rfl, _, Eq.trans (World.drewN_drewN _ _ _) (congrArg (World.drewN _) (Nat.add_assoc _ _ _))⟩)))
   repeat (go_quiet (first | (go_at_call 97; (with_reducible refine (spec_l1Both.calls k a0 a1 a2 true _ A4.out).mono ?_); rintro e w' ⟨rfl, ⟨nd, rfl⟩⟩; (try first | exact ⟨rfl, _, World.drewN_drewN _ _ _⟩ | exact ⟨rfl, _, Eq.trans (World.drewN_drewN _ _ _) (congrArg (World.drewN _) (Nat.add_assoc _ _ _))⟩))); try go_wp2_with (first | (go_at_call 97; (with_reducible refine (spec_l1Both.calls k a0 a1 a2 true _ A4.out).mono ?_); rintro e w' ⟨rfl, ⟨nd, rfl⟩⟩; (try first | exact ⟨rfl, _, World.drewN_drewN _ _ _⟩ | exact ⟨rfl, _, Eq.trans (World.drewN_drewN _ _ _) (congrArg (World.drewN _) (Nat.add_assoc _ _ _))⟩))))
   go_ret3
   exact ⟨Sh.es, Sh.dr⟩
 ·replace c5 := Bool.eq_false_iff.mpr c5
  subst c5
  rw [Sh.nf] at H
  simp only [Option.some.injEq, Prod.mk.injEq] at H
  obtain ⟨rfl, rfl, rfl⟩ := H
  go_enter Tryz.func87, Tryz.ntmps87
  go_wp2_with (first | (go_at_call 97; (with_reducible refine (spec_l1Both.calls k a0 a1 a2 false _ A4.out).mono ?_); rintro e w' ⟨rfl, ⟨nd, rfl⟩⟩; (try first | exact ⟨rfl, _, World.drewN_drewN _ _ _⟩ | exact ⟨rfl, _, Eq.trans (World.drewN_drewN _ _ _) (congrArg (World.drewN _) (Nat.add_assoc _ _ _))⟩)))
  repeat (go_quiet (first | (go_at_call 97; (with_reducible refine (spec_l1Both.calls k a0 a1 a2 false _ A4.out).mono ?_); rintro e w' ⟨rfl, ⟨nd, rfl⟩⟩; (try first | exact ⟨rfl, _, World.drewN_drewN _ _ _⟩ | exact ⟨rfl, _, Eq.trans (World.drewN_drewN _ _ _) (congrArg (World.drewN _) (Nat.add_assoc _ _ _))⟩))); try go_wp2_with (first | (go_at_call 97; (with_reducible refine (spec_l1Both.calls k a0 a1 a2 false _ A4.out).mono ?_); rintro e w' ⟨rfl, ⟨nd, rfl⟩⟩; (try first | exact ⟨rfl, _, World.drewN_drewN _ _ _⟩ | exact ⟨rfl, _, Eq.trans (World.drewN_drewN _ _ _) (congrArg (World.drewN _) (Nat.add_assoc _ _ _))⟩))))
  go_ret3
  exact ⟨Sh.es, Sh.dr⟩
def spec_l1Shift.l0 : Nat → Int → Int → Int → Bool → Option (Int)
 | 0, _, _, _, _ => none
 | k + 1, x0, x1, x2, x3 => if x2 > 0 then (if x3 = true then ((spec_l1Cut.f k x0 (IntKind.u64.wrap (x1 * 2))).bind fun t162 => (spec_l1Shift.l0 k x0 t162 (IntKind.u64.wrap (x2 - 1)) x3)) else (spec_l1Shift.l0 k x0 (x1 / 2) (IntKind.u64.wrap (x2 - 1)) x3)) else (some x1)
def spec_l1Shift.f (k : Nat) (a0 : Int) (a1 : Int) (a2 : Int) (a3 : Bool) : Option (Int) := if a2 ≥ (IntKind.u64.wrap (a0)) then (some 0) else (spec_l1Shift.l0 k a0 a1 a2 a3)
theorem spec_l1Shift.mono_l : ∀ k, (∀ y0 y1 y2 y3, LeO (spec_l1Shift.l0 k y0 y1 y2 y3) (spec_l1Shift.l0 (k + 1) y0 y1 y2 y3))
 | 0 => fun _ _ _ _ r h => by simp [spec_l1Shift.l0] at h
 | k + 1 => by
  have ih0 := spec_l1Shift.mono_l k
  ·intro y0 y1 y2 y3
   unfold spec_l1Shift.l0
   repeat' with_reducible first | apply ih0 | apply spec_l1Cut.mono | exact LeO.refl _ | exact LeO.none _ | apply LeO.ite | refine LeO.bind ?_ fun _ => ?_
theorem spec_l1Shift.mono : ∀ a0 a1 a2 a3 k, LeO (spec_l1Shift.f k a0 a1 a2 a3) (spec_l1Shift.f (k + 1) a0 a1 a2 a3) := by
 intro a0 a1 a2 a3 k
 have ih0 := spec_l1Shift.mono_l k
 unfold spec_l1Shift.f
 repeat' with_reducible first | apply ih0 | apply spec_l1Cut.mono | exact LeO.refl _ | exact LeO.none _ | apply LeO.ite | refine LeO.bind ?_ fun _ => ?_
theorem spec_l1Shift.calls (k : Nat) (a0 : Int) (a1 : Int) (a2 : Int) (a3 : Bool) (r : Int) (w : World) (h : spec_l1Shift.f k a0 a1 a2 a3 = some r) :
  Calls Tryz.prog 88 #[.int .i64 a0, .int .u64 a1, .int .u64 a2, .bool a3] w fun e w' => e = .returned (.int .u64 r) ∧ Drawn0 w w' := by
 have H := h
 clear h
 unfold spec_l1Shift.f at H
 by_cases c5 : a2 ≥ (IntKind.u64.wrap (a0))
 ·rw [if_pos c5] at H
  have c5b0 : decide ((IntKind.u64.wrap (a0)) ≤ a2) = true := decide_eq_true c5
  clear c5
  obtain rfl := Option.some.inj H
  go_enter Tryz.func88, Tryz.ntmps88
  go_wp2
  go_ret
  exact ⟨Sh.es, Sh.dr⟩
 ·rw [if_neg c5] at H
  have c5b0 : decide ((IntKind.u64.wrap (a0)) ≤ a2) = false := decide_eq_false c5
  clear c5
  have H' := am_ H
  clear H
  go_enter Tryz.func88, Tryz.ntmps88
  go_wp2
  go_loopg [1, 2] k (fun kq v1 v2 w' => ∃ (x1_1 : Int) (x2_1 : Int), v1 = .int .u64 x1_1 ∧ v2 = .int .u64 x2_1 ∧ Aside0 (spec_l1Shift.l0 kq a0 x1_1 x2_1 a3 = some r) ∧ Aside0 (kq ≤ k) ∧ Drawn0 w w')
  case atStart => exact ⟨(a1), (a2), (Sh.es), (Sh.es), H', ⟨Nat.le_refl _⟩, Sh.dr⟩
  case round =>
   clear H'
   obtain ⟨x1_1, x2_1, rfl, rfl, HA, HK1, ⟨m1, rfl⟩⟩ := hrel
   cases gk with
   | zero => exact absurd HA.out (by simp [spec_l1Shift.l0])
   | succ k1 =>
    have H := HA.out
    clear HA
    simp only [spec_l1Shift.l0] at H
    by_cases c6 : x2_1 > 0
    ·rw [if_pos c6] at H
     have c6b0 : decide (0 < x2_1) = true := decide_eq_true c6
     clear c6
     by_cases c7 : a3 = true
     ·subst c7
      rw [if_pos rfl] at H
      obtain ⟨t162, A8, H⟩ := Sh.ba H
      have H' := am_ H
      clear H
      go_wp2_with (first | ((with_reducible refine Sh.k 76 ?_); refine Sh.gD (some 21) Tryz.func76 #[.int .i64 a0, .int .u64 (IntKind.u64.wrap (x1_1 * 2))] (spec_l1Cut.calls k1 a0 (IntKind.u64.wrap (x1_1 * 2)) t162 _ A8.out) fun nd => ?_))
      go_roundg k1
      case measure => have := HK1.out; omega
      case rel => exact ⟨(t162), (IntKind.u64.wrap (x2_1 - 1)), (Sh.es), (Sh.es), H', ⟨by have := HK1.out; omega⟩, Sh.dr⟩
     ·replace c7 := Bool.eq_false_iff.mpr c7
      subst c7
      rw [Sh.nf] at H
      have H' := am_ H
      clear H
      go_wp2
      go_roundg k1
      case measure => have := HK1.out; omega
      case rel => exact ⟨(x1_1 / 2), (IntKind.u64.wrap (x2_1 - 1)), (Sh.es), (Sh.es), H', ⟨by have := HK1.out; omega⟩, Sh.dr⟩
    ·rw [if_neg c6] at H
     have c6b0 : decide (0 < x2_1) = false := decide_eq_false c6
     clear c6
     obtain rfl := Option.some.inj H
     go_wp2
     go_ret
     exact ⟨Sh.es, Sh.dr⟩
def spec_l2Bool.f (a0 : Bool) : Option (Int) := if a0 = true then (some 1) else (some 0)
theorem spec_l2Bool.calls (a0 : Bool) (r : Int) (w : World) (h : spec_l2Bool.f a0 = some r) :
  Calls Tryz.prog 89 #[.bool a0] w fun e w' => e = .returned (.int .u64 r) ∧ Drawn0 w w' := by
 have H := h
 clear h
 unfold spec_l2Bool.f at H
 by_cases c2 : a0 = true
 ·subst c2
  rw [if_pos rfl] at H
  obtain rfl := Option.some.inj H
  go_enter Tryz.func89, Tryz.ntmps89
  go_wp2
  go_ret
  exact ⟨Sh.es, Sh.dr⟩
 ·replace c2 := Bool.eq_false_iff.mpr c2
  subst c2
  rw [Sh.nf] at H
  obtain rfl := Option.some.inj H
  go_enter Tryz.func89, Tryz.ntmps89
  go_wp2
  go_ret
  exact ⟨Sh.es, Sh.dr⟩
def spec_l1Signed.f (k : Nat) (a0 : Int) (a1 : Int) : Option (Int) := if 0 ≤ (IntKind.u64.wrap (wrap64 (a0 - 1))) then (if (Go.bits .and .u64 (shr .u64 a1 (IntKind.u64.wrap (wrap64 (a0 - 1)))) 1) = 1 then ((spec_l1Cut.f k a0 18446744073709551615).bind fun t163 => (some (wrap64 (Go.bits .or .u64 a1 (Go.bits .xor .u64 18446744073709551615 t163))))) else (some (wrap64 (a1)))) else (none)
theorem spec_l1Signed.mono : ∀ a0 a1 k, LeO (spec_l1Signed.f k a0 a1) (spec_l1Signed.f (k + 1) a0 a1) := by
 intro a0 a1 k
 unfold spec_l1Signed.f
 repeat' with_reducible first | apply spec_l1Cut.mono | exact LeO.refl _ | exact LeO.none _ | apply LeO.ite | refine LeO.bind ?_ fun _ => ?_
theorem spec_l1Signed.calls (k : Nat) (a0 : Int) (a1 : Int) (r : Int) (w : World) (h : spec_l1Signed.f k a0 a1 = some r) :
  Calls Tryz.prog 90 #[.int .i64 a0, .int .u64 a1] w fun e w' => e = .returned (.int .i64 r) ∧ Drawn0 w w' := by
 have H := h
 clear h
 unfold spec_l1Signed.f at H
 obtain ⟨ji3, hj1⟩ : ∃ j_ : Int, (IntKind.u64.wrap (wrap64 (a0 - 1))) = j_ := ⟨_, rfl⟩
 replace H : (if 0 ≤ (ji3) then (if (Go.bits .and .u64 (shr .u64 a1 (ji3)) 1) = 1 then ((spec_l1Cut.f k a0 18446744073709551615).bind fun t163 => (some (wrap64 (Go.bits .or .u64 a1 (Go.bits .xor .u64 18446744073709551615 t163))))) else (some (wrap64 (a1)))) else (none)) = some r := by first | (rw [hj1] at H; exact H) | (simp only [hj1] at H ⊢; exact H)
 by_cases c4 : 0 ≤ (ji3)
 ·rw [if_pos c4] at H
  have c4b0 := eq_true c4
  have c4b1 := decide_eq_true c4
  clear c4
  obtain ⟨ji5, hj2⟩ : ∃ j_ : Int, (shr .u64 a1 (ji3)) = j_ := ⟨_, rfl⟩
  replace H : (if (Go.bits .and .u64 (ji5) 1) = 1 then ((spec_l1Cut.f k a0 18446744073709551615).bind fun t163 => (some (wrap64 (Go.bits .or .u64 a1 (Go.bits .xor .u64 18446744073709551615 t163))))) else (some (wrap64 (a1)))) = some r := by first | (rw [hj2] at H; exact H) | (simp only [hj2] at H ⊢; exact H)
  have hji5_ : (a1 / 2 ^ min (ji3).toNat 64) = ji5 := hj2
  have hji5z : (ji3) ≤ 64 → (a1 / 2 ^ (ji3).toNat) = ji5 := shr_small hj2
  by_cases c6 : (Go.bits .and .u64 (ji5) 1) = 1
  ·rw [if_pos c6] at H
   have c6b0 : ((Go.bits .and .u64 (ji5) 1) == 1) = true := beq_iff_eq.mpr c6
   have c6b1 : ((Go.bits .and .u64 (ji5) 1) != 1) = false := bne_eq_false_iff_eq.mpr c6
   clear c6
   obtain ⟨t163, A7, H⟩ := Sh.ba H
   obtain rfl := Option.some.inj H
   go_enter Tryz.func90, Tryz.ntmps90
   go_wp2_with (first | ((with_reducible refine Sh.k 76 ?_); refine Sh.gD (some 14) Tryz.func76 #[.int .i64 a0, .int .u64 18446744073709551615] (spec_l1Cut.calls k a0 18446744073709551615 t163 _ A7.out) fun nd => ?_))
   go_ret
   exact ⟨by first | rfl | (simp; done) | (simp only [← hj1, ← hj2] <;> (first | rfl | simp)) | (simp [*]; done), Sh.dr⟩
  ·rw [if_neg c6] at H
   have c6b0 : ((Go.bits .and .u64 (ji5) 1) == 1) = false := beq_eq_false_iff_ne.mpr c6
   have c6b1 : ((Go.bits .and .u64 (ji5) 1) != 1) = true := bne_iff_ne.mpr c6
   obtain rfl := Option.some.inj H
   go_enter Tryz.func90, Tryz.ntmps90
   go_wp2
   go_ret
   exact ⟨by first | rfl | (simp; done) | (simp only [← hj1, ← hj2] <;> (first | rfl | simp)) | (simp [*]; done), Sh.dr⟩
 ·rw [if_neg c4] at H
  exact absurd H (by simp)
mutual
def spec_l2Do.j0 : Nat → Int → Int → Int → Int → Bool → Option (Int)
 | 0, _, _, _, _, _ => none
 | k + 1, x0, x2, x3, x20, x48 => if x48 = true then (some (Go.bits .and .u64 x2 x3)) else (if x20 = 9 then (spec_l2Do.j1 k x0 x2 x3 x20 (x20 == 9)) else (spec_l2Do.j1 k x0 x2 x3 x20 (x20 == 18)))
def spec_l2Do.j1 : Nat → Int → Int → Int → Int → Bool → Option (Int)
 | 0, _, _, _, _, _ => none
 | k + 1, x0, x2, x3, x20, x54 => if x54 = true then (some (Go.bits .or .u64 x2 x3)) else (if x20 = 10 then (some (Go.bits .xor .u64 x2 x3)) else (if x20 = 11 then ((spec_l1Shift.f k x0 x2 x3 true).bind fun t170 => (some t170)) else (if x20 = 12 then ((spec_l1Shift.f k x0 x2 x3 false).bind fun t171 => (some t171)) else (if x20 = 14 then ((spec_l2Bool.f (x2 == x3)).bind fun t172 => (some t172)) else (if x20 = 15 then ((spec_l2Bool.f (decide (x2 < x3))).bind fun t173 => (some t173)) else (if x20 = 16 then ((spec_l1Signed.f k x0 x2).bind fun t174 => ((spec_l1Signed.f k x0 x3).bind fun t175 => ((spec_l2Bool.f (decide (t174 < t175))).bind fun t176 => (some t176)))) else (some 0)))))))
end
def spec_l2Do.f (k : Nat) (a0 : Int) (a1 : Int) (a2 : Int) (a3 : Int) : Option (Int) := (spec_DivWord.f k a0 a2 a3).bind fun bt164 => (if a1 = 3 then ((spec_l1Cut.f k a0 (IntKind.u64.wrap (a2 + a3))).bind fun t167 => (some t167)) else (if a1 = 4 then ((spec_l1Cut.f k a0 (IntKind.u64.wrap (a2 - a3))).bind fun t168 => (some t168)) else (if a1 = 5 then ((spec_l1Cut.f k a0 (IntKind.u64.wrap (a2 * a3))).bind fun t169 => (some t169)) else (if a1 = 6 then (some bt164.1) else (if a1 = 7 then (some bt164.2.1) else (if a1 = 8 then (spec_l2Do.j0 k a0 a2 a3 a1 (a1 == 8)) else (spec_l2Do.j0 k a0 a2 a3 a1 (a1 == 17))))))))
theorem spec_l2Do.mono_l : ∀ k, (∀ y0 y1 y2 y3 y4, LeO (spec_l2Do.j0 k y0 y1 y2 y3 y4) (spec_l2Do.j0 (k + 1) y0 y1 y2 y3 y4)) ∧ (∀ y0 y1 y2 y3 y4, LeO (spec_l2Do.j1 k y0 y1 y2 y3 y4) (spec_l2Do.j1 (k + 1) y0 y1 y2 y3 y4))
 | 0 => ⟨fun _ _ _ _ _ r h => by simp [spec_l2Do.j0] at h, fun _ _ _ _ _ r h => by simp [spec_l2Do.j1] at h⟩
 | k + 1 => by
  obtain ⟨ih0, ih1⟩ := spec_l2Do.mono_l k
  and_intros <;> intros
  all_goals (first | unfold spec_l2Do.j0 | unfold spec_l2Do.j1)
  all_goals repeat' with_reducible first | apply ih0 | apply ih1 | apply spec_DivWord.mono | apply spec_l1Cut.mono | apply spec_l1Shift.mono | apply spec_l1Signed.mono | exact LeO.refl _ | exact LeO.none _ | apply LeO.ite | refine LeO.bind ?_ fun _ => ?_
theorem spec_l2Do.mono : ∀ a0 a1 a2 a3 k, LeO (spec_l2Do.f k a0 a1 a2 a3) (spec_l2Do.f (k + 1) a0 a1 a2 a3) := by
 intro a0 a1 a2 a3 k
 obtain ⟨ih0, ih1⟩ := spec_l2Do.mono_l k
 unfold spec_l2Do.f
 repeat' with_reducible first | apply ih0 | apply ih1 | apply spec_DivWord.mono | apply spec_l1Cut.mono | apply spec_l1Shift.mono | apply spec_l1Signed.mono | exact LeO.refl _ | exact LeO.none _ | apply LeO.ite | refine LeO.bind ?_ fun _ => ?_
theorem spec_l2Do.calls (k : Nat) (a0 : Int) (a1 : Int) (a2 : Int) (a3 : Int) (r : Int) (w : World) (h : spec_l2Do.f k a0 a1 a2 a3 = some r) :
  Calls Tryz.prog 78 #[.int .i64 a0, .int .i64 a1, .int .u64 a2, .int .u64 a3] w fun e w' => e = .returned (.int .u64 r) ∧ Drawn0 w w' := by
 have H := h
 clear h
 unfold spec_l2Do.f at H
 obtain ⟨⟨t164, t165, t166⟩, A50, H⟩ := Sh.bd H
 have A5 := am_ A50
 clear A50
 by_cases c6 : a1 = 3
 ·rw [if_pos c6] at H
  have c6b0 : (a1 == 3) = true := beq_iff_eq.mpr c6
  have c6b1 : (a1 != 3) = false := bne_eq_false_iff_eq.mpr c6
  clear c6
  obtain ⟨t167, A7, H⟩ := Sh.ba H
  obtain rfl := Option.some.inj H
  go_enter Tryz.func78, Tryz.ntmps78
  go_wp2_with (first | ((with_reducible refine Sh.k 87 ?_); refine Sh.gD (some 16) Tryz.func87 #[.int .i64 a0, .int .u64 a2, .int .u64 a3] (spec_DivWord.calls k a0 a2 a3 t164 t165 t166 _ A5.out) fun nd => ?_) | ((with_reducible refine Sh.k 76 ?_); refine Sh.gD (some 27) Tryz.func76 #[.int .i64 a0, .int .u64 (IntKind.u64.wrap (a2 + a3))] (spec_l1Cut.calls k a0 (IntKind.u64.wrap (a2 + a3)) t167 _ A7.out) fun nd => ?_))
  go_ret
  exact ⟨Sh.es, Sh.dr⟩
 ·rw [if_neg c6] at H
  have c6b0 : (a1 == 3) = false := beq_eq_false_iff_ne.mpr c6
  have c6b1 : (a1 != 3) = true := bne_iff_ne.mpr c6
  by_cases c8 : a1 = 4
  ·rw [if_pos c8] at H
   have c8b0 : (a1 == 4) = true := beq_iff_eq.mpr c8
   have c8b1 : (a1 != 4) = false := bne_eq_false_iff_eq.mpr c8
   clear c8
   obtain ⟨t168, A9, H⟩ := Sh.ba H
   obtain rfl := Option.some.inj H
   go_enter Tryz.func78, Tryz.ntmps78
   go_wp2_with (first | ((with_reducible refine Sh.k 87 ?_); refine Sh.gD (some 16) Tryz.func87 #[.int .i64 a0, .int .u64 a2, .int .u64 a3] (spec_DivWord.calls k a0 a2 a3 t164 t165 t166 _ A5.out) fun nd => ?_) | ((with_reducible refine Sh.k 76 ?_); refine Sh.gD (some 34) Tryz.func76 #[.int .i64 a0, .int .u64 (IntKind.u64.wrap (a2 - a3))] (spec_l1Cut.calls k a0 (IntKind.u64.wrap (a2 - a3)) t168 _ A9.out) fun nd => ?_))
   go_ret
   exact ⟨Sh.es, Sh.dr⟩
  ·rw [if_neg c8] at H
   have c8b0 : (a1 == 4) = false := beq_eq_false_iff_ne.mpr c8
   have c8b1 : (a1 != 4) = true := bne_iff_ne.mpr c8
   by_cases c10 : a1 = 5
   ·rw [if_pos c10] at H
    have c10b0 : (a1 == 5) = true := beq_iff_eq.mpr c10
    have c10b1 : (a1 != 5) = false := bne_eq_false_iff_eq.mpr c10
    clear c10
    obtain ⟨t169, A11, H⟩ := Sh.ba H
    obtain rfl := Option.some.inj H
    go_enter Tryz.func78, Tryz.ntmps78
    go_wp2_with (first | ((with_reducible refine Sh.k 87 ?_); refine Sh.gD (some 16) Tryz.func87 #[.int .i64 a0, .int .u64 a2, .int .u64 a3] (spec_DivWord.calls k a0 a2 a3 t164 t165 t166 _ A5.out) fun nd => ?_) | ((with_reducible refine Sh.k 76 ?_); refine Sh.gD (some 41) Tryz.func76 #[.int .i64 a0, .int .u64 (IntKind.u64.wrap (a2 * a3))] (spec_l1Cut.calls k a0 (IntKind.u64.wrap (a2 * a3)) t169 _ A11.out) fun nd => ?_))
    go_ret
    exact ⟨Sh.es, Sh.dr⟩
   ·rw [if_neg c10] at H
    have c10b0 : (a1 == 5) = false := beq_eq_false_iff_ne.mpr c10
    have c10b1 : (a1 != 5) = true := bne_iff_ne.mpr c10
    by_cases c12 : a1 = 6
    ·rw [if_pos c12] at H
     have c12b0 : (a1 == 6) = true := beq_iff_eq.mpr c12
     have c12b1 : (a1 != 6) = false := bne_eq_false_iff_eq.mpr c12
     clear c12
     obtain rfl := Option.some.inj H
     go_enter Tryz.func78, Tryz.ntmps78
     go_wp2_with (first | ((with_reducible refine Sh.k 87 ?_); refine Sh.gD (some 16) Tryz.func87 #[.int .i64 a0, .int .u64 a2, .int .u64 a3] (spec_DivWord.calls k a0 a2 a3 t164 t165 t166 _ A5.out) fun nd => ?_))
     go_ret
     exact ⟨Sh.es, Sh.dr⟩
    ·rw [if_neg c12] at H
     have c12b0 : (a1 == 6) = false := beq_eq_false_iff_ne.mpr c12
     have c12b1 : (a1 != 6) = true := bne_iff_ne.mpr c12
     by_cases c13 : a1 = 7
     ·rw [if_pos c13] at H
      have c13b0 : (a1 == 7) = true := beq_iff_eq.mpr c13
      have c13b1 : (a1 != 7) = false := bne_eq_false_iff_eq.mpr c13
      clear c13
      obtain rfl := Option.some.inj H
      go_enter Tryz.func78, Tryz.ntmps78
      go_wp2_with (first | ((with_reducible refine Sh.k 87 ?_); refine Sh.gD (some 16) Tryz.func87 #[.int .i64 a0, .int .u64 a2, .int .u64 a3] (spec_DivWord.calls k a0 a2 a3 t164 t165 t166 _ A5.out) fun nd => ?_))
      go_ret
      exact ⟨Sh.es, Sh.dr⟩
     ·rw [if_neg c13] at H
      have c13b0 : (a1 == 7) = false := beq_eq_false_iff_ne.mpr c13
      have c13b1 : (a1 != 7) = true := bne_iff_ne.mpr c13
      have HC14 := am_ H
      clear H
      go_enter Tryz.func78, Tryz.ntmps78
      go_upto_if 48 with (first | ((with_reducible refine Sh.k 87 ?_); refine Sh.gD (some 16) Tryz.func87 #[.int .i64 a0, .int .u64 a2, .int .u64 a3] (spec_DivWord.calls k a0 a2 a3 t164 t165 t166 _ A5.out) fun nd => ?_))
      (try simp only [Act.put, List.setIfInBounds_toArray, List.set_cons_zero, List.set_cons_succ])
      go_cut [48] (fun v48 wc => ∃ (kq : Nat) (x48_13 : Bool), v48 = .bool x48_13 ∧ Aside0 (spec_l2Do.j0 kq a0 a2 a3 a1 x48_13 = some r) ∧ Aside0 (kq ≤ k) ∧ Drawn0 w wc)
      case first =>
       have H := HC14.out
       clear HC14
       by_cases c15 : a1 = 8
       ·rw [if_pos c15] at H
        have c15b0 : (a1 == 8) = true := beq_iff_eq.mpr c15
        have c15b1 : (a1 != 8) = false := bne_eq_false_iff_eq.mpr c15
        clear c15
        first | rw [c15b0] | (simp only [i64_w, i32_w]; rw [c15b0]) | skip
        have H' := am_ H
        clear H
        go_wp2
        go_meet
        case rel => exact ⟨_, ((a1 == 8)), (Sh.es), H', ⟨Sh.om⟩, Sh.dr⟩
       ·rw [if_neg c15] at H
        have c15b0 : (a1 == 8) = false := beq_eq_false_iff_ne.mpr c15
        have c15b1 : (a1 != 8) = true := bne_iff_ne.mpr c15
        first | rw [c15b0] | (simp only [i64_w, i32_w]; rw [c15b0]) | skip
        have H' := am_ H
        clear H
        go_wp2
        go_meet
        case rel => exact ⟨_, ((a1 == 17)), (Sh.es), H', ⟨Sh.om⟩, Sh.dr⟩
      case rest =>
       clear HC14
       obtain ⟨kq, x48_13, rfl, HA, HJ13, ⟨mc13, rfl⟩⟩ := hcut
       cases kq with
       | zero => exact absurd HA.out (by simp [spec_l2Do.j0])
       | succ kj13 =>
        have H := HA.out
        clear HA
        simp only [spec_l2Do.j0] at H
        by_cases c16 : x48_13 = true
        ·subst c16
         rw [if_pos rfl] at H
         obtain rfl := Option.some.inj H
         go_wp2
         go_ret
         exact ⟨Sh.es, Sh.dr⟩
        ·replace c16 := Bool.eq_false_iff.mpr c16
         subst c16
         rw [Sh.nf] at H
         have HC17 := am_ H
         clear H
         go_upto_if 54 with (fail)
         go_cut [54] (fun v54 wc => ∃ (kq : Nat) (x54_16 : Bool), v54 = .bool x54_16 ∧ Aside0 (spec_l2Do.j1 kq a0 a2 a3 a1 x54_16 = some r) ∧ Aside0 (kq ≤ kj13) ∧ Drawn0 w wc)
         case first =>
          have H := HC17.out
          clear HC17
          by_cases c18 : a1 = 9
          ·rw [if_pos c18] at H
           have c18b0 : (a1 == 9) = true := beq_iff_eq.mpr c18
           have c18b1 : (a1 != 9) = false := bne_eq_false_iff_eq.mpr c18
           clear c18
           first | rw [c18b0] | (simp only [i64_w, i32_w]; rw [c18b0]) | skip
           have H' := am_ H
           clear H
           go_wp2
           go_meet
           case rel => exact ⟨_, ((a1 == 9)), (Sh.es), H', ⟨by have := HJ13.out; first | omega | exact Nat.le_refl _⟩, Sh.dr⟩
          ·rw [if_neg c18] at H
           have c18b0 : (a1 == 9) = false := beq_eq_false_iff_ne.mpr c18
           have c18b1 : (a1 != 9) = true := bne_iff_ne.mpr c18
           first | rw [c18b0] | (simp only [i64_w, i32_w]; rw [c18b0]) | skip
           have H' := am_ H
           clear H
           go_wp2
           go_meet
           case rel => exact ⟨_, ((a1 == 18)), (Sh.es), H', ⟨by have := HJ13.out; first | omega | exact Nat.le_refl _⟩, Sh.dr⟩
         case rest =>
          clear HC17
          obtain ⟨kq, x54_16, rfl, HA, HJ16, ⟨mc16, rfl⟩⟩ := hcut
          cases kq with
          | zero => exact absurd HA.out (by simp [spec_l2Do.j1])
          | succ kj16 =>
           have H := HA.out
           clear HA
           simp only [spec_l2Do.j1] at H
           by_cases c19 : x54_16 = true
           ·subst c19
            rw [if_pos rfl] at H
            obtain rfl := Option.some.inj H
            go_wp2
            go_ret
            exact ⟨Sh.es, Sh.dr⟩
           ·replace c19 := Bool.eq_false_iff.mpr c19
            subst c19
            rw [Sh.nf] at H
            by_cases c20 : a1 = 10
            ·rw [if_pos c20] at H
             have c20b0 : (a1 == 10) = true := beq_iff_eq.mpr c20
             have c20b1 : (a1 != 10) = false := bne_eq_false_iff_eq.mpr c20
             clear c20
             obtain rfl := Option.some.inj H
             go_wp2
             go_ret
             exact ⟨Sh.es, Sh.dr⟩
            ·rw [if_neg c20] at H
             have c20b0 : (a1 == 10) = false := beq_eq_false_iff_ne.mpr c20
             have c20b1 : (a1 != 10) = true := bne_iff_ne.mpr c20
             by_cases c21 : a1 = 11
             ·rw [if_pos c21] at H
              have c21b0 : (a1 == 11) = true := beq_iff_eq.mpr c21
              have c21b1 : (a1 != 11) = false := bne_eq_false_iff_eq.mpr c21
              clear c21
              obtain ⟨t170, A22, H⟩ := Sh.ba H
              obtain rfl := Option.some.inj H
              go_wp2_with (first | ((with_reducible refine Sh.k 88 ?_); refine Sh.gD (some 70) Tryz.func88 #[.int .i64 a0, .int .u64 a2, .int .u64 a3, .bool true] (spec_l1Shift.calls kj16 a0 a2 a3 true t170 _ A22.out) fun nd => ?_))
              go_ret
              exact ⟨Sh.es, Sh.dr⟩
             ·rw [if_neg c21] at H
              have c21b0 : (a1 == 11) = false := beq_eq_false_iff_ne.mpr c21
              have c21b1 : (a1 != 11) = true := bne_iff_ne.mpr c21
              by_cases c23 : a1 = 12
              ·rw [if_pos c23] at H
               have c23b0 : (a1 == 12) = true := beq_iff_eq.mpr c23
               have c23b1 : (a1 != 12) = false := bne_eq_false_iff_eq.mpr c23
               clear c23
               obtain ⟨t171, A24, H⟩ := Sh.ba H
               obtain rfl := Option.some.inj H
               go_wp2_with (first | ((with_reducible refine Sh.k 88 ?_); refine Sh.gD (some 76) Tryz.func88 #[.int .i64 a0, .int .u64 a2, .int .u64 a3, .bool false] (spec_l1Shift.calls kj16 a0 a2 a3 false t171 _ A24.out) fun nd => ?_))
               go_ret
               exact ⟨Sh.es, Sh.dr⟩
              ·rw [if_neg c23] at H
               have c23b0 : (a1 == 12) = false := beq_eq_false_iff_ne.mpr c23
               have c23b1 : (a1 != 12) = true := bne_iff_ne.mpr c23
               by_cases c25 : a1 = 14
               ·rw [if_pos c25] at H
                have c25b0 : (a1 == 14) = true := beq_iff_eq.mpr c25
                have c25b1 : (a1 != 14) = false := bne_eq_false_iff_eq.mpr c25
                clear c25
                obtain ⟨t172, A26, H⟩ := Sh.ba H
                obtain rfl := Option.some.inj H
                go_wp2_with (first | ((with_reducible refine Sh.k 89 ?_); refine Sh.gD (some 82) Tryz.func89 #[.bool (a2 == a3)] (spec_l2Bool.calls (a2 == a3) t172 _ A26.out) fun nd => ?_))
                go_ret
                exact ⟨Sh.es, Sh.dr⟩
               ·rw [if_neg c25] at H
                have c25b0 : (a1 == 14) = false := beq_eq_false_iff_ne.mpr c25
                have c25b1 : (a1 != 14) = true := bne_iff_ne.mpr c25
                by_cases c27 : a1 = 15
                ·rw [if_pos c27] at H
                 have c27b0 : (a1 == 15) = true := beq_iff_eq.mpr c27
                 have c27b1 : (a1 != 15) = false := bne_eq_false_iff_eq.mpr c27
                 clear c27
                 obtain ⟨t173, A28, H⟩ := Sh.ba H
                 obtain rfl := Option.some.inj H
                 go_wp2_with (first | ((with_reducible refine Sh.k 89 ?_); refine Sh.gD (some 88) Tryz.func89 #[.bool (decide (a2 < a3))] (spec_l2Bool.calls (decide (a2 < a3)) t173 _ A28.out) fun nd => ?_))
                 go_ret
                 exact ⟨Sh.es, Sh.dr⟩
                ·rw [if_neg c27] at H
                 have c27b0 : (a1 == 15) = false := beq_eq_false_iff_ne.mpr c27
                 have c27b1 : (a1 != 15) = true := bne_iff_ne.mpr c27
                 by_cases c29 : a1 = 16
                 ·rw [if_pos c29] at H
                  have c29b0 : (a1 == 16) = true := beq_iff_eq.mpr c29
                  have c29b1 : (a1 != 16) = false := bne_eq_false_iff_eq.mpr c29
                  clear c29
                  obtain ⟨t174, A30, H⟩ := Sh.ba H
                  obtain ⟨t175, A31, H⟩ := Sh.ba H
                  obtain ⟨t176, A32, H⟩ := Sh.ba H
                  obtain rfl := Option.some.inj H
                  go_wp2_with (first | ((with_reducible refine Sh.k 90 ?_); refine Sh.gD (some 93) Tryz.func90 #[.int .i64 a0, .int .u64 a2] (spec_l1Signed.calls kj16 a0 a2 t174 _ A30.out) fun nd => ?_) | ((with_reducible refine Sh.k 90 ?_); refine Sh.gD (some 96) Tryz.func90 #[.int .i64 a0, .int .u64 a3] (spec_l1Signed.calls kj16 a0 a3 t175 _ A31.out) fun nd => ?_) | ((with_reducible refine Sh.k 89 ?_); refine Sh.gD (some 98) Tryz.func89 #[.bool (decide (t174 < t175))] (spec_l2Bool.calls (decide (t174 < t175)) t176 _ A32.out) fun nd => ?_))
                  go_ret
                  exact ⟨Sh.es, Sh.dr⟩
                 ·rw [if_neg c29] at H
                  have c29b0 : (a1 == 16) = false := beq_eq_false_iff_ne.mpr c29
                  have c29b1 : (a1 != 16) = true := bne_iff_ne.mpr c29
                  obtain rfl := Option.some.inj H
                  go_wp2
                  go_ret
                  exact ⟨Sh.es, Sh.dr⟩
mutual
def spec_l2From.l0 : Nat → List (S80) → Int → Int → Option (Int)
 | 0, _, _, _ => none
 | k + 1, x0, x5, x8 => if x5 > 0 then ((spec_l2From.f k x0 (wrap64 (x8 - 1))).bind fun t181 => (spec_l2From.l0 k x0 (wrap64 (x5 - 1)) t181)) else (some x8)
def spec_l2From.f : Nat → List (S80) → Int → Option (Int)
 | 0, _, _ => none
 | k + 1, l0, a1 => if 0 ≤ a1 then (if a1 < (l0.length : Int) then ((spec_l2Need.f k ((rd_T80 l0 a1).f0)).bind fun bt178 => (spec_l2From.l0 k l0 bt178.1 a1)) else (none)) else (none)
end
theorem spec_l2From.mono_l : ∀ k, (∀ y0 y1, LeO (spec_l2From.f k y0 y1) (spec_l2From.f (k + 1) y0 y1)) ∧ (∀ y0 y1 y2, LeO (spec_l2From.l0 k y0 y1 y2) (spec_l2From.l0 (k + 1) y0 y1 y2))
 | 0 => ⟨fun _ _ r h => by simp [spec_l2From.f] at h, fun _ _ _ r h => by simp [spec_l2From.l0] at h⟩
 | k + 1 => by
  obtain ⟨ih0, ih1⟩ := spec_l2From.mono_l k
  and_intros <;> intros
  all_goals (first | unfold spec_l2From.f | unfold spec_l2From.l0)
  all_goals repeat' with_reducible first | apply ih0 | apply ih1 | apply spec_l2Need.mono | exact LeO.refl _ | exact LeO.none _ | apply LeO.ite | refine LeO.bind ?_ fun _ => ?_
theorem spec_l2From.mono : ∀ a0 a1 k, LeO (spec_l2From.f k a0 a1) (spec_l2From.f (k + 1) a0 a1) := by
 intro a0 a1 k
 obtain ⟨ih0, ih1⟩ := spec_l2From.mono_l k
 exact ih0 a0 a1
theorem spec_l2From.calls (k : Nat) : ∀ (A0 : Option Addr) (c0 : Nat) (l0 : List (S80)) (a1 : Int) (r : Int) (w : World) (hr0 : Kd.C k80 w A0 l0.length l0) (hc0 : l0.length ≤ c0) (h : spec_l2From.f k l0 a1 = some r),
  Calls Tryz.prog 79 #[.slice A0 l0.length c0, .int .i64 a1] w fun e w' => e = .returned (.int .i64 r) ∧ Drawn0 w w' := by
 induction k using Nat.strongRecOn with
 | _ k ih =>
 intro A0 c0 l0 a1 r w hr0 hc0 h
 cases k with
 | zero => exact absurd h (by simp [spec_l2From.f])
 | succ k =>
 simp only [spec_l2From.f] at h
 have HR0 := am_ hr0
 have HC0 := am_ hc0
 clear hr0 hc0
 have H : (if 0 ≤ a1 then (if a1 < (l0.length : Int) then ((spec_l2Need.f k ((rd_T80 l0 a1).f0)).bind fun bt178 => (spec_l2From.l0 k l0 bt178.1 a1)) else (none)) else (none)) = some r := h
 clear h
 by_cases c3 : 0 ≤ a1
 ·rw [if_pos c3] at H
  have c3b0 := decide_eq_true c3
  clear c3
  by_cases c4 : a1 < (l0.length : Int)
  ·rw [if_pos c4] at H
   have c4b0 := decide_eq_true c4
   clear c4
   obtain ⟨⟨t178, t179, t180⟩, A50, H⟩ := Sh.bd H
   have A5 := am_ A50
   clear A50
   have H' := am_ H
   clear H
   have p177 : 0 ≤ (a1 : Int) := Sh.od
   have q177 : a1 < (l0.length : Int) := Sh.od
   obtain ⟨ad177, e177, hx177_0, hx177_1⟩ := at_T80 HR0.out a1 p177 q177
   cases e177
   replace p177 := eq_true p177
   replace q177 := eq_true q177
   go_enter Tryz.func79, Tryz.ntmps79
   go_wp2_with (first | ((with_reducible refine Sh.k 74 ?_); refine Sh.gD (some 15) Tryz.func74 #[.int .i64 ((rd_T80 l0 a1).f0)] (spec_l2Need.calls k ((rd_T80 l0 a1).f0) t178 t179 t180 _ A5.out) fun nd => ?_))
   go_loopg [5, 8] k (fun kq v5 v8 w' => ∃ (x5_1 : Int) (x8_1 : Int), v5 = .int .i64 x5_1 ∧ v8 = .int .i64 x8_1 ∧ Aside0 (spec_l2From.l0 kq l0 x5_1 x8_1 = some r) ∧ Aside0 (kq ≤ k) ∧ Drawn0 w w')
   case atStart => exact ⟨(t178), (a1), (Sh.es), (Sh.es), H', ⟨Nat.le_refl _⟩, Sh.dr⟩
   case round =>
    clear H'
    try clear hx1
    try clear hx177_0
    try clear hx177_1
    obtain ⟨x5_1, x8_1, rfl, rfl, HA, HK1, ⟨m1, rfl⟩⟩ := hrel
    cases gk with
    | zero => exact absurd HA.out (by simp [spec_l2From.l0])
    | succ k1 =>
     have H := HA.out
     clear HA
     simp only [spec_l2From.l0] at H
     by_cases c6 : x5_1 > 0
     ·rw [if_pos c6] at H
      have c6b0 : decide (0 < x5_1) = true := decide_eq_true c6
      clear c6
      obtain ⟨t181, A7, H⟩ := Sh.ba H
      have H' := am_ H
      clear H
      go_wp2_with (first | ((with_reducible refine Sh.k 79 ?_); refine Sh.gL (some 27) Tryz.func79 #[.slice (some ad177) l0.length c0, .int .i64 (wrap64 (x8_1 - 1))] (h := ?_); (with_reducible refine (ih k1 (by have := HK1.out; omega) _ _ l0 (wrap64 (x8_1 - 1)) t181 _ ?side1 ?side2 A7.out).mono ?_); (case side1 => repeat (first | exact HR0.out | (with_reducible first | refine Kd.C_alloc ?_ _ | refine Kd.C_drewN ?_ _ | refine Kd.C_drew ?_))); (case side2 => exact HC0.out); rintro e w' ⟨rfl, ⟨nd, rfl⟩⟩; refine ⟨_, rfl, ?_⟩))
      go_roundg k1
      case measure => have := HK1.out; omega
      case rel => exact ⟨(wrap64 (x5_1 - 1)), (t181), (Sh.es), (Sh.es), H', ⟨by have := HK1.out; omega⟩, Sh.dr⟩
     ·rw [if_neg c6] at H
      have c6b0 : decide (0 < x5_1) = false := decide_eq_false c6
      clear c6
      obtain rfl := Option.some.inj H
      go_wp2
      go_ret
      exact ⟨Sh.es, Sh.dr⟩
  ·rw [if_neg c4] at H
   exact absurd H (by simp)
 ·rw [if_neg c3] at H
  exact absurd H (by simp)
def spec_l2Value.f : Nat → Int → List (S80) → Int → List Int → Option (Int)
 | 0, _, _, _, _ => none
 | k + 1, a0, l1, a2, l3 => if 0 ≤ a2 then (if a2 < (l1.length : Int) then ((spec_l2Need.f k ((rd_T80 l1 a2).f0)).bind fun bt184 => (if ((rd_T80 l1 a2).f0) = 2 then (if 0 ≤ ((rd_T80 l1 a2).f1) then (if ((rd_T80 l1 a2).f1) < (l3.length : Int) then (some (rd l3 ((rd_T80 l1 a2).f1))) else (none)) else (none)) else (if bt184.1 = 0 then (some ((rd_T80 l1 a2).f1)) else (if ((rd_T80 l1 a2).f0) = 13 then ((spec_l2Value.f k a0 l1 (wrap64 (a2 - 1)) l3).bind fun t188 => ((spec_l1Cut.f k a0 (Go.bits .xor .u64 18446744073709551615 t188)).bind fun t189 => (some t189))) else (if ((rd_T80 l1 a2).f0) = 19 then ((spec_l2Value.f k a0 l1 (wrap64 (a2 - 1)) l3).bind fun t190 => (some (IntKind.u64.wrap (1 - t190)))) else ((spec_l2From.f k l1 (wrap64 (a2 - 1))).bind fun t191 => ((spec_l2Value.f k a0 l1 (wrap64 (t191 - 1)) l3).bind fun t192 => ((spec_l2Value.f k a0 l1 (wrap64 (a2 - 1)) l3).bind fun t193 => ((spec_l2Do.f k a0 ((rd_T80 l1 a2).f0) t192 t193).bind fun t194 => (some t194)))))))))) else (none)) else (none)
theorem spec_l2Value.mono_l : ∀ k, (∀ y0 y1 y2 y3, LeO (spec_l2Value.f k y0 y1 y2 y3) (spec_l2Value.f (k + 1) y0 y1 y2 y3))
 | 0 => fun _ _ _ _ r h => by simp [spec_l2Value.f] at h
 | k + 1 => by
  have ih0 := spec_l2Value.mono_l k
  ·intro y0 y1 y2 y3
   unfold spec_l2Value.f
   repeat' with_reducible first | apply ih0 | apply spec_l1Cut.mono | apply spec_l2Do.mono | apply spec_l2From.mono | apply spec_l2Need.mono | exact LeO.refl _ | exact LeO.none _ | apply LeO.ite | refine LeO.bind ?_ fun _ => ?_
theorem spec_l2Value.mono : ∀ a0 a1 a2 a3 k, LeO (spec_l2Value.f k a0 a1 a2 a3) (spec_l2Value.f (k + 1) a0 a1 a2 a3) := by
 intro a0 a1 a2 a3 k
 have ih0 := spec_l2Value.mono_l k
 exact ih0 a0 a1 a2 a3
def spec_l2Value.T11 : Bool × List (List Nat × List Nat) := (true, [([], []), ([], []), ([1], [1]), ([], []), ([], []), ([], []), ([], []), ([6], [6]), ([5, 7], [5, 7]), ([8], [8]), ([], []), ([3, 4, 9, 10, 8], [3, 4, 9, 10]), ([], []), ([], []), ([], []), ([14], [14]), ([], []), ([12, 13, 15, 16, 11], [12, 13, 15, 16]), ([0, 2, 11, 17, 17], [0, 2, 11, 17]), ([18, 18, 0, 1, 2, 3, 4, 5, 6, 7, 8, 9, 10, 11, 12, 13, 14, 15, 16, 17, 18], [18])])
def spec_l2Value.B11 : List Nat := [0, 0, 2, 0, 0, 0, 0, 64, 224, 480, 0, 2040, 0, 0, 0, 16384, 0, 131064, 262143, 524287]
theorem spec_l2Value.tab11 : rtab .any (opsOf Tryz.f59 11) = spec_l2Value.T11 := by kernel_rfl
theorem spec_l2Value.bits11 : waitsOk spec_l2Value.T11.2 spec_l2Value.B11 = true := by kernel_rfl
theorem spec_l2Value.calls (k : Nat) : ∀ (a0 : Int) (A1 : Option Addr) (c1 : Nat) (l1 : List (S80)) (a2 : Int) (A3 : Option Addr) (c3 : Nat) (l3 : List Int) (r : Int) (w : World) (hr1 : Kd.C k80 w A1 l1.length l1) (hc1 : l1.length ≤ c1) (hr3 : Kd.C (Kd.int .u64) w A3 l3.length l3) (hc3 : l3.length ≤ c3) (h : spec_l2Value.f k a0 l1 a2 l3 = some r),
  Calls Tryz.prog 59 #[.int .i64 a0, .slice A1 l1.length c1, .int .i64 a2, .slice A3 l3.length c3] w fun e w' => e = .returned (.int .u64 r) ∧ Below w.heap.size w w' := by
 induction k using Nat.strongRecOn with
 | _ k ih =>
 intro a0 A1 c1 l1 a2 A3 c3 l3 r w hr1 hc1 hr3 hc3 h
 cases k with
 | zero => exact absurd h (by simp [spec_l2Value.f])
 | succ k =>
 simp only [spec_l2Value.f] at h
 have hu80 := Tryz.underlying80
 have HR1 := am_ hr1
 have HC1 := am_ hc1
 clear hr1 hc1
 have HR3 := am_ hr3
 have HC3 := am_ hc3
 clear hr3 hc3
 have HB := am_ (Below.refl w.heap.size w)
 have H : (if 0 ≤ a2 then (if a2 < (l1.length : Int) then ((spec_l2Need.f k ((rd_T80 l1 a2).f0)).bind fun bt184 => (if ((rd_T80 l1 a2).f0) = 2 then (if 0 ≤ ((rd_T80 l1 a2).f1) then (if ((rd_T80 l1 a2).f1) < (l3.length : Int) then (some (rd l3 ((rd_T80 l1 a2).f1))) else (none)) else (none)) else (if bt184.1 = 0 then (some ((rd_T80 l1 a2).f1)) else (if ((rd_T80 l1 a2).f0) = 13 then ((spec_l2Value.f k a0 l1 (wrap64 (a2 - 1)) l3).bind fun t188 => ((spec_l1Cut.f k a0 (Go.bits .xor .u64 18446744073709551615 t188)).bind fun t189 => (some t189))) else (if ((rd_T80 l1 a2).f0) = 19 then ((spec_l2Value.f k a0 l1 (wrap64 (a2 - 1)) l3).bind fun t190 => (some (IntKind.u64.wrap (1 - t190)))) else ((spec_l2From.f k l1 (wrap64 (a2 - 1))).bind fun t191 => ((spec_l2Value.f k a0 l1 (wrap64 (t191 - 1)) l3).bind fun t192 => ((spec_l2Value.f k a0 l1 (wrap64 (a2 - 1)) l3).bind fun t193 => ((spec_l2Do.f k a0 ((rd_T80 l1 a2).f0) t192 t193).bind fun t194 => (some t194)))))))))) else (none)) else (none)) = some r := h
 clear h
 by_cases c5 : 0 ≤ a2
 ·rw [if_pos c5] at H
  have c5b0 := decide_eq_true c5
  clear c5
  by_cases c6 : a2 < (l1.length : Int)
  ·rw [if_pos c6] at H
   have c6b0 := decide_eq_true c6
   clear c6
   obtain ⟨⟨t184, t185, t186⟩, A70, H⟩ := Sh.bd H
   have A7 := am_ A70
   clear A70
   by_cases c8 : ((rd_T80 l1 a2).f0) = 2
   ·rw [if_pos c8] at H
    have c8b0 : (((rd_T80 l1 a2).f0) == 2) = true := beq_iff_eq.mpr c8
    have c8b1 : (((rd_T80 l1 a2).f0) != 2) = false := bne_eq_false_iff_eq.mpr c8
    clear c8
    by_cases c9 : 0 ≤ ((rd_T80 l1 a2).f1)
    ·rw [if_pos c9] at H
     have c9b0 := decide_eq_true c9
     clear c9
     by_cases c10 : ((rd_T80 l1 a2).f1) < (l3.length : Int)
     ·rw [if_pos c10] at H
      have c10b0 := decide_eq_true c10
      clear c10
      obtain rfl := Option.some.inj H
      have p182 : 0 ≤ (a2 : Int) := Sh.od
      have q182 : a2 < (l1.length : Int) := Sh.od
      obtain ⟨ad182, e182, hx182_0, hx182_1⟩ := at_T80 HR1.out a2 p182 q182
      cases e182
      replace p182 := eq_true p182
      replace q182 := eq_true q182
      go_enter Tryz.func59, Tryz.ntmps59
      go_wp2_with (first | ((with_reducible refine Sh.d 9 ?_); refine Sh.bx (N := 9) (cs := #[.int .i64 0, .int .u64 0]) (t := 80) (h := ?_); intro gb183 hg w11 hbox hb; have BK183 := am_ hbox; have GW183 := Sh.ag w hg; have GE183 := Sh.ag w hg; replace HB := Sh.hb hb; clear hb hbox hg; obtain ⟨hcz12_0, hcz12_1, hfz12_0, hfz12_1⟩ := Sh.b2 BK183.out) | ((with_reducible refine Sh.k 74 ?_); refine Sh.gD (some 20) Tryz.func74 #[.int .i64 ((rd_T80 l1 a2).f0)] (spec_l2Need.calls k ((rd_T80 l1 a2).f0) t184 t185 t186 _ A7.out) fun nd => ?_; have p187 : 0 ≤ (((rd_T80 l1 a2).f1) : Int) := Sh.od; have q187 : ((rd_T80 l1 a2).f1) < (l3.length : Int) := Sh.od; obtain ⟨ad187, e187, hx187_0⟩ := Kd.at_int HR3.out ((rd_T80 l1 a2).f1) p187 q187; cases e187; have hn187_0 : ad187.block ≠ gb183 := Nat.ne_of_lt (Nat.lt_of_lt_of_le (by have := World.block_lt_of_cell? _ _ hx187_0; first | rwa [add_block] at this | exact this) GW183.out); have hn187_1 : ad187.block ≠ gb183 := Nat.ne_of_lt (Nat.lt_of_lt_of_le (by have := World.block_lt_of_cell? _ _ hx187_0; first | rwa [add_block] at this | exact this) GW183.out); replace hx187_0 := (HB.out.cell (World.block_lt_of_cell? w _ hx187_0)).trans hx187_0; replace hx187_0 := (cell_far (p := ⟨gb183, 0, none⟩) (by first | (rw [add_block]; exact hn187_0) | (show (Addr.add _ _).block ≠ _; rw [add_block]; exact hn187_0) | exact hn187_0) (.int .i64 ((rd_T80 l1 a2).f0))).trans hx187_0; replace hx187_0 := (cell_far (p := ⟨gb183, 1, none⟩) (by first | (rw [add_block]; exact hn187_1) | (show (Addr.add _ _).block ≠ _; rw [add_block]; exact hn187_1) | exact hn187_1) (.int .u64 ((rd_T80 l1 a2).f1))).trans hx187_0; clear hn187_0; clear hn187_1; replace p187 := eq_true p187; replace q187 := eq_true q187))
      go_ret
      exact ⟨Sh.eR, Sh.bw⟩
     ·rw [if_neg c10] at H
      exact absurd H (by simp)
    ·rw [if_neg c9] at H
     exact absurd H (by simp)
   ·rw [if_neg c8] at H
    have c8b0 : (((rd_T80 l1 a2).f0) == 2) = false := beq_eq_false_iff_ne.mpr c8
    have c8b1 : (((rd_T80 l1 a2).f0) != 2) = true := bne_iff_ne.mpr c8
    by_cases c13 : t184 = 0
    ·rw [if_pos c13] at H
     have c13b0 : (t184 == 0) = true := beq_iff_eq.mpr c13
     have c13b1 : (t184 != 0) = false := bne_eq_false_iff_eq.mpr c13
     clear c13
     obtain rfl := Option.some.inj H
     have p182 : 0 ≤ (a2 : Int) := Sh.od
     have q182 : a2 < (l1.length : Int) := Sh.od
     obtain ⟨ad182, e182, hx182_0, hx182_1⟩ := at_T80 HR1.out a2 p182 q182
     cases e182
     replace p182 := eq_true p182
     replace q182 := eq_true q182
     go_enter Tryz.func59, Tryz.ntmps59
     go_wp2_with (first | ((with_reducible refine Sh.d 9 ?_); refine Sh.bx (N := 9) (cs := #[.int .i64 0, .int .u64 0]) (t := 80) (h := ?_); intro gb183 hg w14 hbox hb; have BK183 := am_ hbox; have GW183 := Sh.ag w hg; have GE183 := Sh.ag w hg; replace HB := Sh.hb hb; clear hb hbox hg; obtain ⟨hcz15_0, hcz15_1, hfz15_0, hfz15_1⟩ := Sh.b2 BK183.out) | ((with_reducible refine Sh.k 74 ?_); refine Sh.gD (some 20) Tryz.func74 #[.int .i64 ((rd_T80 l1 a2).f0)] (spec_l2Need.calls k ((rd_T80 l1 a2).f0) t184 t185 t186 _ A7.out) fun nd => ?_))
     go_ret
     exact ⟨Sh.eR, Sh.bw⟩
    ·rw [if_neg c13] at H
     have c13b0 : (t184 == 0) = false := beq_eq_false_iff_ne.mpr c13
     have c13b1 : (t184 != 0) = true := bne_iff_ne.mpr c13
     by_cases c16 : ((rd_T80 l1 a2).f0) = 13
     ·rw [if_pos c16] at H
      have c16b0 : (((rd_T80 l1 a2).f0) == 13) = true := beq_iff_eq.mpr c16
      have c16b1 : (((rd_T80 l1 a2).f0) != 13) = false := bne_eq_false_iff_eq.mpr c16
      clear c16
      obtain ⟨t188, A17, H⟩ := Sh.ba H
      obtain ⟨t189, A18, H⟩ := Sh.ba H
      obtain rfl := Option.some.inj H
      have p182 : 0 ≤ (a2 : Int) := Sh.od
      have q182 : a2 < (l1.length : Int) := Sh.od
      obtain ⟨ad182, e182, hx182_0, hx182_1⟩ := at_T80 HR1.out a2 p182 q182
      cases e182
      replace p182 := eq_true p182
      replace q182 := eq_true q182
      go_enter Tryz.func59, Tryz.ntmps59
      go_wp2_with (first | ((with_reducible refine Sh.d 9 ?_); refine Sh.bx (N := 9) (cs := #[.int .i64 0, .int .u64 0]) (t := 80) (h := ?_); intro gb183 hg w19 hbox hb; have BK183 := am_ hbox; have GW183 := Sh.ag w hg; have GE183 := Sh.ag w hg; replace HB := Sh.hb hb; clear hb hbox hg; obtain ⟨hcz20_0, hcz20_1, hfz20_0, hfz20_1⟩ := Sh.b2 BK183.out) | ((with_reducible refine Sh.k 74 ?_); refine Sh.gD (some 20) Tryz.func74 #[.int .i64 ((rd_T80 l1 a2).f0)] (spec_l2Need.calls k ((rd_T80 l1 a2).f0) t184 t185 t186 _ A7.out) fun nd => ?_) | ((with_reducible refine Sh.k 59 ?_); refine Sh.gL (some 48) Tryz.func59 #[.int .i64 a0, .slice (some ad182) l1.length c1, .int .i64 (wrap64 (a2 - 1)), .slice A3 l3.length c3] (h := ?_); (with_reducible refine (ih k (by omega) a0 _ _ l1 (wrap64 (a2 - 1)) _ _ l3 t188 _ (Sh.cB HR1.out) HC1.out (Sh.cB HR3.out) HC3.out A17.out).mono ?_); rintro e w21 ⟨rfl, hb⟩; refine ⟨_, rfl, ?_⟩; replace BK183 := am_ (blk_below (g := gb183) (o := .cells #[.int .i64 ((rd_T80 l1 a2).f0), .int .u64 ((rd_T80 l1 a2).f1)] 80 (0, 0)) (by refine Sh.pl ?_; refine blk_put (cs := #[.int .i64 ((rd_T80 l1 a2).f0), .int .u64 0]) ?_ 1 _ rfl; refine Sh.pl ?_; refine blk_put (cs := #[.int .i64 0, .int .u64 0]) ?_ 0 _ rfl; refine Sh.pl ?_; exact BK183.out) hb); replace HB := Sh.hb hb; (try clear hb); (try clear hb2); (try clear hk); (try clear hi)) | ((with_reducible refine Sh.k 76 ?_); refine Sh.gD (some 50) Tryz.func76 #[.int .i64 a0, .int .u64 (Go.bits .xor .u64 18446744073709551615 t188)] (spec_l1Cut.calls k a0 (Go.bits .xor .u64 18446744073709551615 t188) t189 _ A18.out) fun nd => ?_))
      go_ret
      exact ⟨Sh.eR, Sh.bw⟩
     ·rw [if_neg c16] at H
      have c16b0 : (((rd_T80 l1 a2).f0) == 13) = false := beq_eq_false_iff_ne.mpr c16
      have c16b1 : (((rd_T80 l1 a2).f0) != 13) = true := bne_iff_ne.mpr c16
      by_cases c22 : ((rd_T80 l1 a2).f0) = 19
      ·rw [if_pos c22] at H
       have c22b0 : (((rd_T80 l1 a2).f0) == 19) = true := beq_iff_eq.mpr c22
       have c22b1 : (((rd_T80 l1 a2).f0) != 19) = false := bne_eq_false_iff_eq.mpr c22
       clear c22
       obtain ⟨t190, A23, H⟩ := Sh.ba H
       obtain rfl := Option.some.inj H
       have p182 : 0 ≤ (a2 : Int) := Sh.od
       have q182 : a2 < (l1.length : Int) := Sh.od
       obtain ⟨ad182, e182, hx182_0, hx182_1⟩ := at_T80 HR1.out a2 p182 q182
       cases e182
       replace p182 := eq_true p182
       replace q182 := eq_true q182
       go_enter Tryz.func59, Tryz.ntmps59
       go_wp2_with (first | ((with_reducible refine Sh.d 9 ?_); refine Sh.bx (N := 9) (cs := #[.int .i64 0, .int .u64 0]) (t := 80) (h := ?_); intro gb183 hg w24 hbox hb; have BK183 := am_ hbox; have GW183 := Sh.ag w hg; have GE183 := Sh.ag w hg; replace HB := Sh.hb hb; clear hb hbox hg; obtain ⟨hcz25_0, hcz25_1, hfz25_0, hfz25_1⟩ := Sh.b2 BK183.out) | ((with_reducible refine Sh.k 74 ?_); refine Sh.gD (some 20) Tryz.func74 #[.int .i64 ((rd_T80 l1 a2).f0)] (spec_l2Need.calls k ((rd_T80 l1 a2).f0) t184 t185 t186 _ A7.out) fun nd => ?_) | ((with_reducible refine Sh.k 59 ?_); refine Sh.gL (some 60) Tryz.func59 #[.int .i64 a0, .slice (some ad182) l1.length c1, .int .i64 (wrap64 (a2 - 1)), .slice A3 l3.length c3] (h := ?_); (with_reducible refine (ih k (by omega) a0 _ _ l1 (wrap64 (a2 - 1)) _ _ l3 t190 _ (Sh.cB HR1.out) HC1.out (Sh.cB HR3.out) HC3.out A23.out).mono ?_); rintro e w26 ⟨rfl, hb⟩; refine ⟨_, rfl, ?_⟩; replace BK183 := am_ (blk_below (g := gb183) (o := .cells #[.int .i64 ((rd_T80 l1 a2).f0), .int .u64 ((rd_T80 l1 a2).f1)] 80 (0, 0)) (by refine Sh.pl ?_; refine blk_put (cs := #[.int .i64 ((rd_T80 l1 a2).f0), .int .u64 0]) ?_ 1 _ rfl; refine Sh.pl ?_; refine blk_put (cs := #[.int .i64 0, .int .u64 0]) ?_ 0 _ rfl; refine Sh.pl ?_; exact BK183.out) hb); replace HB := Sh.hb hb; (try clear hb); (try clear hb2); (try clear hk); (try clear hi)))
       go_ret
       exact ⟨Sh.eR, Sh.bw⟩
      ·rw [if_neg c22] at H
       have c22b0 : (((rd_T80 l1 a2).f0) == 19) = false := beq_eq_false_iff_ne.mpr c22
       have c22b1 : (((rd_T80 l1 a2).f0) != 19) = true := bne_iff_ne.mpr c22
       obtain ⟨t191, A27, H⟩ := Sh.ba H
       obtain ⟨t192, A28, H⟩ := Sh.ba H
       obtain ⟨t193, A29, H⟩ := Sh.ba H
       obtain ⟨t194, A30, H⟩ := Sh.ba H
       obtain rfl := Option.some.inj H
       have p182 : 0 ≤ (a2 : Int) := Sh.od
       have q182 : a2 < (l1.length : Int) := Sh.od
       obtain ⟨ad182, e182, hx182_0, hx182_1⟩ := at_T80 HR1.out a2 p182 q182
       cases e182
       replace p182 := eq_true p182
       replace q182 := eq_true q182
       go_enter Tryz.func59, Tryz.ntmps59
       try go_wp2_with (first | ((with_reducible refine Sh.d 9 ?_); refine Sh.bx (N := 9) (cs := #[.int .i64 0, .int .u64 0]) (t := 80) (h := ?_); intro gb183 hg w31 hbox hb; have BK183 := am_ hbox; have GW183 := Sh.ag w hg; have GE183 := Sh.ag w hg; replace HB := Sh.hb hb; clear hb hbox hg; obtain ⟨hcz32_0, hcz32_1, hfz32_0, hfz32_1⟩ := Sh.b2 BK183.out) | ((with_reducible refine Sh.k 74 ?_); refine Sh.gD (some 20) Tryz.func74 #[.int .i64 ((rd_T80 l1 a2).f0)] (spec_l2Need.calls k ((rd_T80 l1 a2).f0) t184 t185 t186 _ A7.out) fun nd => ?_))
       have n0_ : Aside0 (((w31.setCell ⟨gb183, 0, none⟩ (.int .i64 ((rd_T80 l1 a2).f0))).setCell ⟨gb183, 1, none⟩ (.int .u64 ((rd_T80 l1 a2).f1))).heap[gb183]? = some (.cells #[.int .i64 ((rd_T80 l1 a2).f0), .int .u64 ((rd_T80 l1 a2).f1)] 80 (0, 0))) := ⟨by refine Sh.pl ?_; refine blk_put (cs := #[.int .i64 ((rd_T80 l1 a2).f0), .int .u64 0]) ?_ 1 _ rfl; refine Sh.pl ?_; refine blk_put (cs := #[.int .i64 0, .int .u64 0]) ?_ 0 _ rfl; refine Sh.pl ?_; exact BK183.out⟩
       have n1_ : Aside0 (Below w.heap.size w ((w31.setCell ⟨gb183, 0, none⟩ (.int .i64 ((rd_T80 l1 a2).f0))).setCell ⟨gb183, 1, none⟩ (.int .u64 ((rd_T80 l1 a2).f1)))) := ⟨Sh.bw⟩
       (try clear BK183)
       (try clear HB)
       generalize ((w31.setCell ⟨gb183, 0, none⟩ (.int .i64 ((rd_T80 l1 a2).f0))).setCell ⟨gb183, 1, none⟩ (.int .u64 ((rd_T80 l1 a2).f1))) = w33 at n0_ n1_ ⊢
       have BK183 := n0_
       have HB := n1_
       clear n0_ n1_
       (try (rw [drewN_self w33]; generalize hq_ : World.drewN w33 _ = w33; have n0_ : Aside0 (w33.heap[gb183]? = some (.cells #[.int .i64 ((rd_T80 l1 a2).f0), .int .u64 ((rd_T80 l1 a2).f1)] 80 (0, 0))) := ⟨by rw [← hq_]; exact (Sh.pl BK183.out)⟩; have n1_ : Aside0 (Below w.heap.size w w33) := ⟨by rw [← hq_]; exact Sh.bw⟩; clear BK183 HB hq_; have BK183 := n0_; have HB := n1_; clear n0_ n1_))
       replace BK183 := am_ (blk_drew BK183.out)
       replace HB := am_ (below_drew1 HB.out)
       refine start_ (n := 20) (S := fun w' => w'.cell? ⟨gb183, 0, none⟩ = some (.int .i64 ((rd_T80 l1 a2).f0)) ∧ w'.cell? ⟨gb183, 1, none⟩ = some (.int .u64 ((rd_T80 l1 a2).f1))) (ds := []) (Sh.nm 20 0) (by kernel_rfl) rfl rfl Sh.cs (fun hHeld => ?_); refine with_tabW spec_l2Value.tab11 spec_l2Value.bits11 (fun HT_ HW_ => ?_)
       generalize w33.drew = w34 at BK183 HB hHeld ⊢
       refine Sh.qA 0 ?_; refine Sh.qA 1 ?_; refine Sh.qA 3 ?_; refine Sh.qA 4 ?_; refine Sh.qA 5 ?_; refine Sh.qA 6 ?_; refine Sh.qA 7 ?_; refine Sh.qA 10 ?_; refine Sh.qA 12 ?_; refine Sh.qA 13 ?_; refine Sh.qA 14 ?_; refine Sh.qA 15 ?_; refine Sh.qA 16 ?_; refine Sh.qT 2 hHeld ?_
       refine Sh.oC 8 Tryz.func79 #[.slice (some ad182) l1.length c1, .int .i64 (wrap64 (a2 - 1))] fun K hK => ?_
       with_reducible refine (spec_l2From.calls k _ _ l1 (wrap64 (a2 - 1)) t191 _ (Sh.cB HR1.out) HC1.out A27.out).mono ?_
       rintro e w' ⟨rfl, ⟨nd, rfl⟩⟩
       refine ⟨_, rfl, ?_⟩
       refine Sh.kN hK Sh.cs fun hHeld => ?_
       clear hK K
       refine Sh.qA 9 ?_
       refine Sh.oC 11 Tryz.func59 #[.int .i64 a0, .slice (some ad182) l1.length c1, .int .i64 (wrap64 (t191 - 1)), .slice A3 l3.length c3] fun K hK => ?_
       with_reducible refine (ih k (by omega) a0 _ _ l1 (wrap64 (t191 - 1)) _ _ l3 t192 _ ?side1 ?side2 ?side3 ?side4 A28.out).mono ?_
       (case side1 => repeat (first | exact (Kd.C_below HR1.out Sh.bw) | (with_reducible first | refine Kd.C_alloc ?_ _ | refine Kd.C_drewN ?_ _ | refine Kd.C_drew ?_)))
       (case side2 => exact HC1.out)
       (case side3 => repeat (first | exact (Kd.C_below HR3.out Sh.bw) | (with_reducible first | refine Kd.C_alloc ?_ _ | refine Kd.C_drewN ?_ _ | refine Kd.C_drew ?_)))
       (case side4 => exact HC3.out)
       rintro e w35 ⟨rfl, hb⟩
       refine ⟨_, rfl, ?_⟩
       replace BK183 := Sh.ab BK183 hb
       replace HB := Sh.hb hb
       (try clear hb)
       (try clear hb2)
       (try clear hk)
       (try clear hi)
       refine Sh.kN hK Sh.cs fun hHeld => ?_
       clear hK K
       refine Sh.oC 17 Tryz.func59 #[.int .i64 a0, .slice (some ad182) l1.length c1, .int .i64 (wrap64 (a2 - 1)), .slice A3 l3.length c3] fun K hK => ?_
       with_reducible refine (ih k (by omega) a0 _ _ l1 (wrap64 (a2 - 1)) _ _ l3 t193 _ ?side1 ?side2 ?side3 ?side4 A29.out).mono ?_
       (case side1 => repeat (first | exact (Kd.C_below HR1.out HB.out) | (with_reducible first | refine Kd.C_alloc ?_ _ | refine Kd.C_drewN ?_ _ | refine Kd.C_drew ?_)))
       (case side2 => exact HC1.out)
       (case side3 => repeat (first | exact (Kd.C_below HR3.out HB.out) | (with_reducible first | refine Kd.C_alloc ?_ _ | refine Kd.C_drewN ?_ _ | refine Kd.C_drew ?_)))
       (case side4 => exact HC3.out)
       rintro e w36 ⟨rfl, hb⟩
       refine ⟨_, rfl, ?_⟩
       replace BK183 := Sh.ab BK183 hb
       replace HB := Sh.hb hb
       (try clear hb)
       (try clear hb2)
       (try clear hk)
       (try clear hi)
       refine Sh.kN hK Sh.cs fun hHeld => ?_
       clear hK K
       refine Sh.oC 18 Tryz.func78 #[.int .i64 a0, .int .i64 ((rd_T80 l1 a2).f0), .int .u64 t192, .int .u64 t193] fun K hK => ?_
       with_reducible refine (spec_l2Do.calls k a0 ((rd_T80 l1 a2).f0) t192 t193 t194 _ A30.out).mono ?_
       rintro e w' ⟨rfl, ⟨nd, rfl⟩⟩
       refine ⟨_, rfl, ?_⟩
       refine Sh.kN hK Sh.cs fun hHeld => ?_
       clear hK K
       refine Sh.qA 19 ?_
       refine done_ (done_of HT_.out (by kernel_rfl)) ?_
       try go_wp2
       go_ret
       exact ⟨Sh.eR, Sh.bw⟩
  ·rw [if_neg c6] at H
   exact absurd H (by simp)
 ·rw [if_neg c5] at H
  exact absurd H (by simp)
def spec_l7Holds.f (k : Nat) (a0_0 : Int) (a0_1 : Int) (l0_2 : List (S80)) (l0_3 : List (S72)) (l1 : List (S80)) (l2 : List Int) : Option (Bool) := (spec_l2Value.f k a0_0 l1 (wrap64 ((l1.length : Int) - 1)) l2).bind fun t196 => (some (t196 == 1))
theorem spec_l7Holds.mono : ∀ a0 a1 a2 a3 a4 a5 k, LeO (spec_l7Holds.f k a0 a1 a2 a3 a4 a5) (spec_l7Holds.f (k + 1) a0 a1 a2 a3 a4 a5) := by
 intro a0 a1 a2 a3 a4 a5 k
 unfold spec_l7Holds.f
 repeat' with_reducible first | apply spec_l2Value.mono | exact LeO.refl _ | exact LeO.none _ | apply LeO.ite | refine LeO.bind ?_ fun _ => ?_
theorem spec_l7Holds.calls (k : Nat) (a0_0 : Int) (a0_1 : Int) (A0_2 : Option Addr) (c0_2 : Nat) (l0_2 : List (S80)) (A0_3 : Option Addr) (c0_3 : Nat) (l0_3 : List (S72)) (A1 : Option Addr) (c1 : Nat) (l1 : List (S80)) (A2 : Option Addr) (c2 : Nat) (l2 : List Int) (r : Bool) (w : World) (hr0_2 : Kd.C k80 w A0_2 l0_2.length l0_2) (hc0_2 : l0_2.length ≤ c0_2) (hr0_3 : Kd.C k72 w A0_3 l0_3.length l0_3) (hc0_3 : l0_3.length ≤ c0_3) (hr1 : Kd.C k80 w A1 l1.length l1) (hc1 : l1.length ≤ c1) (hr2 : Kd.C (Kd.int .u64) w A2 l2.length l2) (hc2 : l2.length ≤ c2) (h : spec_l7Holds.f k a0_0 a0_1 l0_2 l0_3 l1 l2 = some r) :
  Calls Tryz.prog 77 #[.agg #[.int .i64 a0_0, .int .i64 a0_1, .slice A0_2 l0_2.length c0_2, .slice A0_3 l0_3.length c0_3], .slice A1 l1.length c1, .slice A2 l2.length c2] w fun e w' => e = .returned (.bool r) ∧ Below w.heap.size w w' := by
 have hu36 := Tryz.underlying36
 have HR0_2 := am_ hr0_2
 have HC0_2 := am_ hc0_2
 clear hr0_2 hc0_2
 have HR0_3 := am_ hr0_3
 have HC0_3 := am_ hc0_3
 clear hr0_3 hc0_3
 have HR1 := am_ hr1
 have HC1 := am_ hc1
 clear hr1 hc1
 have HR2 := am_ hr2
 have HC2 := am_ hc2
 clear hr2 hc2
 have HB := am_ (Below.refl w.heap.size w)
 have H := h
 clear h
 unfold spec_l7Holds.f at H
 obtain ⟨t196, A4, H⟩ := Sh.ba H
 obtain rfl := Option.some.inj H
 go_enter Tryz.func77, Tryz.ntmps77
 go_wp2_with (first | ((with_reducible refine Sh.d 3 ?_); refine Sh.bz w (N := 3) (cs := #[.int .i64 a0_0, .int .i64 a0_1, .slice A0_2 l0_2.length c0_2, .slice A0_3 l0_3.length c0_3]) (t := 36) (h := ?_); clear HB; intro gb195 w5 BK195 GE195 HB; obtain ⟨hcz6_0, hcz6_1, hcz6_2, hcz6_3, hfz6_0, hfz6_1, hfz6_2, hfz6_3⟩ := Sh.b4 BK195.out) | ((with_reducible refine Sh.k 59 ?_); refine Sh.gB (some 14) Tryz.func59 #[.int .i64 a0_0, .slice A1 l1.length c1, .int .i64 (wrap64 ((l1.length : Int) - 1)), .slice A2 l2.length c2] (spec_l2Value.calls k a0_0 _ _ l1 (wrap64 ((l1.length : Int) - 1)) _ _ l2 t196 _ (Sh.cB HR1.out) HC1.out (Sh.cB HR2.out) HC2.out A4.out) fun w7 hb => ?_; replace BK195 := Sh.ab BK195 hb; replace HB := Sh.hb hb; (try clear hb); (try clear hb2); (try clear hk); (try clear hi)))
 go_ret
 exact ⟨Sh.eR, Sh.bw⟩
end Go.Proofs.YtjenmoopbmklfaaGreat.P
