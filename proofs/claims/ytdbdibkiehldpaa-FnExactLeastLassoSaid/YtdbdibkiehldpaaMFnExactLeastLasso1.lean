/- Go functions of this seat as Lean functions, and the proofs that the calls come to what these say; printed by a program of this session. No condition. -/
import Derived.Test.YtdbdibkiehldpaaP0
set_option linter.unusedVariables false
set_option linter.unusedSimpArgs false
set_option maxHeartbeats 40000000
set_option maxRecDepth 100000
namespace Go.Proofs.Ytdbdibkiehldpaa.P
open Go.RowKit Go.Proofs.YtdbdibkiehldpaaW.PrintWords Go.Proofs.YtdbdibkiehldpaaW.PrintLast Go.Proofs.YtdbdibkiehldpaaW.PrintMore Go.Proofs.Ytdbdibkiehldpaa.Hof
attribute [local go_sem] max2_int min2_int max_two min_two max_three min_three max_four min_four
def laws_szIntS.f (l0 : List Int) (a1 : Int) : Option (Int) := if (wrap64 (a1 - (l0.length : Int))) < 0 then (some (-1)) else (some (wrap64 (a1 - (l0.length : Int))))
theorem laws_szIntS.calls (A0 : Option Addr) (c0 : Nat) (l0 : List Int) (a1 : Int) (r : Int) (w : World) (hr0 : Kd.C (Kd.int .i64) w A0 l0.length l0) (hc0 : l0.length ≤ c0) (h : laws_szIntS.f l0 a1 = some r) :
  Calls Try.prog 11 #[.slice A0 l0.length c0, .int .i64 a1] w fun e w' => e = .returned (.int .i64 r) ∧ Drawn0 w w' := by
 have HR0 := am_ hr0
 have HC0 := am_ hc0
 clear hr0 hc0
 have H := h
 clear h
 unfold laws_szIntS.f at H
 by_cases c3 : (wrap64 (a1 - (l0.length : Int))) < 0
 ·rw [if_pos c3] at H
  have c3b0 := decide_eq_true c3
  clear c3
  obtain rfl := Option.some.inj H
  go_enter Try.func11, Try.ntmps11
  go_wp2
  go_ret
  exact ⟨Sh.es, Sh.dr⟩
 ·rw [if_neg c3] at H
  have c3b0 := decide_eq_false c3
  clear c3
  obtain rfl := Option.some.inj H
  go_enter Try.func11, Try.ntmps11
  go_wp2
  go_ret
  exact ⟨Sh.es, Sh.dr⟩
def laws_szLasso.f (l0_0 : List Int) (l0_1 : List Int) (a1 : Int) : Option (Int) := (laws_szIntS.f l0_0 a1).bind fun t102 => (if t102 < 0 then (some (-1)) else ((laws_szIntS.f l0_1 t102).bind fun t103 => (if t103 < 0 then (some (-1)) else (some t103))))
theorem laws_szLasso.calls (A0_0 : Option Addr) (c0_0 : Nat) (l0_0 : List Int) (A0_1 : Option Addr) (c0_1 : Nat) (l0_1 : List Int) (a1 : Int) (r : Int) (w : World) (hr0_0 : Kd.C (Kd.int .i64) w A0_0 l0_0.length l0_0) (hc0_0 : l0_0.length ≤ c0_0) (hr0_1 : Kd.C (Kd.int .i64) w A0_1 l0_1.length l0_1) (hc0_1 : l0_1.length ≤ c0_1) (h : laws_szLasso.f l0_0 l0_1 a1 = some r) :
  Calls Try.prog 4 #[.agg #[.slice A0_0 l0_0.length c0_0, .slice A0_1 l0_1.length c0_1], .int .i64 a1] w fun e w' => e = .returned (.int .i64 r) ∧ Below w.heap.size w w' := by
 have hu24 := Try.underlying24
 have HR0_0 := am_ hr0_0
 have HC0_0 := am_ hc0_0
 clear hr0_0 hc0_0
 have HR0_1 := am_ hr0_1
 have HC0_1 := am_ hc0_1
 clear hr0_1 hc0_1
 have HB := am_ (Below.refl w.heap.size w)
 have H := h
 clear h
 unfold laws_szLasso.f at H
 obtain ⟨t102, A3, H⟩ := Sh.ba H
 by_cases c4 : t102 < 0
 ·rw [if_pos c4] at H
  have c4b0 := decide_eq_true c4
  clear c4
  obtain rfl := Option.some.inj H
  go_enter Try.func4, Try.ntmps4
  go_wp2_with (first | ((with_reducible refine Sh.d 2 ?_); refine Sh.bz w (N := 2) (cs := #[.slice A0_0 l0_0.length c0_0, .slice A0_1 l0_1.length c0_1]) (t := 24) (h := ?_); clear HB; intro gb101 w5 BK101 GE101 HB; obtain ⟨hcz6_0, hcz6_1, hfz6_0, hfz6_1⟩ := Sh.b2 BK101.out) | ((with_reducible refine Sh.k 11 ?_); refine Sh.gD (some 8) Try.func11 #[.slice A0_0 l0_0.length c0_0, .int .i64 a1] (laws_szIntS.calls _ _ l0_0 a1 t102 _ (Sh.cB HR0_0.out) HC0_0.out A3.out) fun nd => ?_))
  go_ret
  exact ⟨Sh.eR, Sh.bw⟩
 ·rw [if_neg c4] at H
  have c4b0 := decide_eq_false c4
  clear c4
  obtain ⟨t103, A7, H⟩ := Sh.ba H
  by_cases c8 : t103 < 0
  ·rw [if_pos c8] at H
   have c8b0 := decide_eq_true c8
   clear c8
   obtain rfl := Option.some.inj H
   go_enter Try.func4, Try.ntmps4
   go_wp2_with (first | ((with_reducible refine Sh.d 2 ?_); refine Sh.bz w (N := 2) (cs := #[.slice A0_0 l0_0.length c0_0, .slice A0_1 l0_1.length c0_1]) (t := 24) (h := ?_); clear HB; intro gb101 w9 BK101 GE101 HB; obtain ⟨hcz10_0, hcz10_1, hfz10_0, hfz10_1⟩ := Sh.b2 BK101.out) | ((with_reducible refine Sh.k 11 ?_); refine Sh.gD (some 8) Try.func11 #[.slice A0_0 l0_0.length c0_0, .int .i64 a1] (laws_szIntS.calls _ _ l0_0 a1 t102 _ (Sh.cB HR0_0.out) HC0_0.out A3.out) fun nd => ?_) | ((with_reducible refine Sh.k 11 ?_); refine Sh.gD (some 14) Try.func11 #[.slice A0_1 l0_1.length c0_1, .int .i64 t102] (laws_szIntS.calls _ _ l0_1 t102 t103 _ (Sh.cB HR0_1.out) HC0_1.out A7.out) fun nd => ?_))
   go_ret
   exact ⟨Sh.eR, Sh.bw⟩
  ·rw [if_neg c8] at H
   have c8b0 := decide_eq_false c8
   clear c8
   obtain rfl := Option.some.inj H
   go_enter Try.func4, Try.ntmps4
   go_wp2_with (first | ((with_reducible refine Sh.d 2 ?_); refine Sh.bz w (N := 2) (cs := #[.slice A0_0 l0_0.length c0_0, .slice A0_1 l0_1.length c0_1]) (t := 24) (h := ?_); clear HB; intro gb101 w11 BK101 GE101 HB; obtain ⟨hcz12_0, hcz12_1, hfz12_0, hfz12_1⟩ := Sh.b2 BK101.out) | ((with_reducible refine Sh.k 11 ?_); refine Sh.gD (some 8) Try.func11 #[.slice A0_0 l0_0.length c0_0, .int .i64 a1] (laws_szIntS.calls _ _ l0_0 a1 t102 _ (Sh.cB HR0_0.out) HC0_0.out A3.out) fun nd => ?_) | ((with_reducible refine Sh.k 11 ?_); refine Sh.gD (some 14) Try.func11 #[.slice A0_1 l0_1.length c0_1, .int .i64 t102] (laws_szIntS.calls _ _ l0_1 t102 t103 _ (Sh.cB HR0_1.out) HC0_1.out A7.out) fun nd => ?_))
   go_ret
   exact ⟨Sh.eR, Sh.bw⟩
def spec_l1In.f (a0 : Int) (a1 : Int) (a2 : Int) : Option (Bool) := if a0 ≥ a1 then (some (decide (a0 ≤ a2))) else (some false)
theorem spec_l1In.calls (a0 : Int) (a1 : Int) (a2 : Int) (r : Bool) (w : World) (h : spec_l1In.f a0 a1 a2 = some r) :
  Calls Try.prog 23 #[.int .i64 a0, .int .i64 a1, .int .i64 a2] w fun e w' => e = .returned (.bool r) ∧ Drawn0 w w' := by
 have H := h
 clear h
 unfold spec_l1In.f at H
 by_cases c4 : a0 ≥ a1
 ·rw [if_pos c4] at H
  have c4b0 : decide (a1 ≤ a0) = true := decide_eq_true c4
  clear c4
  obtain rfl := Option.some.inj H
  go_enter Try.func23, Try.ntmps23
  go_wp2
  go_ret
  exact ⟨Sh.es, Sh.dr⟩
 ·rw [if_neg c4] at H
  have c4b0 : decide (a1 ≤ a0) = false := decide_eq_false c4
  clear c4
  obtain rfl := Option.some.inj H
  go_enter Try.func23, Try.ntmps23
  go_wp2
  go_ret
  exact ⟨Sh.es, Sh.dr⟩
def spec_l1All.l0 : Nat → Int → Int → List Int → Int → Int → Option (Bool)
 | 0, _, _, _, _, _ => none
 | k + 1, x1, x2, x9, x10, x11 => if x11 < x10 then (if 0 ≤ x11 then (if x11 < (x9.length : Int) then ((spec_l1In.f (rd x9 x11) x1 x2).bind fun t105 => (if t105 = true then (spec_l1All.l0 k x1 x2 x9 x10 (wrap64 (x11 + 1))) else (some false))) else (none)) else (none)) else (some true)
def spec_l1All.f (k : Nat) (l0 : List Int) (a1 : Int) (a2 : Int) : Option (Bool) := spec_l1All.l0 k a1 a2 l0 (l0.length : Int) 0
theorem spec_l1All.mono_l : ∀ k, (∀ y0 y1 y2 y3 y4, LeO (spec_l1All.l0 k y0 y1 y2 y3 y4) (spec_l1All.l0 (k + 1) y0 y1 y2 y3 y4))
 | 0 => fun _ _ _ _ _ r h => by simp [spec_l1All.l0] at h
 | k + 1 => by
  have ih0 := spec_l1All.mono_l k
  ·intro y0 y1 y2 y3 y4
   unfold spec_l1All.l0
   repeat' with_reducible first | apply ih0 | exact LeO.refl _ | exact LeO.none _ | apply LeO.ite | refine LeO.bind ?_ fun _ => ?_
theorem spec_l1All.mono : ∀ a0 a1 a2 k, LeO (spec_l1All.f k a0 a1 a2) (spec_l1All.f (k + 1) a0 a1 a2) := by
 intro a0 a1 a2 k
 have ih0 := spec_l1All.mono_l k
 unfold spec_l1All.f
 repeat' with_reducible first | apply ih0 | exact LeO.refl _ | exact LeO.none _ | apply LeO.ite | refine LeO.bind ?_ fun _ => ?_
theorem spec_l1All.calls (k : Nat) (A0 : Option Addr) (c0 : Nat) (l0 : List Int) (a1 : Int) (a2 : Int) (r : Bool) (w : World) (hr0 : Kd.C (Kd.int .i64) w A0 l0.length l0) (hc0 : l0.length ≤ c0) (h : spec_l1All.f k l0 a1 a2 = some r) :
  Calls Try.prog 24 #[.slice A0 l0.length c0, .int .i64 a1, .int .i64 a2] w fun e w' => e = .returned (.bool r) ∧ Drawn0 w w' := by
 have HR0 := am_ hr0
 have HC0 := am_ hc0
 clear hr0 hc0
 have H := h
 clear h
 unfold spec_l1All.f at H
 have H' := am_ H
 clear H
 go_enter Try.func24, Try.ntmps24
 go_wp2
 go_loopg [11] k (fun kq v11 w' => ∃ (x11_1 : Int), v11 = .int .i64 x11_1 ∧ Aside0 (spec_l1All.l0 kq a1 a2 l0 (l0.length : Int) x11_1 = some r) ∧ Aside0 (kq ≤ k) ∧ Drawn0 w w')
 case atStart => exact ⟨(0), (Sh.es), H', ⟨Nat.le_refl _⟩, Sh.dr⟩
 case round =>
  clear H'
  obtain ⟨x11_1, rfl, HA, HK1, ⟨m1, rfl⟩⟩ := hrel
  cases gk with
  | zero => exact absurd HA.out (by simp [spec_l1All.l0])
  | succ k1 =>
   have H := HA.out
   clear HA
   simp only [spec_l1All.l0] at H
   by_cases c4 : x11_1 < (l0.length : Int)
   ·rw [if_pos c4] at H
    have c4b0 := decide_eq_true c4
    clear c4
    by_cases c5 : 0 ≤ x11_1
    ·rw [if_pos c5] at H
     have c5b0 := decide_eq_true c5
     clear c5
     by_cases c6 : x11_1 < (l0.length : Int)
     ·rw [if_pos c6] at H
      have c6b0 := decide_eq_true c6
      clear c6
      obtain ⟨t105, A7, H⟩ := Sh.ba H
      by_cases c8 : t105 = true
      ·subst c8
       rw [if_pos rfl] at H
       have H' := am_ H
       clear H
       have p104 : 0 ≤ (x11_1 : Int) := Sh.od
       have q104 : x11_1 < (l0.length : Int) := Sh.od
       obtain ⟨ad104, e104, hx104_0⟩ := Kd.at_int HR0.out x11_1 p104 q104
       cases e104
       replace p104 := eq_true p104
       replace q104 := eq_true q104
       go_wp2_with (first | ((with_reducible refine Sh.k 23 ?_); refine Sh.gD (some 18) Try.func23 #[.int .i64 (rd l0 x11_1), .int .i64 a1, .int .i64 a2] (spec_l1In.calls (rd l0 x11_1) a1 a2 true _ A7.out) fun nd => ?_))
       go_roundg k1
       case measure => have := HK1.out; omega
       case rel => exact ⟨(wrap64 (x11_1 + 1)), (Sh.es), H', ⟨by have := HK1.out; omega⟩, Sh.dr⟩
      ·replace c8 := Bool.eq_false_iff.mpr c8
       subst c8
       rw [Sh.nf] at H
       obtain rfl := Option.some.inj H
       have p104 : 0 ≤ (x11_1 : Int) := Sh.od
       have q104 : x11_1 < (l0.length : Int) := Sh.od
       obtain ⟨ad104, e104, hx104_0⟩ := Kd.at_int HR0.out x11_1 p104 q104
       cases e104
       replace p104 := eq_true p104
       replace q104 := eq_true q104
       go_wp2_with (first | ((with_reducible refine Sh.k 23 ?_); refine Sh.gD (some 18) Try.func23 #[.int .i64 (rd l0 x11_1), .int .i64 a1, .int .i64 a2] (spec_l1In.calls (rd l0 x11_1) a1 a2 false _ A7.out) fun nd => ?_))
       go_ret
       exact ⟨Sh.es, Sh.dr⟩
     ·rw [if_neg c6] at H
      exact absurd H (by simp)
    ·rw [if_neg c5] at H
     exact absurd H (by simp)
   ·rw [if_neg c4] at H
    have c4b0 := decide_eq_false c4
    clear c4
    obtain rfl := Option.some.inj H
    go_wp2
    go_ret
    exact ⟨Sh.es, Sh.dr⟩
def spec_GoodLasso.f (k : Nat) (l0_0 : List Int) (l0_1 : List Int) : Option (Bool) := if (l0_0.length : Int) ≤ 24 then ((spec_l1In.f (l0_1.length : Int) 1 24).bind fun t107 => (if t107 = true then ((spec_l1All.f k l0_0 0 7).bind fun t108 => (if t108 = true then ((spec_l1All.f k l0_1 0 7).bind fun t109 => (some t109)) else (some false))) else (some false))) else (some false)
theorem spec_GoodLasso.mono : ∀ a0 a1 k, LeO (spec_GoodLasso.f k a0 a1) (spec_GoodLasso.f (k + 1) a0 a1) := by
 intro a0 a1 k
 unfold spec_GoodLasso.f
 repeat' with_reducible first | apply spec_l1All.mono | exact LeO.refl _ | exact LeO.none _ | apply LeO.ite | refine LeO.bind ?_ fun _ => ?_
theorem spec_GoodLasso.calls (k : Nat) (A0_0 : Option Addr) (c0_0 : Nat) (l0_0 : List Int) (A0_1 : Option Addr) (c0_1 : Nat) (l0_1 : List Int) (r : Bool) (w : World) (hr0_0 : Kd.C (Kd.int .i64) w A0_0 l0_0.length l0_0) (hc0_0 : l0_0.length ≤ c0_0) (hr0_1 : Kd.C (Kd.int .i64) w A0_1 l0_1.length l0_1) (hc0_1 : l0_1.length ≤ c0_1) (h : spec_GoodLasso.f k l0_0 l0_1 = some r) :
  Calls Try.prog 12 #[.agg #[.slice A0_0 l0_0.length c0_0, .slice A0_1 l0_1.length c0_1]] w fun e w' => e = .returned (.bool r) ∧ Below w.heap.size w w' := by
 have hu26 := Try.underlying26
 have HR0_0 := am_ hr0_0
 have HC0_0 := am_ hc0_0
 clear hr0_0 hc0_0
 have HR0_1 := am_ hr0_1
 have HC0_1 := am_ hc0_1
 clear hr0_1 hc0_1
 have HB := am_ (Below.refl w.heap.size w)
 have H := h
 clear h
 unfold spec_GoodLasso.f at H
 by_cases c2 : (l0_0.length : Int) ≤ 24
 ·rw [if_pos c2] at H
  have c2b0 := decide_eq_true c2
  have c2b1 : decide (l0_0.length ≤ 24) = true := decide_eq_true (by omega)
  clear c2
  obtain ⟨t107, A3, H⟩ := Sh.ba H
  by_cases c4 : t107 = true
  ·subst c4
   rw [if_pos rfl] at H
   obtain ⟨t108, A5, H⟩ := Sh.ba H
   by_cases c6 : t108 = true
   ·subst c6
    rw [if_pos rfl] at H
    obtain ⟨t109, A7, H⟩ := Sh.ba H
    obtain rfl := Option.some.inj H
    go_enter Try.func12, Try.ntmps12
    go_wp2_with (first | ((with_reducible refine Sh.d 1 ?_); (try (refine gate_guard (by rfl) ?_; dsimp only)); refine Sh.bz w (N := 1) (cs := #[.slice A0_0 l0_0.length c0_0, .slice A0_1 l0_1.length c0_1]) (t := 26) (h := ?_); clear HB; intro gb106 w8 BK106 GE106 HB; obtain ⟨hcz9_0, hcz9_1, hfz9_0, hfz9_1⟩ := Sh.b2 BK106.out) | (go_at_call 23; (with_reducible refine (spec_l1In.calls (l0_1.length : Int) 1 24 true _ A3.out).mono ?_); rintro e w' ⟨rfl, ⟨nd, rfl⟩⟩) | (go_at_call 24; (with_reducible refine (spec_l1All.calls k _ _ l0_0 0 7 true _ (Sh.cB HR0_0.out) HC0_0.out A5.out).mono ?_); rintro e w' ⟨rfl, ⟨nd, rfl⟩⟩) | (go_at_call 24; (with_reducible refine (spec_l1All.calls k _ _ l0_1 0 7 t109 _ (Sh.cB HR0_1.out) HC0_1.out A7.out).mono ?_); rintro e w' ⟨rfl, ⟨nd, rfl⟩⟩))
    go_ret
    exact ⟨Sh.eR, Sh.bw⟩
   ·replace c6 := Bool.eq_false_iff.mpr c6
    subst c6
    rw [Sh.nf] at H
    obtain rfl := Option.some.inj H
    go_enter Try.func12, Try.ntmps12
    go_wp2_with (first | ((with_reducible refine Sh.d 1 ?_); (try (refine gate_guard (by rfl) ?_; dsimp only)); refine Sh.bz w (N := 1) (cs := #[.slice A0_0 l0_0.length c0_0, .slice A0_1 l0_1.length c0_1]) (t := 26) (h := ?_); clear HB; intro gb106 w10 BK106 GE106 HB; obtain ⟨hcz11_0, hcz11_1, hfz11_0, hfz11_1⟩ := Sh.b2 BK106.out) | (go_at_call 23; (with_reducible refine (spec_l1In.calls (l0_1.length : Int) 1 24 true _ A3.out).mono ?_); rintro e w' ⟨rfl, ⟨nd, rfl⟩⟩) | (go_at_call 24; (with_reducible refine (spec_l1All.calls k _ _ l0_0 0 7 false _ (Sh.cB HR0_0.out) HC0_0.out A5.out).mono ?_); rintro e w' ⟨rfl, ⟨nd, rfl⟩⟩))
    go_ret
    exact ⟨Sh.eR, Sh.bw⟩
  ·replace c4 := Bool.eq_false_iff.mpr c4
   subst c4
   rw [Sh.nf] at H
   obtain rfl := Option.some.inj H
   go_enter Try.func12, Try.ntmps12
   go_wp2_with (first | ((with_reducible refine Sh.d 1 ?_); (try (refine gate_guard (by rfl) ?_; dsimp only)); refine Sh.bz w (N := 1) (cs := #[.slice A0_0 l0_0.length c0_0, .slice A0_1 l0_1.length c0_1]) (t := 26) (h := ?_); clear HB; intro gb106 w12 BK106 GE106 HB; obtain ⟨hcz13_0, hcz13_1, hfz13_0, hfz13_1⟩ := Sh.b2 BK106.out) | (go_at_call 23; (with_reducible refine (spec_l1In.calls (l0_1.length : Int) 1 24 false _ A3.out).mono ?_); rintro e w' ⟨rfl, ⟨nd, rfl⟩⟩))
   go_ret
   exact ⟨Sh.eR, Sh.bw⟩
 ·rw [if_neg c2] at H
  have c2b0 := decide_eq_false c2
  have c2b1 : decide (l0_0.length ≤ 24) = false := decide_eq_false (by omega)
  clear c2
  obtain rfl := Option.some.inj H
  go_enter Try.func12, Try.ntmps12
  go_wp2_with (first | ((with_reducible refine Sh.d 1 ?_); (try (refine gate_guard (by rfl) ?_; dsimp only)); refine Sh.bz w (N := 1) (cs := #[.slice A0_0 l0_0.length c0_0, .slice A0_1 l0_1.length c0_1]) (t := 26) (h := ?_); clear HB; intro gb106 w14 BK106 GE106 HB; obtain ⟨hcz15_0, hcz15_1, hfz15_0, hfz15_1⟩ := Sh.b2 BK106.out))
  go_ret
  exact ⟨Sh.eR, Sh.bw⟩
def spec_l9At.f (l0_0 : List Int) (l0_1 : List Int) (a1 : Int) : Option (Int) := if a1 < (l0_0.length : Int) then (if 0 ≤ a1 then (some (rd l0_0 a1)) else (none)) else (if (l0_1.length : Int) = 0 then (none) else (if 0 ≤ (Int.tmod (wrap64 (a1 - (l0_0.length : Int))) (l0_1.length : Int)) then (if (Int.tmod (wrap64 (a1 - (l0_0.length : Int))) (l0_1.length : Int)) < (l0_1.length : Int) then (some (rd l0_1 (Int.tmod (wrap64 (a1 - (l0_0.length : Int))) (l0_1.length : Int)))) else (none)) else (none)))
theorem spec_l9At.calls (A0_0 : Option Addr) (c0_0 : Nat) (l0_0 : List Int) (A0_1 : Option Addr) (c0_1 : Nat) (l0_1 : List Int) (a1 : Int) (r : Int) (w : World) (hr0_0 : Kd.C (Kd.int .i64) w A0_0 l0_0.length l0_0) (hc0_0 : l0_0.length ≤ c0_0) (hr0_1 : Kd.C (Kd.int .i64) w A0_1 l0_1.length l0_1) (hc0_1 : l0_1.length ≤ c0_1) (h : spec_l9At.f l0_0 l0_1 a1 = some r) :
  Calls Try.prog 25 #[.agg #[.slice A0_0 l0_0.length c0_0, .slice A0_1 l0_1.length c0_1], .int .i64 a1] w fun e w' => e = .returned (.int .i64 r) ∧ Below w.heap.size w w' := by
 have hu26 := Try.underlying26
 have HR0_0 := am_ hr0_0
 have HC0_0 := am_ hc0_0
 clear hr0_0 hc0_0
 have HR0_1 := am_ hr0_1
 have HC0_1 := am_ hc0_1
 clear hr0_1 hc0_1
 have HB := am_ (Below.refl w.heap.size w)
 have H := h
 clear h
 unfold spec_l9At.f at H
 by_cases c3 : a1 < (l0_0.length : Int)
 ·rw [if_pos c3] at H
  have c3b0 := decide_eq_true c3
  clear c3
  by_cases c4 : 0 ≤ a1
  ·rw [if_pos c4] at H
   have c4b0 := decide_eq_true c4
   clear c4
   obtain rfl := Option.some.inj H
   go_enter Try.func25, Try.ntmps25
   go_wp2_with (first | ((with_reducible refine Sh.d 2 ?_); refine Sh.bz w (N := 2) (cs := #[.slice A0_0 l0_0.length c0_0, .slice A0_1 l0_1.length c0_1]) (t := 26) (h := ?_); clear HB; intro gb110 w5 BK110 GE110 HB; obtain ⟨hcz6_0, hcz6_1, hfz6_0, hfz6_1⟩ := Sh.b2 BK110.out; have p111 : 0 ≤ (a1 : Int) := Sh.od; have q111 : a1 < (l0_0.length : Int) := Sh.od; obtain ⟨ad111, e111, hx111_0⟩ := Kd.at_int HR0_0.out a1 p111 q111; cases e111; replace hx111_0 := (HB.out.cell (World.block_lt_of_cell? w _ hx111_0)).trans hx111_0; replace p111 := eq_true p111; replace q111 := eq_true q111))
   repeat (go_quiet (first | ((with_reducible refine Sh.d 2 ?_); refine Sh.bz w (N := 2) (cs := #[.slice A0_0 l0_0.length c0_0, .slice A0_1 l0_1.length c0_1]) (t := 26) (h := ?_); clear HB; intro gb110 w5 BK110 GE110 HB; obtain ⟨hcz6_0, hcz6_1, hfz6_0, hfz6_1⟩ := Sh.b2 BK110.out; have p111 : 0 ≤ (a1 : Int) := Sh.od; have q111 : a1 < (l0_0.length : Int) := Sh.od; obtain ⟨ad111, e111, hx111_0⟩ := Kd.at_int HR0_0.out a1 p111 q111; cases e111; replace hx111_0 := (HB.out.cell (World.block_lt_of_cell? w _ hx111_0)).trans hx111_0; replace p111 := eq_true p111; replace q111 := eq_true q111)); try go_wp2_with (first | ((with_reducible refine Sh.d 2 ?_); refine Sh.bz w (N := 2) (cs := #[.slice A0_0 l0_0.length c0_0, .slice A0_1 l0_1.length c0_1]) (t := 26) (h := ?_); clear HB; intro gb110 w5 BK110 GE110 HB; obtain ⟨hcz6_0, hcz6_1, hfz6_0, hfz6_1⟩ := Sh.b2 BK110.out; have p111 : 0 ≤ (a1 : Int) := Sh.od; have q111 : a1 < (l0_0.length : Int) := Sh.od; obtain ⟨ad111, e111, hx111_0⟩ := Kd.at_int HR0_0.out a1 p111 q111; cases e111; replace hx111_0 := (HB.out.cell (World.block_lt_of_cell? w _ hx111_0)).trans hx111_0; replace p111 := eq_true p111; replace q111 := eq_true q111)))
   go_ret
   exact ⟨Sh.eR, Sh.bw⟩
  ·rw [if_neg c4] at H
   exact absurd H (by simp)
 ·rw [if_neg c3] at H
  have c3b0 := decide_eq_false c3
  clear c3
  by_cases c7 : (l0_1.length : Int) = 0
  ·rw [if_pos c7] at H
   exact absurd H (by simp)
  ·rw [if_neg c7] at H
   have c7b0 : ((l0_1.length : Int) == 0) = false := beq_eq_false_iff_ne.mpr c7
   have c7b1 : ((l0_1.length : Int) != 0) = true := bne_iff_ne.mpr c7
   have c7b2 : ¬ (l0_1 = []) := fun h_ => c7 (by rw [h_]; rfl)
   obtain ⟨ji8, hj1⟩ : ∃ j_ : Int, (Int.tmod (wrap64 (a1 - (l0_0.length : Int))) (l0_1.length : Int)) = j_ := ⟨_, rfl⟩
   replace H : (if 0 ≤ (ji8) then (if (ji8) < (l0_1.length : Int) then (some (rd l0_1 (ji8))) else (none)) else (none)) = some r := by first | (rw [hj1] at H; exact H) | (simp only [hj1] at H ⊢; exact H)
   by_cases c9 : 0 ≤ (ji8)
   ·rw [if_pos c9] at H
    have c9b0 := decide_eq_true c9
    clear c9
    by_cases c10 : (ji8) < (l0_1.length : Int)
    ·rw [if_pos c10] at H
     have c10b0 := decide_eq_true c10
     clear c10
     obtain rfl := Option.some.inj H
     go_enter Try.func25, Try.ntmps25
     go_wp2_with (first | ((with_reducible refine Sh.d 2 ?_); refine Sh.bz w (N := 2) (cs := #[.slice A0_0 l0_0.length c0_0, .slice A0_1 l0_1.length c0_1]) (t := 26) (h := ?_); clear HB; intro gb110 w11 BK110 GE110 HB; obtain ⟨hcz12_0, hcz12_1, hfz12_0, hfz12_1⟩ := Sh.b2 BK110.out; have p112 : 0 ≤ ((ji8) : Int) := Sh.od; have q112 : (ji8) < (l0_1.length : Int) := Sh.od; obtain ⟨ad112, e112, hx112_0⟩ := Kd.at_int HR0_1.out (ji8) p112 q112; cases e112; replace hx112_0 := (HB.out.cell (World.block_lt_of_cell? w _ hx112_0)).trans hx112_0; replace p112 := eq_true p112; replace q112 := eq_true q112))
     repeat (go_quiet (first | ((with_reducible refine Sh.d 2 ?_); refine Sh.bz w (N := 2) (cs := #[.slice A0_0 l0_0.length c0_0, .slice A0_1 l0_1.length c0_1]) (t := 26) (h := ?_); clear HB; intro gb110 w11 BK110 GE110 HB; obtain ⟨hcz12_0, hcz12_1, hfz12_0, hfz12_1⟩ := Sh.b2 BK110.out; have p112 : 0 ≤ ((ji8) : Int) := Sh.od; have q112 : (ji8) < (l0_1.length : Int) := Sh.od; obtain ⟨ad112, e112, hx112_0⟩ := Kd.at_int HR0_1.out (ji8) p112 q112; cases e112; replace hx112_0 := (HB.out.cell (World.block_lt_of_cell? w _ hx112_0)).trans hx112_0; replace p112 := eq_true p112; replace q112 := eq_true q112)); try go_wp2_with (first | ((with_reducible refine Sh.d 2 ?_); refine Sh.bz w (N := 2) (cs := #[.slice A0_0 l0_0.length c0_0, .slice A0_1 l0_1.length c0_1]) (t := 26) (h := ?_); clear HB; intro gb110 w11 BK110 GE110 HB; obtain ⟨hcz12_0, hcz12_1, hfz12_0, hfz12_1⟩ := Sh.b2 BK110.out; have p112 : 0 ≤ ((ji8) : Int) := Sh.od; have q112 : (ji8) < (l0_1.length : Int) := Sh.od; obtain ⟨ad112, e112, hx112_0⟩ := Kd.at_int HR0_1.out (ji8) p112 q112; cases e112; replace hx112_0 := (HB.out.cell (World.block_lt_of_cell? w _ hx112_0)).trans hx112_0; replace p112 := eq_true p112; replace q112 := eq_true q112)))
     go_ret
     exact ⟨by first | rfl | (simp [errW_none, errW_some] <;> rfl) | (simp only [← hj1]; first | rfl | (simp [errW_none, errW_some] <;> rfl)) | (simp [*, errW_none, errW_some] <;> rfl), Sh.bw⟩
    ·rw [if_neg c10] at H
     exact absurd H (by simp)
   ·rw [if_neg c9] at H
    exact absurd H (by simp)
def spec_l9First.l0 : Nat → Int → Int → List Int → Int → List Int → List Int → Option (List Int)
 | 0, _, _, _, _, _, _ => none
 | k + 1, x1, x2, x7, x8, x114000, x114001 => if x8 < (wrap64 (x1 + x2)) then ((spec_l9At.f x114000 x114001 x8).bind fun t114 => (if x7.length < 17592186044416 then (spec_l9First.l0 k x1 x2 (x7 ++ [t114]) (wrap64 (x8 + 1)) x114000 x114001) else (none))) else (some x7)
def spec_l9First.f (k : Nat) (l0_0 : List Int) (l0_1 : List Int) (a1 : Int) (a2 : Int) : Option (List Int) := spec_l9First.l0 k a1 a2 ([] : List Int) a1 l0_0 l0_1
theorem spec_l9First.mono_l : ∀ k, (∀ y0 y1 y2 y3 y4 y5, LeO (spec_l9First.l0 k y0 y1 y2 y3 y4 y5) (spec_l9First.l0 (k + 1) y0 y1 y2 y3 y4 y5))
 | 0 => fun _ _ _ _ _ _ r h => by simp [spec_l9First.l0] at h
 | k + 1 => by
  have ih0 := spec_l9First.mono_l k
  ·intro y0 y1 y2 y3 y4 y5
   unfold spec_l9First.l0
   repeat' with_reducible first | apply ih0 | exact LeO.refl _ | exact LeO.none _ | apply LeO.ite | refine LeO.bind ?_ fun _ => ?_
theorem spec_l9First.mono : ∀ a0 a1 a2 a3 k, LeO (spec_l9First.f k a0 a1 a2 a3) (spec_l9First.f (k + 1) a0 a1 a2 a3) := by
 intro a0 a1 a2 a3 k
 have ih0 := spec_l9First.mono_l k
 unfold spec_l9First.f
 repeat' with_reducible first | apply ih0 | exact LeO.refl _ | exact LeO.none _ | apply LeO.ite | refine LeO.bind ?_ fun _ => ?_
theorem spec_l9First.calls (k : Nat) (A0_0 : Option Addr) (c0_0 : Nat) (l0_0 : List Int) (A0_1 : Option Addr) (c0_1 : Nat) (l0_1 : List Int) (a1 : Int) (a2 : Int) (r : List Int) (w : World) (hr0_0 : Kd.C (Kd.int .i64) w A0_0 l0_0.length l0_0) (hc0_0 : l0_0.length ≤ c0_0) (hr0_1 : Kd.C (Kd.int .i64) w A0_1 l0_1.length l0_1) (hc0_1 : l0_1.length ≤ c0_1) (h : spec_l9First.f k l0_0 l0_1 a1 a2 = some r) :
  Calls Try.prog 13 #[.agg #[.slice A0_0 l0_0.length c0_0, .slice A0_1 l0_1.length c0_1], .int .i64 a1, .int .i64 a2] w fun e w' => ∃ v0_ : Value, e = .returned (v0_) ∧ Kd.R (Kd.int .i64) 3 w' w.heap.size (fun _ => True) v0_ r ∧ Below w.heap.size w w' := by
 have hu26 := Try.underlying26
 have HR0_0 := am_ hr0_0
 have HC0_0 := am_ hc0_0
 clear hr0_0 hc0_0
 have HR0_1 := am_ hr0_1
 have HC0_1 := am_ hc0_1
 clear hr0_1 hc0_1
 have HB := am_ (Below.refl w.heap.size w)
 have H := h
 clear h
 unfold spec_l9First.f at H
 have H' := am_ H
 clear H
 go_enter Try.func13, Try.ntmps13
 go_wp2_with (first | ((with_reducible refine Sh.d 3 ?_); refine Sh.bz w (N := 3) (cs := #[.slice A0_0 l0_0.length c0_0, .slice A0_1 l0_1.length c0_1]) (t := 26) (h := ?_); clear HB; intro gb113 w4 BK113 GE113 HB))
 go_loopg [7, 8] k (fun kq v7 v8 w' => ∃ (x7_1 : List Int) (x8_1 : Int), v8 = .int .i64 x8_1 ∧ Aside0 (spec_l9First.l0 kq a1 a2 x7_1 x8_1 l0_0 l0_1 = some r) ∧ Aside0 (kq ≤ k) ∧ Aside0 (Kd.R (Kd.int .i64) 3 w' w.heap.size (fun _ => True) v7 x7_1) ∧ Aside0 (w'.heap[gb113]? = some (.cells #[(.slice A0_0 l0_0.length c0_0), (.slice A0_1 l0_1.length c0_1)] 26 (0, 0))) ∧ Aside0 (Below w.heap.size w w'))
 case atStart => exact ⟨(([] : List Int)), (a1), (Sh.es), H', ⟨Nat.le_refl _⟩, ⟨by first | exact Kd.R_nil _ _ _ _ _ | exact Kd.N_nil _ _ _ _ _ | exact Kd.V_nil _ _ _ _ _ | exact Kd.Q_nil _ _ _ _ _ | exact Kd.S_nil _ _ _ _ _⟩, ⟨by refine Sh.pl ?_; exact BK113.out⟩, ⟨Sh.bw⟩⟩
 case round =>
  clear H'
  obtain ⟨x7_1, x8_1, rfl, HA, HK1, HO_7, BK113, HB⟩ := hrel
  cases gk with
  | zero => exact absurd HA.out (by simp [spec_l9First.l0])
  | succ k1 =>
   have H := HA.out
   clear HA
   simp only [spec_l9First.l0] at H
   by_cases c5 : x8_1 < (wrap64 (a1 + a2))
   ·rw [if_pos c5] at H
    have c5b0 := decide_eq_true c5
    clear c5
    obtain ⟨t114, A6, H⟩ := Sh.ba H
    by_cases c7 : x7_1.length < 17592186044416
    ·rw [if_pos c7] at H
     have LMc7 := am_ c7
     clear c7
     obtain ⟨y115, hy115⟩ : ∃ y_ : List Int, y_ = (x7_1 ++ [t114]) := ⟨_, rfl⟩
     replace H : (spec_l9First.l0 k1 a1 a2 y115 (wrap64 (x8_1 + 1)) l0_0 l0_1) = some r := by first | (rw [hy115]; with_reducible exact H) | (have H2_ := (Option.bind_some _ _).symm.trans H; rw [hy115]; with_reducible exact H2_) | (have H2_ := (Option.bind_some _ _).symm.trans H; with_reducible exact H2_) | with_reducible exact H | (rw [hy115]; exact H) | exact H
     have Ny115 := am_ hy115
     clear hy115
     have H' := am_ H
     clear H
     have hcz8_0 := Sh.bc BK113.out 0
     have hcz8_1 := Sh.bc BK113.out 1
     have hfz8_0 := blk_frozen BK113.out 0
     have hfz8_1 := blk_frozen BK113.out 1
     go_wp2_with (first | ((with_reducible refine Sh.k 25 ?_); refine Sh.gB (some 20) Try.func25 #[.agg #[.slice A0_0 l0_0.length c0_0, .slice A0_1 l0_1.length c0_1], .int .i64 x8_1] (spec_l9At.calls _ _ l0_0 _ _ l0_1 x8_1 t114 _ (Sh.cB HR0_0.out) HC0_0.out (Sh.cB HR0_1.out) HC0_1.out A6.out) fun w9 hb => ?_; replace HO_7 := am_ (Kd.R_below (Sh.rl HO_7.out) hb); replace BK113 := Sh.ab BK113 hb; replace HB := Sh.hb hb; (try clear hb); (try clear hb2); (try clear hk); (try clear hi)) | ((with_reducible refine gate_builtin (b := .append) (xs := #[.tmp 17, .tmp 21]) rfl ?_); at_builtin; refine Kd.R_append (Kd.int .i64) (w0 := w) w.heap.size rfl (.tmp 17) (.tmp 21) 22 3 (.int .i64 0) 8 rfl Try.underlying22 info3 rfl (by decide) (by omega) u7 x7_1 t114 [.int .i64 t114] (fun _ => True) (fun _ => False) rfl rfl ?aP (fun _ hk => hk.elim) ?aF ?aO ?aB ?aS ?aL ?_; (case aP => exact rfl); (case aB => exact Sh.bw); (case aF => exact (fun _ _ => trivial)); (case aO => exact (Sh.rl HO_7.out)); (case aS => exact (below_size Sh.bw)); (case aL => have := LMc7.out; omega); intro v116 w10 ho hb hg hat; rw [← Ny115.out] at ho; have n0_ := am_ (blk_grown (g := gb113) (o := .cells #[.slice A0_0 l0_0.length c0_0, .slice A0_1 l0_1.length c0_1] 26 (0, 0)) (Sh.pl BK113.out) hg (Kd.R_ne HO_7.out BK113.out (by decide))); have n1_ := am_ hb; have n2_ := am_ ho; clear BK113; clear HB; clear HO_7; have BK113 := n0_; have HB := n1_; have HO117 := n2_; clear n0_ n1_ n2_; clear ho hb hg hat))
     go_roundg k1
     case measure => have := HK1.out; omega
     case rel => exact ⟨(y115), (wrap64 (x8_1 + 1)), (Sh.es), H', ⟨by have := HK1.out; omega⟩, ⟨Sh.rl HO117.out⟩, ⟨by refine Sh.pl ?_; exact BK113.out⟩, ⟨Sh.bw⟩⟩
    ·rw [if_neg c7] at H
     exact absurd H (by simp)
   ·rw [if_neg c5] at H
    have c5b0 := decide_eq_false c5
    clear c5
    obtain rfl := Option.some.inj H
    go_wp2
    go_ret
    exact ⟨_, Sh.eR, Sh.rl HO_7.out, Sh.bw⟩
def spec_l1Same.l0 : Nat → List Int → List Int → Int → Int → Option (Bool)
 | 0, _, _, _, _ => none
 | k + 1, x0, x1, x12, x13 => if x13 < x12 then (if 0 ≤ x13 then (if x13 < (x0.length : Int) then (if x13 < (x1.length : Int) then (if (rd x0 x13) = (rd x1 x13) then (spec_l1Same.l0 k x0 x1 x12 (wrap64 (x13 + 1))) else (some false)) else (none)) else (none)) else (none)) else (some true)
def spec_l1Same.f (k : Nat) (l0 : List Int) (l1 : List Int) : Option (Bool) := if (l0.length : Int) = (l1.length : Int) then (spec_l1Same.l0 k l0 l1 (l0.length : Int) 0) else (some false)
theorem spec_l1Same.mono_l : ∀ k, (∀ y0 y1 y2 y3, LeO (spec_l1Same.l0 k y0 y1 y2 y3) (spec_l1Same.l0 (k + 1) y0 y1 y2 y3))
 | 0 => fun _ _ _ _ r h => by simp [spec_l1Same.l0] at h
 | k + 1 => by
  have ih0 := spec_l1Same.mono_l k
  ·intro y0 y1 y2 y3
   unfold spec_l1Same.l0
   repeat' with_reducible first | apply ih0 | exact LeO.refl _ | exact LeO.none _ | apply LeO.ite | refine LeO.bind ?_ fun _ => ?_
theorem spec_l1Same.mono : ∀ a0 a1 k, LeO (spec_l1Same.f k a0 a1) (spec_l1Same.f (k + 1) a0 a1) := by
 intro a0 a1 k
 have ih0 := spec_l1Same.mono_l k
 unfold spec_l1Same.f
 repeat' with_reducible first | apply ih0 | exact LeO.refl _ | exact LeO.none _ | apply LeO.ite | refine LeO.bind ?_ fun _ => ?_
theorem spec_l1Same.calls (k : Nat) (A0 : Option Addr) (c0 : Nat) (l0 : List Int) (A1 : Option Addr) (c1 : Nat) (l1 : List Int) (r : Bool) (w : World) (hr0 : Kd.C (Kd.int .i64) w A0 l0.length l0) (hc0 : l0.length ≤ c0) (hr1 : Kd.C (Kd.int .i64) w A1 l1.length l1) (hc1 : l1.length ≤ c1) (h : spec_l1Same.f k l0 l1 = some r) :
  Calls Try.prog 26 #[.slice A0 l0.length c0, .slice A1 l1.length c1] w fun e w' => e = .returned (.bool r) ∧ Drawn0 w w' := by
 have HR0 := am_ hr0
 have HC0 := am_ hc0
 clear hr0 hc0
 have HR1 := am_ hr1
 have HC1 := am_ hc1
 clear hr1 hc1
 have H := h
 clear h
 unfold spec_l1Same.f at H
 by_cases c3 : (l0.length : Int) = (l1.length : Int)
 ·rw [if_pos c3] at H
  have c3b0 : ((l0.length : Int) == (l1.length : Int)) = true := beq_iff_eq.mpr c3
  have c3b1 : ((l0.length : Int) != (l1.length : Int)) = false := bne_eq_false_iff_eq.mpr c3
  have c3b2 : (l0.length == l1.length) = true := by first | simpa using c3 | (simp at c3 ⊢; omega)
  clear c3
  have H' := am_ H
  clear H
  go_enter Try.func26, Try.ntmps26
  go_wp2
  repeat (go_quiet (fail); try go_wp2)
  go_loopg [13] k (fun kq v13 w' => ∃ (x13_1 : Int), v13 = .int .i64 x13_1 ∧ Aside0 (spec_l1Same.l0 kq l0 l1 (l0.length : Int) x13_1 = some r) ∧ Aside0 (kq ≤ k) ∧ Drawn0 w w')
  case atStart => exact ⟨(0), (Sh.es), H', ⟨Nat.le_refl _⟩, Sh.dr⟩
  case round =>
   clear H'
   obtain ⟨x13_1, rfl, HA, HK1, ⟨m1, rfl⟩⟩ := hrel
   cases gk with
   | zero => exact absurd HA.out (by simp [spec_l1Same.l0])
   | succ k1 =>
    have H := HA.out
    clear HA
    simp only [spec_l1Same.l0] at H
    by_cases c4 : x13_1 < (l0.length : Int)
    ·rw [if_pos c4] at H
     have c4b0 := decide_eq_true c4
     clear c4
     by_cases c5 : 0 ≤ x13_1
     ·rw [if_pos c5] at H
      have c5b0 := decide_eq_true c5
      clear c5
      by_cases c6 : x13_1 < (l0.length : Int)
      ·rw [if_pos c6] at H
       have c6b0 := decide_eq_true c6
       clear c6
       by_cases c7 : x13_1 < (l1.length : Int)
       ·rw [if_pos c7] at H
        have c7b0 := decide_eq_true c7
        clear c7
        by_cases c8 : (rd l0 x13_1) = (rd l1 x13_1)
        ·rw [if_pos c8] at H
         have c8b0 : ((rd l0 x13_1) == (rd l1 x13_1)) = true := beq_iff_eq.mpr c8
         have c8b1 : ((rd l0 x13_1) != (rd l1 x13_1)) = false := bne_eq_false_iff_eq.mpr c8
         clear c8
         have H' := am_ H
         clear H
         have p118 : 0 ≤ (x13_1 : Int) := Sh.od
         have q118 : x13_1 < (l0.length : Int) := Sh.od
         obtain ⟨ad118, e118, hx118_0⟩ := Kd.at_int HR0.out x13_1 p118 q118
         cases e118
         replace p118 := eq_true p118
         replace q118 := eq_true q118
         have p119 : 0 ≤ (x13_1 : Int) := Sh.od
         have q119 : x13_1 < (l1.length : Int) := Sh.od
         obtain ⟨ad119, e119, hx119_0⟩ := Kd.at_int HR1.out x13_1 p119 q119
         cases e119
         replace p119 := eq_true p119
         replace q119 := eq_true q119
         go_wp2
         repeat (go_quiet (fail); try go_wp2)
         go_roundg k1
         case measure => have := HK1.out; omega
         case rel => exact ⟨(wrap64 (x13_1 + 1)), (Sh.es), H', ⟨by have := HK1.out; omega⟩, Sh.dr⟩
        ·rw [if_neg c8] at H
         have c8b0 : ((rd l0 x13_1) == (rd l1 x13_1)) = false := beq_eq_false_iff_ne.mpr c8
         have c8b1 : ((rd l0 x13_1) != (rd l1 x13_1)) = true := bne_iff_ne.mpr c8
         obtain rfl := Option.some.inj H
         have p118 : 0 ≤ (x13_1 : Int) := Sh.od
         have q118 : x13_1 < (l0.length : Int) := Sh.od
         obtain ⟨ad118, e118, hx118_0⟩ := Kd.at_int HR0.out x13_1 p118 q118
         cases e118
         replace p118 := eq_true p118
         replace q118 := eq_true q118
         have p119 : 0 ≤ (x13_1 : Int) := Sh.od
         have q119 : x13_1 < (l1.length : Int) := Sh.od
         obtain ⟨ad119, e119, hx119_0⟩ := Kd.at_int HR1.out x13_1 p119 q119
         cases e119
         replace p119 := eq_true p119
         replace q119 := eq_true q119
         go_wp2
         repeat (go_quiet (fail); try go_wp2)
         go_ret
         exact ⟨Sh.es, Sh.dr⟩
       ·rw [if_neg c7] at H
        exact absurd H (by simp)
      ·rw [if_neg c6] at H
       exact absurd H (by simp)
     ·rw [if_neg c5] at H
      exact absurd H (by simp)
    ·rw [if_neg c4] at H
     have c4b0 := decide_eq_false c4
     clear c4
     obtain rfl := Option.some.inj H
     go_wp2
     repeat (go_quiet (fail); try go_wp2)
     go_ret
     exact ⟨Sh.es, Sh.dr⟩
 ·rw [if_neg c3] at H
  have c3b0 : ((l0.length : Int) == (l1.length : Int)) = false := beq_eq_false_iff_ne.mpr c3
  have c3b1 : ((l0.length : Int) != (l1.length : Int)) = true := bne_iff_ne.mpr c3
  have c3b2 : (l0.length == l1.length) = false := by first | simpa using c3 | (simp at c3 ⊢; omega)
  obtain rfl := Option.some.inj H
  go_enter Try.func26, Try.ntmps26
  go_wp2
  repeat (go_quiet (fail); try go_wp2)
  go_ret
  exact ⟨Sh.es, Sh.dr⟩
def spec_l9Same.f (k : Nat) (l0_0 : List Int) (l0_1 : List Int) (l1_0 : List Int) (l1_1 : List Int) : Option (Bool) := (spec_l9First.f k l0_0 l0_1 0 600).bind fun t122 => ((spec_l9First.f k l1_0 l1_1 0 600).bind fun t125 => ((spec_l1Same.f k t122 t125).bind fun t128 => (some t128)))
theorem spec_l9Same.mono : ∀ a0 a1 a2 a3 k, LeO (spec_l9Same.f k a0 a1 a2 a3) (spec_l9Same.f (k + 1) a0 a1 a2 a3) := by
 intro a0 a1 a2 a3 k
 unfold spec_l9Same.f
 repeat' with_reducible first | apply spec_l1Same.mono | apply spec_l9First.mono | exact LeO.refl _ | exact LeO.none _ | apply LeO.ite | refine LeO.bind ?_ fun _ => ?_
def spec_l9Same.T2 : Bool × List (List Nat × List Nat) := (true, [([], []), ([], []), ([0, 1], [0, 1]), ([], []), ([], []), ([3, 4, 2], [3, 4]), ([2, 5, 5], [2, 5]), ([6, 6, 0, 1, 2, 3, 4, 5, 6], [6])])
def spec_l9Same.B2 : List Nat := [0, 0, 3, 0, 0, 31, 63, 127]
theorem spec_l9Same.tab2 : rtab .any (opsOf Try.f14 2) = spec_l9Same.T2 := by kernel_rfl
theorem spec_l9Same.bits2 : waitsOk spec_l9Same.T2.2 spec_l9Same.B2 = true := by kernel_rfl
theorem spec_l9Same.calls (k : Nat) (A0_0 : Option Addr) (c0_0 : Nat) (l0_0 : List Int) (A0_1 : Option Addr) (c0_1 : Nat) (l0_1 : List Int) (A1_0 : Option Addr) (c1_0 : Nat) (l1_0 : List Int) (A1_1 : Option Addr) (c1_1 : Nat) (l1_1 : List Int) (r : Bool) (w : World) (hr0_0 : Kd.C (Kd.int .i64) w A0_0 l0_0.length l0_0) (hc0_0 : l0_0.length ≤ c0_0) (hr0_1 : Kd.C (Kd.int .i64) w A0_1 l0_1.length l0_1) (hc0_1 : l0_1.length ≤ c0_1) (hr1_0 : Kd.C (Kd.int .i64) w A1_0 l1_0.length l1_0) (hc1_0 : l1_0.length ≤ c1_0) (hr1_1 : Kd.C (Kd.int .i64) w A1_1 l1_1.length l1_1) (hc1_1 : l1_1.length ≤ c1_1) (h : spec_l9Same.f k l0_0 l0_1 l1_0 l1_1 = some r) :
  Calls Try.prog 14 #[.agg #[.slice A0_0 l0_0.length c0_0, .slice A0_1 l0_1.length c0_1], .agg #[.slice A1_0 l1_0.length c1_0, .slice A1_1 l1_1.length c1_1]] w fun e w' => e = .returned (.bool r) ∧ Below w.heap.size w w' := by
 have hu26 := Try.underlying26
 have HR0_0 := am_ hr0_0
 have HC0_0 := am_ hc0_0
 clear hr0_0 hc0_0
 have HR0_1 := am_ hr0_1
 have HC0_1 := am_ hc0_1
 clear hr0_1 hc0_1
 have HR1_0 := am_ hr1_0
 have HC1_0 := am_ hc1_0
 clear hr1_0 hc1_0
 have HR1_1 := am_ hr1_1
 have HC1_1 := am_ hc1_1
 clear hr1_1 hc1_1
 have HB := am_ (Below.refl w.heap.size w)
 have H := h
 clear h
 unfold spec_l9Same.f at H
 obtain ⟨t122, A3, H⟩ := Sh.ba H
 obtain ⟨t125, A4, H⟩ := Sh.ba H
 obtain ⟨t128, A5, H⟩ := Sh.ba H
 obtain rfl := Option.some.inj H
 go_enter Try.func14, Try.ntmps14
 try go_wp2_with (first | ((with_reducible refine Sh.d 2 ?_); refine Sh.bz w (N := 2) (cs := #[.slice A0_0 l0_0.length c0_0, .slice A0_1 l0_1.length c0_1]) (t := 26) (h := ?_); clear HB; intro gb120 w6 BK120 GE120 HB) | ((with_reducible refine Sh.d 3 ?_); refine Sh.bx (N := 3) (cs := #[.slice A1_0 l1_0.length c1_0, .slice A1_1 l1_1.length c1_1]) (t := 26) (h := ?_); intro gb121 hg w7 hbox hb; have BK121 := am_ hbox; have GE121 := Sh.ag w hg; replace HB := Sh.hb hb; have NB120_121 := am_ (Sh.nl hg BK120.out); have NB121_120 := am_ (Sh.ng hg BK120.out); replace BK120 := Sh.ab BK120 hb; clear hb hbox hg))
 replace BK120 := am_ (blk_drew BK120.out)
 replace BK121 := am_ (blk_drew BK121.out)
 replace HB := am_ (below_drew1 HB.out)
 refine start_ (n := 8) (S := fun w' => w'.cell? ⟨gb120, 0, none⟩ = some (.slice A0_0 l0_0.length c0_0) ∧ w'.cell? ⟨gb120, 1, none⟩ = some (.slice A0_1 l0_1.length c0_1) ∧ w'.cell? ⟨gb121, 0, none⟩ = some (.slice A1_0 l1_0.length c1_0) ∧ w'.cell? ⟨gb121, 1, none⟩ = some (.slice A1_1 l1_1.length c1_1)) (ds := []) (Sh.nm 8 0) (by kernel_rfl) rfl rfl Sh.cs (fun hHeld => ?_); refine with_tabW spec_l9Same.tab2 spec_l9Same.bits2 (fun HT_ HW_ => ?_)
 generalize w7.drew = w8 at BK120 BK121 HB hHeld ⊢
 refine Sh.qA 1 ?_; refine Sh.qA 4 ?_; refine Sh.qT 0 hHeld ?_; refine Sh.qT 3 hHeld ?_
 refine Sh.oC 2 Try.func13 #[.agg #[.slice A0_0 l0_0.length c0_0, .slice A0_1 l0_1.length c0_1], .int .i64 0, .int .i64 600] fun K hK => ?_
 with_reducible refine (spec_l9First.calls k _ _ l0_0 _ _ l0_1 0 600 t122 _ (Sh.cB HR0_0.out) HC0_0.out (Sh.cB HR0_1.out) HC0_1.out A3.out).mono ?_
 rintro e w9 ⟨v123, rfl, ho0, hb⟩
 refine ⟨_, rfl, ?_⟩
 have HO124 := am_ (Kd.R_lower ho0 (below_size Sh.bw))
 replace BK120 := Sh.ab BK120 hb
 replace BK121 := Sh.ab BK121 hb
 replace HB := Sh.hb hb
 (try clear hb)
 (try clear hb2)
 (try clear hk)
 (try clear hi)
 (try clear ho0)
 refine Sh.kN hK Sh.cs fun hHeld => ?_
 clear hK K
 refine Sh.oC 5 Try.func13 #[.agg #[.slice A1_0 l1_0.length c1_0, .slice A1_1 l1_1.length c1_1], .int .i64 0, .int .i64 600] fun K hK => ?_
 with_reducible refine (spec_l9First.calls k _ _ l1_0 _ _ l1_1 0 600 t125 _ (Sh.cB HR1_0.out) HC1_0.out (Sh.cB HR1_1.out) HC1_1.out A4.out).mono ?_
 rintro e w10 ⟨v126, rfl, ho0, hb⟩
 refine ⟨_, rfl, ?_⟩
 have HO127 := am_ (Kd.R_lower (Kd.R_new' ho0 (Kd.R_lt (Sh.rl HO124.out))) (below_size Sh.bw))
 replace HO124 := am_ (Kd.R_elder' (Sh.rl HO124.out) (Kd.R_base ho0) hb)
 replace BK120 := Sh.ab BK120 hb
 replace BK121 := Sh.ab BK121 hb
 replace HB := Sh.hb hb
 (try clear hb)
 (try clear hb2)
 (try clear hk)
 (try clear hi)
 (try clear ho0)
 obtain ⟨Ao11, co11, eo11⟩ := Kd.R_slice HO124.out
 (first | subst eo11 | (injection eo11 with f1_ f2_ f3_; have f4_ := f1_.symm; have f5_ := f3_.symm; clear f1_ f2_ f3_; subst f4_; subst f5_))
 obtain ⟨Ao12, co12, eo12⟩ := Kd.R_slice HO127.out
 (first | subst eo12 | (injection eo12 with f1_ f2_ f3_; have f4_ := f1_.symm; have f5_ := f3_.symm; clear f1_ f2_ f3_; subst f4_; subst f5_))
 refine Sh.kN hK Sh.cs fun hHeld => ?_
 clear hK K
 refine Sh.oC 6 Try.func26 #[.slice Ao11 t122.length co11, .slice Ao12 t125.length co12] fun K hK => ?_
 with_reducible refine (spec_l1Same.calls k _ _ t122 _ _ t125 t128 _ (Sh.cR (Kd.R_reads' HO124.out).2.2) (Kd.R_reads' HO124.out).2.1 (Sh.cR (Kd.R_reads' HO127.out).2.2) (Kd.R_reads' HO127.out).2.1 A5.out).mono ?_
 rintro e w' ⟨rfl, ⟨nd, rfl⟩⟩
 refine ⟨_, rfl, ?_⟩
 refine Sh.kN hK Sh.cs fun hHeld => ?_
 clear hK K
 refine Sh.qA 7 ?_
 refine done_ (done_of HT_.out (by kernel_rfl)) ?_
 try go_wp2
 go_ret
 exact ⟨Sh.eR, Sh.bw⟩
def spec_l1Own.f (l0 : List Int) : Option (List Int) := (some (([] : List Int) : List Int)).bind fun y129 => (if y129.length + l0.length < 17592186044416 then (some (y129 ++ l0)) else (none))
theorem spec_l1Own.calls (A0 : Option Addr) (c0 : Nat) (l0 : List Int) (r : List Int) (w : World) (hr0 : Kd.C (Kd.int .i64) w A0 l0.length l0) (hc0 : l0.length ≤ c0) (h : spec_l1Own.f l0 = some r) :
  Calls Try.prog 15 #[.slice A0 l0.length c0] w fun e w' => ∃ v0_ : Value, e = .returned (v0_) ∧ Kd.R (Kd.int .i64) 3 w' w.heap.size (fun _ => True) v0_ r ∧ Below w.heap.size w w' := by
 have HR0 := am_ hr0
 have HC0 := am_ hc0
 clear hr0 hc0
 have HB := am_ (Below.refl w.heap.size w)
 have H := h
 clear h
 unfold spec_l1Own.f at H
 obtain ⟨y129, hy129⟩ : ∃ y_ : List Int, y_ = (([] : List Int)) := ⟨_, rfl⟩
 replace H : (if y129.length + l0.length < 17592186044416 then (some (y129 ++ l0)) else (none)) = some r := by first | (rw [hy129]; with_reducible exact H) | (have H2_ := (Option.bind_some _ _).symm.trans H; rw [hy129]; with_reducible exact H2_) | (have H2_ := (Option.bind_some _ _).symm.trans H; with_reducible exact H2_) | with_reducible exact H | (rw [hy129]; exact H) | exact H
 have Ny129 := am_ hy129
 clear hy129
 by_cases c2 : y129.length + l0.length < 17592186044416
 ·rw [if_pos c2] at H
  have LMc2 := am_ c2
  clear c2
  obtain ⟨y132, hy132⟩ : ∃ y_ : List Int, y_ = (y129 ++ l0) := ⟨_, rfl⟩
  replace H : (some y132) = some r := by first | (rw [hy132]; with_reducible exact H) | (have H2_ := (Option.bind_some _ _).symm.trans H; rw [hy132]; with_reducible exact H2_) | (have H2_ := (Option.bind_some _ _).symm.trans H; with_reducible exact H2_) | with_reducible exact H | (rw [hy132]; exact H) | exact H
  have Ny132 := am_ hy132
  clear hy132
  obtain rfl := Option.some.inj H
  go_enter Try.func15, Try.ntmps15
  go_wp2_with (first | ((with_reducible refine Sh.d 3 ?_); refine Kd.R_lit (Kd.int .i64) _ 3 ?hg (N := 3) ?hd (xs := ([] : List Int)) (inner := []) (ok := fun _ => True) (okp := fun _ => True) ?hr ?hp (fun _ hk => hk) trivial (Below.refl _ _) (Nat.le_refl _) (by simp) ?_; (case hd => rfl); (case hg => rfl); (case hr => first | (go_simp; done) | (go_simp; rfl)); (case hp => exact (Reps.none _ _)); intro v130 w3 ho4 hb hg_ hnew_; clear hg_ hnew_; (first | rw [← Ny129.out] at ho4 | (simp only [Int.reduceToNat] at ho4; rw [← Ny129.out] at ho4)); have HO131 := am_ (Kd.R_lower ho4 (below_size Sh.bw)); replace HB := Sh.hb hb; clear hb ho4) | ((with_reducible refine gate_builtin (b := .append) (xs := #[.tmp 3, .tmp 4]) rfl ?_); at_builtin; refine Kd.R_append_rows (Kd.int .i64) (w0 := w) w.heap.size rfl (.tmp 3) (.tmp 4) 22 3 (.int .i64 0) 8 rfl Try.underlying22 info3 rfl (by decide) (by omega) v130 y129 l0 _ _ _ (fun _ => True) (fun _ => False) rfl rfl ?aO ?aR (fun _ _ h => h) (fun _ h => h.elim) ?aF ?aB ?aS ?aL ?_; (case aR => repeat (first | exact (Kd.C_below HR0.out HB.out) | (with_reducible first | refine Kd.C_alloc ?_ _ | refine Kd.C_drewN ?_ _ | refine Kd.C_drew ?_))); (case aB => exact Sh.bw); (case aF => exact (fun _ _ => trivial)); (case aO => exact (Sh.rl HO131.out)); (case aS => exact (below_size Sh.bw)); (case aL => have := LMc2.out; omega); intro v133 w5 ho hb hg hat; rw [← Ny132.out] at ho; have n0_ := am_ hb; have n1_ := am_ ho; clear HB; clear HO131; have HB := n0_; have HO134 := n1_; clear n0_ n1_; clear ho hb hg hat))
  go_ret
  exact ⟨_, Sh.eR, Sh.rl HO134.out, Sh.bw⟩
 ·rw [if_neg c2] at H
  exact absurd H (by simp)
mutual
def spec_LeastLasso.l0 : Nat → Int → List Int → List Int → Option (List Int × List Int × Bool)
 | 0, _, _, _ => none
 | k + 1, x4, x136000, x136001 => if x4 < (x136001.length : Int) then (spec_LeastLasso.l1 k x4 0 x136000 x136001) else (spec_LeastLasso.l2 k 0 x136000 x136001)
def spec_LeastLasso.l1 : Nat → Int → Int → List Int → List Int → Option (List Int × List Int × Bool)
 | 0, _, _, _, _ => none
 | k + 1, x4, x5, x136000, x136001 => if x5 ≤ (x136000.length : Int) then ((spec_l9First.f k x136000 x136001 0 x5).bind fun t138 => ((spec_l9First.f k x136000 x136001 x5 x4).bind fun t141 => ((spec_l9Same.f k t138 t141 x136000 x136001).bind fun t145 => (if t145 = true then (some (t138, t141, true)) else (spec_LeastLasso.l1 k x4 (wrap64 (x5 + 1)) x136000 x136001))))) else (spec_LeastLasso.l0 k (wrap64 (x4 + 1)) x136000 x136001)
def spec_LeastLasso.l2 : Nat → Int → List Int → List Int → Option (List Int × List Int × Bool)
 | 0, _, _, _ => none
 | k + 1, x7, x136000, x136001 => if x7 < (x136000.length : Int) then ((spec_l9First.f k x136000 x136001 0 x7).bind fun t152 => ((spec_l9First.f k x136000 x136001 x7 (x136001.length : Int)).bind fun t155 => ((spec_l9Same.f k t152 t155 x136000 x136001).bind fun t159 => (if t159 = true then (some (t152, t155, true)) else (spec_LeastLasso.l2 k (wrap64 (x7 + 1)) x136000 x136001))))) else ((spec_l1Own.f x136000).bind fun t146 => ((spec_l1Own.f x136001).bind fun t149 => (some (t146, t149, true))))
end
def spec_LeastLasso.f (k : Nat) (l0_0 : List Int) (l0_1 : List Int) : Option (List Int × List Int × Bool) := (spec_GoodLasso.f k l0_0 l0_1).bind fun t137 => (if t137 = true then (spec_LeastLasso.l0 k 1 l0_0 l0_1) else (some (([] : List Int), ([] : List Int), false)))
theorem spec_LeastLasso.mono_l : ∀ k, (∀ y0 y1 y2, LeO (spec_LeastLasso.l0 k y0 y1 y2) (spec_LeastLasso.l0 (k + 1) y0 y1 y2)) ∧ (∀ y0 y1 y2 y3, LeO (spec_LeastLasso.l1 k y0 y1 y2 y3) (spec_LeastLasso.l1 (k + 1) y0 y1 y2 y3)) ∧ (∀ y0 y1 y2, LeO (spec_LeastLasso.l2 k y0 y1 y2) (spec_LeastLasso.l2 (k + 1) y0 y1 y2))
 | 0 => ⟨fun _ _ _ r h => by simp [spec_LeastLasso.l0] at h, fun _ _ _ _ r h => by simp [spec_LeastLasso.l1] at h, fun _ _ _ r h => by simp [spec_LeastLasso.l2] at h⟩
 | k + 1 => by
  obtain ⟨ih0, ih1, ih2⟩ := spec_LeastLasso.mono_l k
  and_intros <;> intros
  all_goals (first | unfold spec_LeastLasso.l0 | unfold spec_LeastLasso.l1 | unfold spec_LeastLasso.l2)
  all_goals repeat' with_reducible first | apply ih0 | apply ih1 | apply ih2 | apply spec_GoodLasso.mono | apply spec_l9First.mono | apply spec_l9Same.mono | exact LeO.refl _ | exact LeO.none _ | apply LeO.ite | refine LeO.bind ?_ fun _ => ?_
theorem spec_LeastLasso.mono : ∀ a0 a1 k, LeO (spec_LeastLasso.f k a0 a1) (spec_LeastLasso.f (k + 1) a0 a1) := by
 intro a0 a1 k
 obtain ⟨ih0, ih1, ih2⟩ := spec_LeastLasso.mono_l k
 unfold spec_LeastLasso.f
 repeat' with_reducible first | apply ih0 | apply ih1 | apply ih2 | apply spec_GoodLasso.mono | apply spec_l9First.mono | apply spec_l9Same.mono | exact LeO.refl _ | exact LeO.none _ | apply LeO.ite | refine LeO.bind ?_ fun _ => ?_
def spec_LeastLasso.T9 : Bool × List (List Nat × List Nat) := (true, [([], []), ([], []), ([0, 1], [0, 1]), ([], []), ([], []), ([], []), ([3, 4, 5, 2], [3, 4, 5]), ([2, 6], [2, 6]), ([], []), ([8, 7, 6, 0, 1, 2, 3, 4, 5, 6, 7, 8], [7, 8])])
def spec_LeastLasso.B9 : List Nat := [0, 0, 3, 0, 0, 0, 63, 127, 0, 511]
theorem spec_LeastLasso.tab9 : rtab .any (opsOf Try.f5 9) = spec_LeastLasso.T9 := by kernel_rfl
theorem spec_LeastLasso.bits9 : waitsOk spec_LeastLasso.T9.2 spec_LeastLasso.B9 = true := by kernel_rfl
def spec_LeastLasso.T15 : Bool × List (List Nat × List Nat) := (true, [([], []), ([], []), ([0, 1], [0, 1]), ([], []), ([], []), ([], []), ([5], [5]), ([6], [6]), ([3, 4, 7, 2], [3, 4, 7]), ([2, 8], [2, 8]), ([], []), ([10, 9, 8, 0, 1, 2, 3, 4, 5, 6, 7, 8, 9, 10], [9, 10])])
def spec_LeastLasso.B15 : List Nat := [0, 0, 3, 0, 0, 0, 32, 96, 255, 511, 0, 2047]
theorem spec_LeastLasso.tab15 : rtab .any (opsOf Try.f5 15) = spec_LeastLasso.T15 := by kernel_rfl
theorem spec_LeastLasso.bits15 : waitsOk spec_LeastLasso.T15.2 spec_LeastLasso.B15 = true := by kernel_rfl
def spec_LeastLasso.T18 : Bool × List (List Nat × List Nat) := (true, [([], []), ([0], [0]), ([1], [1]), ([], []), ([3], [3]), ([4, 2], [4]), ([2, 5], [2, 5]), ([6, 5, 0, 1, 2, 3, 4, 5, 6], [6]), ([7, 0, 1, 2, 3, 4, 5, 6, 7], [])])
def spec_LeastLasso.B18 : List Nat := [0, 1, 3, 0, 8, 31, 63, 127, 255]
theorem spec_LeastLasso.tab18 : rtab .any (opsOf Try.f5 18) = spec_LeastLasso.T18 := by kernel_rfl
theorem spec_LeastLasso.bits18 : waitsOk spec_LeastLasso.T18.2 spec_LeastLasso.B18 = true := by kernel_rfl
theorem spec_LeastLasso.calls (k : Nat) (A0_0 : Option Addr) (c0_0 : Nat) (l0_0 : List Int) (A0_1 : Option Addr) (c0_1 : Nat) (l0_1 : List Int) (r1 : List Int) (r2 : List Int) (r3 : Bool) (w : World) (hr0_0 : Kd.C (Kd.int .i64) w A0_0 l0_0.length l0_0) (hc0_0 : l0_0.length ≤ c0_0) (hr0_1 : Kd.C (Kd.int .i64) w A0_1 l0_1.length l0_1) (hc0_1 : l0_1.length ≤ c0_1) (h : spec_LeastLasso.f k l0_0 l0_1 = some (r1, r2, r3)) :
  Calls Try.prog 5 #[.agg #[.slice A0_0 l0_0.length c0_0, .slice A0_1 l0_1.length c0_1]] w fun e w' => ∃ v0_ v1_ : Value, e = .returned (.tuple #[.agg #[v0_, v1_], .bool r3]) ∧ Kd.R (Kd.int .i64) 3 w' w.heap.size (fun k_ => some k_ ≠ (v1_ : Value).ownBlock) v0_ r1 ∧ Kd.R (Kd.int .i64) 3 w' w.heap.size (fun k_ => some k_ ≠ (v0_ : Value).ownBlock) v1_ r2 ∧ Below w.heap.size w w' := by
 have hu26 := Try.underlying26
 have HR0_0 := am_ hr0_0
 have HC0_0 := am_ hc0_0
 clear hr0_0 hc0_0
 have HR0_1 := am_ hr0_1
 have HC0_1 := am_ hc0_1
 clear hr0_1 hc0_1
 have HB := am_ (Below.refl w.heap.size w)
 have H := h
 clear h
 unfold spec_LeastLasso.f at H
 obtain ⟨t137, A2, H⟩ := Sh.ba H
 by_cases c3 : t137 = true
 ·subst c3
  rw [if_pos rfl] at H
  have H' := am_ H
  clear H
  go_enter Try.func5, Try.ntmps5
  go_wp2_with (first | ((with_reducible refine Sh.d 1 ?_); refine Sh.bz w (N := 1) (cs := #[.slice A0_0 l0_0.length c0_0, .slice A0_1 l0_1.length c0_1]) (t := 26) (h := ?_); clear HB; intro gb135 w4 BK135 GE135 HB) | ((with_reducible refine Sh.d 2 ?_); refine Sh.bx (N := 2) (cs := #[.slice none 0 0, .slice none 0 0]) (t := 26) (h := ?_); intro gb136 hg w5 hbox hb; have BK136 := am_ hbox; have GE136 := Sh.ag w hg; replace HB := Sh.hb hb; have NB135_136 := am_ (Sh.nl hg BK135.out); have NB136_135 := am_ (Sh.ng hg BK135.out); replace BK135 := Sh.ab BK135 hb; clear hb hbox hg; have hnb6 := NB135_136.out; have hnc6 := NB136_135.out; obtain ⟨hcz7_0, hcz7_1, hfz7_0, hfz7_1⟩ := Sh.b2 BK135.out) | ((with_reducible refine Sh.k 12 ?_); refine Sh.gB (some 10) Try.func12 #[.agg #[.slice A0_0 l0_0.length c0_0, .slice A0_1 l0_1.length c0_1]] (spec_GoodLasso.calls k _ _ l0_0 _ _ l0_1 true _ (Sh.cB HR0_0.out) HC0_0.out (Sh.cB HR0_1.out) HC0_1.out A2.out) fun w8 hb => ?_; replace BK135 := Sh.ab BK135 hb; replace BK136 := Sh.ab BK136 hb; replace HB := Sh.hb hb; (try clear hb); (try clear hb2); (try clear hk); (try clear hi)))
  go_loopg [4] k (fun kq v4 w' => ∃ (x4_1 : Int), v4 = .int .i64 x4_1 ∧ Aside0 (spec_LeastLasso.l0 kq x4_1 l0_0 l0_1 = some (r1, r2, r3)) ∧ Aside0 (kq ≤ k) ∧ Aside0 (w'.heap[gb135]? = some (.cells #[(.slice A0_0 l0_0.length c0_0), (.slice A0_1 l0_1.length c0_1)] 26 (0, 0))) ∧ Aside0 (w'.heap[gb136]? = some (.cells #[(.slice none 0 0), (.slice none 0 0)] 26 (0, 0))) ∧ Aside0 (Below w.heap.size w w'))
  case atStart => exact ⟨(1), (Sh.es), H', ⟨Nat.le_refl _⟩, ⟨by refine Sh.pl ?_; exact BK135.out⟩, ⟨by refine Sh.pl ?_; exact BK136.out⟩, ⟨Sh.bw⟩⟩
  case round =>
   clear H'
   try clear hcz7_0
   try clear hcz7_1
   try clear hfz7_0
   try clear hfz7_1
   obtain ⟨x4_1, rfl, HA, HK1, BK135, BK136, HB⟩ := hrel
   cases gk with
   | zero => exact absurd HA.out (by simp [spec_LeastLasso.l0])
   | succ k1 =>
    have H := HA.out
    clear HA
    simp only [spec_LeastLasso.l0] at H
    by_cases c9 : x4_1 < (l0_1.length : Int)
    ·rw [if_pos c9] at H
     have c9b0 := decide_eq_true c9
     clear c9
     have H' := am_ H
     clear H
     have hnb10 := NB135_136.out
     have hnc10 := NB136_135.out
     have hcz11_0 := Sh.bc BK135.out 0
     have hcz11_1 := Sh.bc BK135.out 1
     have hfz11_0 := blk_frozen BK135.out 0
     have hfz11_1 := blk_frozen BK135.out 1
     go_wp2
     go_loopg [5] k1 (fun kq v5 w' => ∃ (x5_2 : Int), v5 = .int .i64 x5_2 ∧ Aside0 (spec_LeastLasso.l1 kq x4_1 x5_2 l0_0 l0_1 = some (r1, r2, r3)) ∧ Aside0 (kq ≤ k1) ∧ Aside0 (w'.heap[gb135]? = some (.cells #[(.slice A0_0 l0_0.length c0_0), (.slice A0_1 l0_1.length c0_1)] 26 (0, 0))) ∧ Aside0 (w'.heap[gb136]? = some (.cells #[(.slice none 0 0), (.slice none 0 0)] 26 (0, 0))) ∧ Aside0 (Below w.heap.size w w'))
     case atStart => exact ⟨(0), (Sh.es), H', ⟨Nat.le_refl _⟩, ⟨by refine Sh.pl ?_; exact BK135.out⟩, ⟨by refine Sh.pl ?_; exact BK136.out⟩, ⟨Sh.bw⟩⟩
     case round =>
      clear H'
      try clear hcz11_0
      try clear hcz11_1
      try clear hcz7_0
      try clear hcz7_1
      try clear hfz11_0
      try clear hfz11_1
      try clear hfz7_0
      try clear hfz7_1
      obtain ⟨x5_2, rfl, HA, HK2, BK135, BK136, HB⟩ := hrel
      cases gk with
      | zero => exact absurd HA.out (by simp [spec_LeastLasso.l1])
      | succ k2 =>
       have H := HA.out
       clear HA
       simp only [spec_LeastLasso.l1] at H
       by_cases c12 : x5_2 ≤ (l0_0.length : Int)
       ·rw [if_pos c12] at H
        have c12b0 := decide_eq_true c12
        clear c12
        obtain ⟨t138, A13, H⟩ := Sh.ba H
        obtain ⟨t141, A14, H⟩ := Sh.ba H
        obtain ⟨t145, A15, H⟩ := Sh.ba H
        by_cases c16 : t145 = true
        ·subst c16
         rw [if_pos rfl] at H
         simp only [Option.some.injEq, Prod.mk.injEq] at H
         obtain ⟨rfl, rfl, rfl⟩ := H
         have hnb17 := NB135_136.out
         have hnc17 := NB136_135.out
         have hcz18_0 := Sh.bc BK135.out 0
         have hcz18_1 := Sh.bc BK135.out 1
         have hfz18_0 := blk_frozen BK135.out 0
         have hfz18_1 := blk_frozen BK135.out 1
         try go_wp2
         replace BK135 := am_ (blk_drew BK135.out)
         replace BK136 := am_ (blk_drew BK136.out)
         replace HB := am_ (below_drew1 HB.out)
         refine start_ (n := 10) (S := fun w' => w'.cell? ⟨gb135, 0, none⟩ = some (.slice A0_0 l0_0.length c0_0) ∧ w'.cell? ⟨gb135, 1, none⟩ = some (.slice A0_1 l0_1.length c0_1)) (ds := []) (Sh.nm 10 0) (by kernel_rfl) rfl rfl Sh.cs (fun hHeld => ?_); refine with_tabW spec_LeastLasso.tab9 spec_LeastLasso.bits9 (fun HT_ HW_ => ?_)
         generalize wr.drew = w19 at BK135 BK136 HB hHeld ⊢
         refine Sh.qA 1 ?_; refine Sh.qA 4 ?_; refine Sh.qA 5 ?_; refine Sh.qT 0 hHeld ?_; refine Sh.qT 3 hHeld ?_
         refine join_ (σ := Value × Value × Nat) 1 (Sh.nm 10 511) (fun s_ => [(29, s_.1), (33, s_.2.1), (6, .pointer (some ⟨s_.2.2, 0, none⟩)), (34, .agg #[s_.1, s_.2.1])]) (fun s_ w' => (w'.cell? ⟨gb135, 0, none⟩ = some (.slice A0_0 l0_0.length c0_0) ∧ w'.cell? ⟨gb135, 1, none⟩ = some (.slice A0_1 l0_1.length c0_1)) ∧ (Kd.R (Kd.int .i64) 3 w' w.heap.size (fun k_ => some k_ ≠ (s_.2.1 : Value).ownBlock) s_.1 t138) ∧ (Kd.R (Kd.int .i64) 3 w' w.heap.size (fun k_ => some k_ ≠ (s_.1 : Value).ownBlock) s_.2.1 t141) ∧ (w'.heap[gb135]? = some (.cells #[.slice A0_0 l0_0.length c0_0, .slice A0_1 l0_1.length c0_1] 26 (0, 0))) ∧ (w'.heap[gb136]? = some (.cells #[.slice none 0 0, .slice none 0 0] 26 (0, 0))) ∧ (w'.heap[s_.2.2]? = some (.cells #[.slice none 0 0, .slice none 0 0] 26 (0, 0))) ∧ (w.heap.size ≤ s_.2.2) ∧ (w.heap.size ≤ s_.2.2) ∧ (gb135 ≠ s_.2.2) ∧ (s_.2.2 ≠ gb135) ∧ (gb136 ≠ s_.2.2) ∧ (s_.2.2 ≠ gb136) ∧ (Below w.heap.size w w')) ?_ ?_
         rotate_left
         ·intro hCont
          refine two_ (i := 2) (j := 8) (Ni := some 29) (Nj := some 6) (Sh.nm 10 63) (Sh.nm 10 315) rfl rfl rfl rfl (two_of HT_.out (by kernel_rfl)) (by decide) (by decide) (fun K hK => ?_) (fun K hK => ?_)
          ·skip
           refine goes_ Try.func13 (by kernel_rfl) rfl #[.agg #[.slice A0_0 l0_0.length c0_0, .slice A0_1 l0_1.length c0_1], .int .i64 0, .int .i64 x5_2] (by rfl) rfl rfl (by (try simp only [List.map_toArray, List.map_cons, List.map_nil]); first | done | rfl | (simp only [List.length_drop, List.length_take]; rfl)) ?_
           with_reducible refine (spec_l9First.calls k2 _ _ l0_0 _ _ l0_1 0 x5_2 t138 _ (Sh.cB HR0_0.out) HC0_0.out (Sh.cB HR0_1.out) HC0_1.out A13.out).mono ?_
           rintro e w20 ⟨v139, rfl, ho0, hb⟩
           refine ⟨_, rfl, ?_⟩
           have HO140 := am_ (Kd.R_lower ho0 (below_size Sh.bw))
           replace BK135 := Sh.ab BK135 hb
           replace BK136 := Sh.ab BK136 hb
           replace HB := Sh.hb hb
           (try clear hb)
           (try clear hb2)
           (try clear hk)
           (try clear hi)
           (try clear ho0)
           refine Sh.kN hK Sh.cs fun hHeld => ?_
           clear hK K
           refine two_ (i := 6) (j := 8) (Ni := some 33) (Nj := some 6) (Sh.nm 10 127) (Sh.nm 10 319) rfl rfl rfl rfl (two_of HT_.out (by kernel_rfl)) (by decide) (by decide) (fun K hK => ?_) (fun K hK => ?_)
           ·skip
            refine goes_ Try.func13 (by kernel_rfl) rfl #[.agg #[.slice A0_0 l0_0.length c0_0, .slice A0_1 l0_1.length c0_1], .int .i64 x5_2, .int .i64 x4_1] (by rfl) rfl rfl (by (try simp only [List.map_toArray, List.map_cons, List.map_nil]); first | done | rfl | (simp only [List.length_drop, List.length_take]; rfl)) ?_
            with_reducible refine (spec_l9First.calls k2 _ _ l0_0 _ _ l0_1 x5_2 x4_1 t141 _ (Sh.cB HR0_0.out) HC0_0.out (Sh.cB HR0_1.out) HC0_1.out A14.out).mono ?_
            rintro e w21 ⟨v142, rfl, ho0, hb⟩
            refine ⟨_, rfl, ?_⟩
            have HO143 := am_ (Kd.R_lower (Kd.R_new' ho0 (Kd.R_lt (Sh.rl HO140.out))) (below_size Sh.bw))
            replace HO140 := am_ (Kd.R_elder' (Sh.rl HO140.out) (Kd.R_base ho0) hb)
            replace BK135 := Sh.ab BK135 hb
            replace BK136 := Sh.ab BK136 hb
            replace HB := Sh.hb hb
            (try clear hb)
            (try clear hb2)
            (try clear hk)
            (try clear hi)
            (try clear ho0)
            refine Sh.kN hK Sh.cs fun hHeld => ?_
            clear hK K
            first | refine Sh.qA 7 ?_ | refine Sh.qA 7 ?_ (v := .agg #[v139, v142]) (hy := by intro w'; obtain ⟨A1_, c1_, e1_⟩ : ∃ A c, v139 = .slice A _ c := Kd.R_slice (Aside0.out (by assumption)); obtain ⟨A2_, c2_, e2_⟩ : ∃ A c, v142 = .slice A _ c := Kd.R_slice (Aside0.out (by assumption)); rw [e1_, e2_]; first | (go_simp; done) | (go_simp; rfl))
            refine one_ (i := 8) (N := some 6) (Sh.nm 10 511) rfl rfl (one_of HT_.out (by kernel_rfl)) (by decide) (fun K hK => ?_)
            obtain ⟨Ao22, co22, eo22⟩ := Kd.R_slice HO143.out
            (first | subst eo22 | (injection eo22 with f1_ f2_ f3_; have f4_ := f1_.symm; have f5_ := f3_.symm; clear f1_ f2_ f3_; subst f4_; subst f5_))
            obtain ⟨Ao23, co23, eo23⟩ := Kd.R_slice HO140.out
            (first | subst eo23 | (injection eo23 with f1_ f2_ f3_; have f4_ := f1_.symm; have f5_ := f3_.symm; clear f1_ f2_ f3_; subst f4_; subst f5_))
            refine box_step ?hg (N := 6) ?hd (cs := #[.slice none 0 0, .slice none 0 0]) (t := 26) ?hr ?_; (case hd => rfl); (case hg => rfl); (case hr => first | (go_simp; done) | (go_simp; rfl))
            intro gb144 hg w24 hbox hb
            replace HO140 := am_ (Kd.R_below (Sh.rl HO140.out) hb)
            replace HO143 := am_ (Kd.R_below (Sh.rl HO143.out) hb)
            have BK144 := am_ hbox
            have GW144 := Sh.ag w hg
            have GE144 := Sh.ag w hg
            replace HB := Sh.hb hb
            have NB135_144 := am_ (Sh.nl hg BK135.out)
            have NB144_135 := am_ (Sh.ng hg BK135.out)
            replace BK135 := Sh.ab BK135 hb
            have NB136_144 := am_ (Sh.nl hg BK136.out)
            have NB144_136 := am_ (Sh.ng hg BK136.out)
            replace BK136 := Sh.ab BK136 hb
            clear hb hbox hg
            refine Sh.kN hK Sh.cs fun hHeld => ?_
            clear hK K
            exact norm_ (by simp only [putAll, Act.put, List.setIfInBounds_toArray, List.set_cons_zero, List.set_cons_succ]) (hCont (.slice Ao23 t138.length co23, .slice Ao22 t141.length co22, gb144) _ ⟨hHeld, (Sh.rl (Kd.R_mono HO140.out (fun _ hk => hk.2))), (Sh.rl (Kd.R_mono HO143.out (fun _ hk => hk.2))), (Sh.pl BK135.out), (Sh.pl BK136.out), (Sh.pl BK144.out), GW144.out, GE144.out, NB135_144.out, NB144_135.out, NB136_144.out, NB144_136.out, Sh.bw⟩)
           ·skip
            refine box_step ?hg (N := 6) ?hd (cs := #[.slice none 0 0, .slice none 0 0]) (t := 26) ?hr ?_; (case hd => rfl); (case hg => rfl); (case hr => first | (go_simp; done) | (go_simp; rfl))
            intro gb144 hg w21 hbox hb
            replace HO140 := am_ (Kd.R_below (Sh.rl HO140.out) hb)
            have BK144 := am_ hbox
            have GW144 := Sh.ag w hg
            have GE144 := Sh.ag w hg
            replace HB := Sh.hb hb
            have NB135_144 := am_ (Sh.nl hg BK135.out)
            have NB144_135 := am_ (Sh.ng hg BK135.out)
            replace BK135 := Sh.ab BK135 hb
            have NB136_144 := am_ (Sh.nl hg BK136.out)
            have NB144_136 := am_ (Sh.ng hg BK136.out)
            replace BK136 := Sh.ab BK136 hb
            clear hb hbox hg
            refine Sh.kN hK Sh.cs fun hHeld => ?_
            clear hK K
            refine Sh.oC 6 Try.func13 #[.agg #[.slice A0_0 l0_0.length c0_0, .slice A0_1 l0_1.length c0_1], .int .i64 x5_2, .int .i64 x4_1] fun K hK => ?_
            with_reducible refine (spec_l9First.calls k2 _ _ l0_0 _ _ l0_1 x5_2 x4_1 t141 _ (Sh.cB HR0_0.out) HC0_0.out (Sh.cB HR0_1.out) HC0_1.out A14.out).mono ?_
            rintro e w22 ⟨v142, rfl, ho0, hb⟩
            refine ⟨_, rfl, ?_⟩
            have HO143 := am_ (Kd.R_lower (Kd.R_new' ho0 (Kd.R_lt (Sh.rl HO140.out))) (below_size Sh.bw))
            replace HO140 := am_ (Kd.R_elder' (Sh.rl HO140.out) (Kd.R_base ho0) hb)
            replace BK135 := Sh.ab BK135 hb
            replace BK136 := Sh.ab BK136 hb
            replace BK144 := Sh.ab BK144 hb
            replace HB := Sh.hb hb
            (try clear hb)
            (try clear hb2)
            (try clear hk)
            (try clear hi)
            (try clear ho0)
            obtain ⟨Ao23, co23, eo23⟩ := Kd.R_slice HO143.out
            (first | subst eo23 | (injection eo23 with f1_ f2_ f3_; have f4_ := f1_.symm; have f5_ := f3_.symm; clear f1_ f2_ f3_; subst f4_; subst f5_))
            obtain ⟨Ao24, co24, eo24⟩ := Kd.R_slice HO140.out
            (first | subst eo24 | (injection eo24 with f1_ f2_ f3_; have f4_ := f1_.symm; have f5_ := f3_.symm; clear f1_ f2_ f3_; subst f4_; subst f5_))
            refine Sh.kN hK Sh.cs fun hHeld => ?_
            clear hK K
            first | refine Sh.qA 7 ?_ | refine Sh.qA 7 ?_ (v := .agg #[v139, v142]) (hy := by intro w'; obtain ⟨A1_, c1_, e1_⟩ : ∃ A c, v139 = .slice A _ c := Kd.R_slice (Aside0.out (by assumption)); obtain ⟨A2_, c2_, e2_⟩ : ∃ A c, v142 = .slice A _ c := Kd.R_slice (Aside0.out (by assumption)); rw [e1_, e2_]; first | (go_simp; done) | (go_simp; rfl))
            exact norm_ (by simp only [putAll, Act.put, List.setIfInBounds_toArray, List.set_cons_zero, List.set_cons_succ]) (hCont (.slice Ao24 t138.length co24, .slice Ao23 t141.length co23, gb144) _ ⟨hHeld, (Sh.rl (Kd.R_mono HO140.out (fun _ hk => hk.2))), (Sh.rl (Kd.R_mono HO143.out (fun _ hk => hk.2))), (Sh.pl BK135.out), (Sh.pl BK136.out), (Sh.pl BK144.out), GW144.out, GE144.out, NB135_144.out, NB144_135.out, NB136_144.out, NB144_136.out, Sh.bw⟩)
          ·skip
           refine box_step ?hg (N := 6) ?hd (cs := #[.slice none 0 0, .slice none 0 0]) (t := 26) ?hr ?_; (case hd => rfl); (case hg => rfl); (case hr => first | (go_simp; done) | (go_simp; rfl))
           intro gb144 hg w20 hbox hb
           have BK144 := am_ hbox
           have GW144 := Sh.ag w hg
           have GE144 := Sh.ag w hg
           replace HB := Sh.hb hb
           have NB135_144 := am_ (Sh.nl hg BK135.out)
           have NB144_135 := am_ (Sh.ng hg BK135.out)
           replace BK135 := Sh.ab BK135 hb
           have NB136_144 := am_ (Sh.nl hg BK136.out)
           have NB144_136 := am_ (Sh.ng hg BK136.out)
           replace BK136 := Sh.ab BK136 hb
           clear hb hbox hg
           refine Sh.kN hK Sh.cs fun hHeld => ?_
           clear hK K
           refine Sh.oC 2 Try.func13 #[.agg #[.slice A0_0 l0_0.length c0_0, .slice A0_1 l0_1.length c0_1], .int .i64 0, .int .i64 x5_2] fun K hK => ?_
           with_reducible refine (spec_l9First.calls k2 _ _ l0_0 _ _ l0_1 0 x5_2 t138 _ (Sh.cB HR0_0.out) HC0_0.out (Sh.cB HR0_1.out) HC0_1.out A13.out).mono ?_
           rintro e w21 ⟨v139, rfl, ho0, hb⟩
           refine ⟨_, rfl, ?_⟩
           have HO140 := am_ (Kd.R_lower ho0 (below_size Sh.bw))
           replace BK135 := Sh.ab BK135 hb
           replace BK136 := Sh.ab BK136 hb
           replace BK144 := Sh.ab BK144 hb
           replace HB := Sh.hb hb
           (try clear hb)
           (try clear hb2)
           (try clear hk)
           (try clear hi)
           (try clear ho0)
           refine Sh.kN hK Sh.cs fun hHeld => ?_
           clear hK K
           refine Sh.oC 6 Try.func13 #[.agg #[.slice A0_0 l0_0.length c0_0, .slice A0_1 l0_1.length c0_1], .int .i64 x5_2, .int .i64 x4_1] fun K hK => ?_
           with_reducible refine (spec_l9First.calls k2 _ _ l0_0 _ _ l0_1 x5_2 x4_1 t141 _ (Sh.cB HR0_0.out) HC0_0.out (Sh.cB HR0_1.out) HC0_1.out A14.out).mono ?_
           rintro e w22 ⟨v142, rfl, ho0, hb⟩
           refine ⟨_, rfl, ?_⟩
           have HO143 := am_ (Kd.R_lower (Kd.R_new' ho0 (Kd.R_lt (Sh.rl HO140.out))) (below_size Sh.bw))
           replace HO140 := am_ (Kd.R_elder' (Sh.rl HO140.out) (Kd.R_base ho0) hb)
           replace BK135 := Sh.ab BK135 hb
           replace BK136 := Sh.ab BK136 hb
           replace BK144 := Sh.ab BK144 hb
           replace HB := Sh.hb hb
           (try clear hb)
           (try clear hb2)
           (try clear hk)
           (try clear hi)
           (try clear ho0)
           obtain ⟨Ao23, co23, eo23⟩ := Kd.R_slice HO143.out
           (first | subst eo23 | (injection eo23 with f1_ f2_ f3_; have f4_ := f1_.symm; have f5_ := f3_.symm; clear f1_ f2_ f3_; subst f4_; subst f5_))
           obtain ⟨Ao24, co24, eo24⟩ := Kd.R_slice HO140.out
           (first | subst eo24 | (injection eo24 with f1_ f2_ f3_; have f4_ := f1_.symm; have f5_ := f3_.symm; clear f1_ f2_ f3_; subst f4_; subst f5_))
           refine Sh.kN hK Sh.cs fun hHeld => ?_
           clear hK K
           first | refine Sh.qA 7 ?_ | refine Sh.qA 7 ?_ (v := .agg #[v139, v142]) (hy := by intro w'; obtain ⟨A1_, c1_, e1_⟩ : ∃ A c, v139 = .slice A _ c := Kd.R_slice (Aside0.out (by assumption)); obtain ⟨A2_, c2_, e2_⟩ : ∃ A c, v142 = .slice A _ c := Kd.R_slice (Aside0.out (by assumption)); rw [e1_, e2_]; first | (go_simp; done) | (go_simp; rfl))
           exact norm_ (by simp only [putAll, Act.put, List.setIfInBounds_toArray, List.set_cons_zero, List.set_cons_succ]) (hCont (.slice Ao24 t138.length co24, .slice Ao23 t141.length co23, gb144) _ ⟨hHeld, (Sh.rl (Kd.R_mono HO140.out (fun _ hk => hk.2))), (Sh.rl (Kd.R_mono HO143.out (fun _ hk => hk.2))), (Sh.pl BK135.out), (Sh.pl BK136.out), (Sh.pl BK144.out), GW144.out, GE144.out, NB135_144.out, NB144_135.out, NB136_144.out, NB144_136.out, Sh.bw⟩)
         rintro ⟨v139, v142, gb144⟩ w25 ⟨hS_, h0_, h1_, h2_, h3_, h4_, h5_, h6_, h7_, h8_, h9_, h10_, h11_⟩
         have n0_ : Aside0 (Kd.R (Kd.int .i64) 3 w25 w.heap.size (fun k_ => some k_ ≠ (v142 : Value).ownBlock) v139 t138) := ⟨h0_⟩
         have n1_ : Aside0 (Kd.R (Kd.int .i64) 3 w25 w.heap.size (fun k_ => some k_ ≠ (v139 : Value).ownBlock) v142 t141) := ⟨h1_⟩
         have n2_ : Aside0 (w25.heap[gb135]? = some (.cells #[.slice A0_0 l0_0.length c0_0, .slice A0_1 l0_1.length c0_1] 26 (0, 0))) := ⟨h2_⟩
         have n3_ : Aside0 (w25.heap[gb136]? = some (.cells #[.slice none 0 0, .slice none 0 0] 26 (0, 0))) := ⟨h3_⟩
         have n4_ : Aside0 (w25.heap[gb144]? = some (.cells #[.slice none 0 0, .slice none 0 0] 26 (0, 0))) := ⟨h4_⟩
         have n5_ : Aside0 (w.heap.size ≤ gb144) := ⟨h5_⟩
         have n6_ : Aside0 (w.heap.size ≤ gb144) := ⟨h6_⟩
         have n7_ : Aside0 (gb135 ≠ gb144) := ⟨h7_⟩
         have n8_ : Aside0 (gb144 ≠ gb135) := ⟨h8_⟩
         have n9_ : Aside0 (gb136 ≠ gb144) := ⟨h9_⟩
         have n10_ : Aside0 (gb144 ≠ gb136) := ⟨h10_⟩
         have n11_ : Aside0 (Below w.heap.size w w25) := ⟨h11_⟩
         clear BK135
         clear BK136
         clear HB
         clear h0_ h1_ h2_ h3_ h4_ h5_ h6_ h7_ h8_ h9_ h10_ h11_
         have HO140 := n0_
         have HO143 := n1_
         have BK135 := n2_
         have BK136 := n3_
         have BK144 := n4_
         have GW144 := n5_
         have GE144 := n6_
         have NB135_144 := n7_
         have NB144_135 := n8_
         have NB136_144 := n9_
         have NB144_136 := n10_
         have HB := n11_
         clear n0_ n1_ n2_ n3_ n4_ n5_ n6_ n7_ n8_ n9_ n10_ n11_
         have hHeld : w25.cell? ⟨gb135, 0, none⟩ = some (.slice A0_0 l0_0.length c0_0) ∧ w25.cell? ⟨gb135, 1, none⟩ = some (.slice A0_1 l0_1.length c0_1) := hS_
         obtain ⟨Ao26, co26, eo26⟩ := Kd.R_slice HO143.out
         (first | subst eo26 | (injection eo26 with f1_ f2_ f3_; have f4_ := f1_.symm; have f5_ := f3_.symm; clear f1_ f2_ f3_; subst f4_; subst f5_))
         obtain ⟨Ao27, co27, eo27⟩ := Kd.R_slice HO140.out
         (first | subst eo27 | (injection eo27 with f1_ f2_ f3_; have f4_ := f1_.symm; have f5_ := f3_.symm; clear f1_ f2_ f3_; subst f4_; subst f5_))
         refine norm_ (a' := ?_) ?_ ?_
         rotate_left
         ·simp only [putAll, Act.put, List.setIfInBounds_toArray, List.set_cons_zero, List.set_cons_succ]
          rfl
         refine one_ (i := 9) (N := none) (Sh.nm 10 1023) rfl rfl (one_of HT_.out (by kernel_rfl)) (by decide) (fun K hK => ?_)
         have hs28 : w25.cell? ⟨gb144, 0, none⟩ = some (.slice none 0 0) := (blk_cell BK144.out 0).trans rfl
         have hfs28 := blk_frozen BK144.out 0
         have hns28_0 := NB135_144.out
         have hns28_1 := NB136_144.out
         have hms28_0 := NB144_135.out
         have hms28_1 := NB144_136.out
         have hs29 : w25.cell? ⟨gb144, 1, none⟩ = some (.slice none 0 0) := (blk_cell BK144.out 1).trans rfl
         have hfs29 := blk_frozen BK144.out 1
         have hns29_0 := NB135_144.out
         have hns29_1 := NB136_144.out
         have hms29_0 := NB144_135.out
         have hms29_1 := NB144_136.out
         refine skip_ (w1 := ?_) (by rfl) rfl ?_ ?_
         rotate_left
         ·go_simp
          rfl
         refine hK.out _ _ ⟨((cell_far (p := ⟨gb144, _, none⟩) NB135_144.out _).trans (((cell_far (p := ⟨gb144, _, none⟩) NB135_144.out _).trans (hHeld.1)))), ((cell_far (p := ⟨gb144, _, none⟩) NB135_144.out _).trans (((cell_far (p := ⟨gb144, _, none⟩) NB135_144.out _).trans (hHeld.2))))⟩ (fun hHeld => ?_)
         clear hK K
         refine done_ (done_of HT_.out (by kernel_rfl)) ?_
         have hnb30 := NB144_135.out
         have hnc30 := NB135_144.out
         have hnb31 := NB144_136.out
         have hnc31 := NB136_144.out
         have hcz32_0 := Sh.bc BK144.out 0
         have hcz32_1 := Sh.bc BK144.out 1
         have hfz32_0 := blk_frozen BK144.out 0
         have hfz32_1 := blk_frozen BK144.out 1
         have hcz33_0 := Sh.bc BK135.out 0
         have hcz33_1 := Sh.bc BK135.out 1
         have hfz33_0 := blk_frozen BK135.out 0
         have hfz33_1 := blk_frozen BK135.out 1
         try go_wp2_with (first | ((with_reducible refine Sh.k 14 ?_); refine Sh.gL (some 37) Try.func14 #[.agg #[.slice Ao27 t138.length co27, .slice Ao26 t141.length co26], .agg #[.slice A0_0 l0_0.length c0_0, .slice A0_1 l0_1.length c0_1]] (h := ?_); (with_reducible refine (spec_l9Same.calls k2 _ _ t138 _ _ t141 _ _ l0_0 _ _ l0_1 true _ ?side1 ?side2 ?side3 ?side4 ?side5 ?side6 ?side7 ?side8 A15.out).mono ?_); (case side1 => refine (Kd.R_reads' (e := 3) (base := w.heap.size) (ok := fun k_ => some k_ ≠ (.slice Ao26 t141.length co26 : Value).ownBlock) (n := t138.length) (c := co27) ?_).2.2; exact (Sh.rl (Kd.R_mono (Kd.R_far (p := ⟨gb144, 1, none⟩) (Kd.R_far (p := ⟨gb144, 0, none⟩) (Kd.R_types HO140.out BK144.out (by decide)) (fun _ hk => hk.2) (.slice Ao27 t138.length co27)) (fun _ hk => hk.2) (.slice Ao26 t141.length co26)) (fun _ h_ => h_.1)))); (case side2 => exact (Kd.R_reads' HO140.out).2.1); (case side3 => refine (Kd.R_reads' (e := 3) (base := w.heap.size) (ok := fun k_ => some k_ ≠ (.slice Ao27 t138.length co27 : Value).ownBlock) (n := t141.length) (c := co26) ?_).2.2; exact (Sh.rl (Kd.R_mono (Kd.R_far (p := ⟨gb144, 1, none⟩) (Kd.R_far (p := ⟨gb144, 0, none⟩) (Kd.R_types HO143.out BK144.out (by decide)) (fun _ hk => hk.2) (.slice Ao27 t138.length co27)) (fun _ hk => hk.2) (.slice Ao26 t141.length co26)) (fun _ h_ => h_.1)))); (case side4 => exact (Kd.R_reads' HO143.out).2.1); (case side5 => exact Kd.C_below HR0_0.out Sh.bw); (case side6 => exact HC0_0.out); (case side7 => exact Kd.C_below HR0_1.out Sh.bw); (case side8 => exact HC0_1.out); rintro e w34 ⟨rfl, hb⟩; refine ⟨_, rfl, ?_⟩; replace HO140 := am_ (Kd.R_below (Sh.rl (Kd.R_mono (Kd.R_far (p := ⟨gb144, 1, none⟩) (Kd.R_far (p := ⟨gb144, 0, none⟩) (Kd.R_types HO140.out BK144.out (by decide)) (fun _ hk => hk.2) (.slice Ao27 t138.length co27)) (fun _ hk => hk.2) (.slice Ao26 t141.length co26)) (fun _ h_ => h_.1))) hb); replace HO143 := am_ (Kd.R_below (Sh.rl (Kd.R_mono (Kd.R_far (p := ⟨gb144, 1, none⟩) (Kd.R_far (p := ⟨gb144, 0, none⟩) (Kd.R_types HO143.out BK144.out (by decide)) (fun _ hk => hk.2) (.slice Ao27 t138.length co27)) (fun _ hk => hk.2) (.slice Ao26 t141.length co26)) (fun _ h_ => h_.1))) hb); replace BK135 := am_ (blk_below (g := gb135) (o := .cells #[.slice A0_0 l0_0.length c0_0, .slice A0_1 l0_1.length c0_1] 26 (0, 0)) (by refine Sh.pl ?_; refine blk_far ?_ NB135_144.out _; refine Sh.pl ?_; refine blk_far ?_ NB135_144.out _; refine Sh.pl ?_; exact BK135.out) hb); replace BK136 := am_ (blk_below (g := gb136) (o := .cells #[.slice none 0 0, .slice none 0 0] 26 (0, 0)) (by refine Sh.pl ?_; refine blk_far ?_ NB136_144.out _; refine Sh.pl ?_; refine blk_far ?_ NB136_144.out _; refine Sh.pl ?_; exact BK136.out) hb); replace BK144 := am_ (blk_below (g := gb144) (o := .cells #[.slice Ao27 t138.length co27, .slice Ao26 t141.length co26] 26 (0, 0)) (by refine Sh.pl ?_; refine blk_put (cs := #[.slice Ao27 t138.length co27, .slice none 0 0]) ?_ 1 _ rfl; refine Sh.pl ?_; refine blk_put (cs := #[.slice none 0 0, .slice none 0 0]) ?_ 0 _ rfl; refine Sh.pl ?_; exact BK144.out) hb); replace HB := Sh.hb hb; (try clear hb); (try clear hb2); (try clear hk); (try clear hi); obtain ⟨hcz35_0, hcz35_1, hfz35_0, hfz35_1⟩ := Sh.b2 BK144.out; obtain ⟨hcz36_0, hcz36_1, hfz36_0, hfz36_1⟩ := Sh.b2 BK136.out))
         refine bodyPost_ret (results_ct rfl _ _ gb136 26 #[.slice Ao27 t138.length co27, .slice Ao26 t141.length co26] (0, 0) _ rfl (by refine Sh.pl ?_; refine blk_put (cs := #[.slice Ao27 t138.length co27, .slice none 0 0]) ?_ 1 _ rfl; refine Sh.pl ?_; refine blk_put (cs := #[.slice none 0 0, .slice none 0 0]) ?_ 0 _ rfl; refine Sh.pl ?_; exact BK136.out) Try.underlying26 rfl (by kernel_rfl)) rfl ?_
         exact ⟨_, _, by first | rfl | (simp [errW_none, errW_some] <;> rfl) | (simp [*, errW_none, errW_some] <;> rfl), Sh.rl (Kd.R_mono (Kd.R_far (p := ⟨gb136, 1, none⟩) (Kd.R_far (p := ⟨gb136, 0, none⟩) (Kd.R_types HO140.out BK136.out (by decide)) (fun _ hk => hk.2) (.slice Ao27 t138.length co27)) (fun _ hk => hk.2) (.slice Ao26 t141.length co26)) (fun _ hk => hk.1)), Sh.rl (Kd.R_mono (Kd.R_far (p := ⟨gb136, 1, none⟩) (Kd.R_far (p := ⟨gb136, 0, none⟩) (Kd.R_types HO143.out BK136.out (by decide)) (fun _ hk => hk.2) (.slice Ao27 t138.length co27)) (fun _ hk => hk.2) (.slice Ao26 t141.length co26)) (fun _ hk => hk.1)), Sh.bw⟩
        ·replace c16 := Bool.eq_false_iff.mpr c16
         subst c16
         rw [Sh.nf] at H
         have H' := am_ H
         clear H
         have hnb37 := NB135_136.out
         have hnc37 := NB136_135.out
         have hcz38_0 := Sh.bc BK135.out 0
         have hcz38_1 := Sh.bc BK135.out 1
         have hfz38_0 := blk_frozen BK135.out 0
         have hfz38_1 := blk_frozen BK135.out 1
         try go_wp2
         replace BK135 := am_ (blk_drew BK135.out)
         replace BK136 := am_ (blk_drew BK136.out)
         replace HB := am_ (below_drew1 HB.out)
         refine start_ (n := 10) (S := fun w' => w'.cell? ⟨gb135, 0, none⟩ = some (.slice A0_0 l0_0.length c0_0) ∧ w'.cell? ⟨gb135, 1, none⟩ = some (.slice A0_1 l0_1.length c0_1)) (ds := []) (Sh.nm 10 0) (by kernel_rfl) rfl rfl Sh.cs (fun hHeld => ?_); refine with_tabW spec_LeastLasso.tab9 spec_LeastLasso.bits9 (fun HT_ HW_ => ?_)
         generalize wr.drew = w39 at BK135 BK136 HB hHeld ⊢
         refine Sh.qA 1 ?_; refine Sh.qA 4 ?_; refine Sh.qA 5 ?_; refine Sh.qT 0 hHeld ?_; refine Sh.qT 3 hHeld ?_
         refine join_ (σ := Value × Value × Nat) 1 (Sh.nm 10 511) (fun s_ => [(29, s_.1), (33, s_.2.1), (6, .pointer (some ⟨s_.2.2, 0, none⟩)), (34, .agg #[s_.1, s_.2.1])]) (fun s_ w' => (w'.cell? ⟨gb135, 0, none⟩ = some (.slice A0_0 l0_0.length c0_0) ∧ w'.cell? ⟨gb135, 1, none⟩ = some (.slice A0_1 l0_1.length c0_1)) ∧ (Kd.R (Kd.int .i64) 3 w' w.heap.size (fun k_ => some k_ ≠ (s_.2.1 : Value).ownBlock) s_.1 t138) ∧ (Kd.R (Kd.int .i64) 3 w' w.heap.size (fun k_ => some k_ ≠ (s_.1 : Value).ownBlock) s_.2.1 t141) ∧ (w'.heap[gb135]? = some (.cells #[.slice A0_0 l0_0.length c0_0, .slice A0_1 l0_1.length c0_1] 26 (0, 0))) ∧ (w'.heap[gb136]? = some (.cells #[.slice none 0 0, .slice none 0 0] 26 (0, 0))) ∧ (w'.heap[s_.2.2]? = some (.cells #[.slice none 0 0, .slice none 0 0] 26 (0, 0))) ∧ (w.heap.size ≤ s_.2.2) ∧ (w.heap.size ≤ s_.2.2) ∧ (gb135 ≠ s_.2.2) ∧ (s_.2.2 ≠ gb135) ∧ (gb136 ≠ s_.2.2) ∧ (s_.2.2 ≠ gb136) ∧ (Below w.heap.size w w')) ?_ ?_
         rotate_left
         ·intro hCont
          refine two_ (i := 2) (j := 8) (Ni := some 29) (Nj := some 6) (Sh.nm 10 63) (Sh.nm 10 315) rfl rfl rfl rfl (two_of HT_.out (by kernel_rfl)) (by decide) (by decide) (fun K hK => ?_) (fun K hK => ?_)
          ·skip
           refine goes_ Try.func13 (by kernel_rfl) rfl #[.agg #[.slice A0_0 l0_0.length c0_0, .slice A0_1 l0_1.length c0_1], .int .i64 0, .int .i64 x5_2] (by rfl) rfl rfl (by (try simp only [List.map_toArray, List.map_cons, List.map_nil]); first | done | rfl | (simp only [List.length_drop, List.length_take]; rfl)) ?_
           with_reducible refine (spec_l9First.calls k2 _ _ l0_0 _ _ l0_1 0 x5_2 t138 _ (Sh.cB HR0_0.out) HC0_0.out (Sh.cB HR0_1.out) HC0_1.out A13.out).mono ?_
           rintro e w40 ⟨v139, rfl, ho0, hb⟩
           refine ⟨_, rfl, ?_⟩
           have HO140 := am_ (Kd.R_lower ho0 (below_size Sh.bw))
           replace BK135 := Sh.ab BK135 hb
           replace BK136 := Sh.ab BK136 hb
           replace HB := Sh.hb hb
           (try clear hb)
           (try clear hb2)
           (try clear hk)
           (try clear hi)
           (try clear ho0)
           refine Sh.kN hK Sh.cs fun hHeld => ?_
           clear hK K
           refine two_ (i := 6) (j := 8) (Ni := some 33) (Nj := some 6) (Sh.nm 10 127) (Sh.nm 10 319) rfl rfl rfl rfl (two_of HT_.out (by kernel_rfl)) (by decide) (by decide) (fun K hK => ?_) (fun K hK => ?_)
           ·skip
            refine goes_ Try.func13 (by kernel_rfl) rfl #[.agg #[.slice A0_0 l0_0.length c0_0, .slice A0_1 l0_1.length c0_1], .int .i64 x5_2, .int .i64 x4_1] (by rfl) rfl rfl (by (try simp only [List.map_toArray, List.map_cons, List.map_nil]); first | done | rfl | (simp only [List.length_drop, List.length_take]; rfl)) ?_
            with_reducible refine (spec_l9First.calls k2 _ _ l0_0 _ _ l0_1 x5_2 x4_1 t141 _ (Sh.cB HR0_0.out) HC0_0.out (Sh.cB HR0_1.out) HC0_1.out A14.out).mono ?_
            rintro e w41 ⟨v142, rfl, ho0, hb⟩
            refine ⟨_, rfl, ?_⟩
            have HO143 := am_ (Kd.R_lower (Kd.R_new' ho0 (Kd.R_lt (Sh.rl HO140.out))) (below_size Sh.bw))
            replace HO140 := am_ (Kd.R_elder' (Sh.rl HO140.out) (Kd.R_base ho0) hb)
            replace BK135 := Sh.ab BK135 hb
            replace BK136 := Sh.ab BK136 hb
            replace HB := Sh.hb hb
            (try clear hb)
            (try clear hb2)
            (try clear hk)
            (try clear hi)
            (try clear ho0)
            refine Sh.kN hK Sh.cs fun hHeld => ?_
            clear hK K
            first | refine Sh.qA 7 ?_ | refine Sh.qA 7 ?_ (v := .agg #[v139, v142]) (hy := by intro w'; obtain ⟨A1_, c1_, e1_⟩ : ∃ A c, v139 = .slice A _ c := Kd.R_slice (Aside0.out (by assumption)); obtain ⟨A2_, c2_, e2_⟩ : ∃ A c, v142 = .slice A _ c := Kd.R_slice (Aside0.out (by assumption)); rw [e1_, e2_]; first | (go_simp; done) | (go_simp; rfl))
            refine one_ (i := 8) (N := some 6) (Sh.nm 10 511) rfl rfl (one_of HT_.out (by kernel_rfl)) (by decide) (fun K hK => ?_)
            obtain ⟨Ao42, co42, eo42⟩ := Kd.R_slice HO143.out
            (first | subst eo42 | (injection eo42 with f1_ f2_ f3_; have f4_ := f1_.symm; have f5_ := f3_.symm; clear f1_ f2_ f3_; subst f4_; subst f5_))
            obtain ⟨Ao43, co43, eo43⟩ := Kd.R_slice HO140.out
            (first | subst eo43 | (injection eo43 with f1_ f2_ f3_; have f4_ := f1_.symm; have f5_ := f3_.symm; clear f1_ f2_ f3_; subst f4_; subst f5_))
            refine box_step ?hg (N := 6) ?hd (cs := #[.slice none 0 0, .slice none 0 0]) (t := 26) ?hr ?_; (case hd => rfl); (case hg => rfl); (case hr => first | (go_simp; done) | (go_simp; rfl))
            intro gb144 hg w44 hbox hb
            replace HO140 := am_ (Kd.R_below (Sh.rl HO140.out) hb)
            replace HO143 := am_ (Kd.R_below (Sh.rl HO143.out) hb)
            have BK144 := am_ hbox
            have GW144 := Sh.ag w hg
            have GE144 := Sh.ag w hg
            replace HB := Sh.hb hb
            have NB135_144 := am_ (Sh.nl hg BK135.out)
            have NB144_135 := am_ (Sh.ng hg BK135.out)
            replace BK135 := Sh.ab BK135 hb
            have NB136_144 := am_ (Sh.nl hg BK136.out)
            have NB144_136 := am_ (Sh.ng hg BK136.out)
            replace BK136 := Sh.ab BK136 hb
            clear hb hbox hg
            refine Sh.kN hK Sh.cs fun hHeld => ?_
            clear hK K
            exact norm_ (by simp only [putAll, Act.put, List.setIfInBounds_toArray, List.set_cons_zero, List.set_cons_succ]) (hCont (.slice Ao43 t138.length co43, .slice Ao42 t141.length co42, gb144) _ ⟨hHeld, (Sh.rl (Kd.R_mono HO140.out (fun _ hk => hk.2))), (Sh.rl (Kd.R_mono HO143.out (fun _ hk => hk.2))), (Sh.pl BK135.out), (Sh.pl BK136.out), (Sh.pl BK144.out), GW144.out, GE144.out, NB135_144.out, NB144_135.out, NB136_144.out, NB144_136.out, Sh.bw⟩)
           ·skip
            refine box_step ?hg (N := 6) ?hd (cs := #[.slice none 0 0, .slice none 0 0]) (t := 26) ?hr ?_; (case hd => rfl); (case hg => rfl); (case hr => first | (go_simp; done) | (go_simp; rfl))
            intro gb144 hg w41 hbox hb
            replace HO140 := am_ (Kd.R_below (Sh.rl HO140.out) hb)
            have BK144 := am_ hbox
            have GW144 := Sh.ag w hg
            have GE144 := Sh.ag w hg
            replace HB := Sh.hb hb
            have NB135_144 := am_ (Sh.nl hg BK135.out)
            have NB144_135 := am_ (Sh.ng hg BK135.out)
            replace BK135 := Sh.ab BK135 hb
            have NB136_144 := am_ (Sh.nl hg BK136.out)
            have NB144_136 := am_ (Sh.ng hg BK136.out)
            replace BK136 := Sh.ab BK136 hb
            clear hb hbox hg
            refine Sh.kN hK Sh.cs fun hHeld => ?_
            clear hK K
            refine Sh.oC 6 Try.func13 #[.agg #[.slice A0_0 l0_0.length c0_0, .slice A0_1 l0_1.length c0_1], .int .i64 x5_2, .int .i64 x4_1] fun K hK => ?_
            with_reducible refine (spec_l9First.calls k2 _ _ l0_0 _ _ l0_1 x5_2 x4_1 t141 _ (Sh.cB HR0_0.out) HC0_0.out (Sh.cB HR0_1.out) HC0_1.out A14.out).mono ?_
            rintro e w42 ⟨v142, rfl, ho0, hb⟩
            refine ⟨_, rfl, ?_⟩
            have HO143 := am_ (Kd.R_lower (Kd.R_new' ho0 (Kd.R_lt (Sh.rl HO140.out))) (below_size Sh.bw))
            replace HO140 := am_ (Kd.R_elder' (Sh.rl HO140.out) (Kd.R_base ho0) hb)
            replace BK135 := Sh.ab BK135 hb
            replace BK136 := Sh.ab BK136 hb
            replace BK144 := Sh.ab BK144 hb
            replace HB := Sh.hb hb
            (try clear hb)
            (try clear hb2)
            (try clear hk)
            (try clear hi)
            (try clear ho0)
            obtain ⟨Ao43, co43, eo43⟩ := Kd.R_slice HO143.out
            (first | subst eo43 | (injection eo43 with f1_ f2_ f3_; have f4_ := f1_.symm; have f5_ := f3_.symm; clear f1_ f2_ f3_; subst f4_; subst f5_))
            obtain ⟨Ao44, co44, eo44⟩ := Kd.R_slice HO140.out
            (first | subst eo44 | (injection eo44 with f1_ f2_ f3_; have f4_ := f1_.symm; have f5_ := f3_.symm; clear f1_ f2_ f3_; subst f4_; subst f5_))
            refine Sh.kN hK Sh.cs fun hHeld => ?_
            clear hK K
            first | refine Sh.qA 7 ?_ | refine Sh.qA 7 ?_ (v := .agg #[v139, v142]) (hy := by intro w'; obtain ⟨A1_, c1_, e1_⟩ : ∃ A c, v139 = .slice A _ c := Kd.R_slice (Aside0.out (by assumption)); obtain ⟨A2_, c2_, e2_⟩ : ∃ A c, v142 = .slice A _ c := Kd.R_slice (Aside0.out (by assumption)); rw [e1_, e2_]; first | (go_simp; done) | (go_simp; rfl))
            exact norm_ (by simp only [putAll, Act.put, List.setIfInBounds_toArray, List.set_cons_zero, List.set_cons_succ]) (hCont (.slice Ao44 t138.length co44, .slice Ao43 t141.length co43, gb144) _ ⟨hHeld, (Sh.rl (Kd.R_mono HO140.out (fun _ hk => hk.2))), (Sh.rl (Kd.R_mono HO143.out (fun _ hk => hk.2))), (Sh.pl BK135.out), (Sh.pl BK136.out), (Sh.pl BK144.out), GW144.out, GE144.out, NB135_144.out, NB144_135.out, NB136_144.out, NB144_136.out, Sh.bw⟩)
          ·skip
           refine box_step ?hg (N := 6) ?hd (cs := #[.slice none 0 0, .slice none 0 0]) (t := 26) ?hr ?_; (case hd => rfl); (case hg => rfl); (case hr => first | (go_simp; done) | (go_simp; rfl))
           intro gb144 hg w40 hbox hb
           have BK144 := am_ hbox
           have GW144 := Sh.ag w hg
           have GE144 := Sh.ag w hg
           replace HB := Sh.hb hb
           have NB135_144 := am_ (Sh.nl hg BK135.out)
           have NB144_135 := am_ (Sh.ng hg BK135.out)
           replace BK135 := Sh.ab BK135 hb
           have NB136_144 := am_ (Sh.nl hg BK136.out)
           have NB144_136 := am_ (Sh.ng hg BK136.out)
           replace BK136 := Sh.ab BK136 hb
           clear hb hbox hg
           refine Sh.kN hK Sh.cs fun hHeld => ?_
           clear hK K
           refine Sh.oC 2 Try.func13 #[.agg #[.slice A0_0 l0_0.length c0_0, .slice A0_1 l0_1.length c0_1], .int .i64 0, .int .i64 x5_2] fun K hK => ?_
           with_reducible refine (spec_l9First.calls k2 _ _ l0_0 _ _ l0_1 0 x5_2 t138 _ (Sh.cB HR0_0.out) HC0_0.out (Sh.cB HR0_1.out) HC0_1.out A13.out).mono ?_
           rintro e w41 ⟨v139, rfl, ho0, hb⟩
           refine ⟨_, rfl, ?_⟩
           have HO140 := am_ (Kd.R_lower ho0 (below_size Sh.bw))
           replace BK135 := Sh.ab BK135 hb
           replace BK136 := Sh.ab BK136 hb
           replace BK144 := Sh.ab BK144 hb
           replace HB := Sh.hb hb
           (try clear hb)
           (try clear hb2)
           (try clear hk)
           (try clear hi)
           (try clear ho0)
           refine Sh.kN hK Sh.cs fun hHeld => ?_
           clear hK K
           refine Sh.oC 6 Try.func13 #[.agg #[.slice A0_0 l0_0.length c0_0, .slice A0_1 l0_1.length c0_1], .int .i64 x5_2, .int .i64 x4_1] fun K hK => ?_
           with_reducible refine (spec_l9First.calls k2 _ _ l0_0 _ _ l0_1 x5_2 x4_1 t141 _ (Sh.cB HR0_0.out) HC0_0.out (Sh.cB HR0_1.out) HC0_1.out A14.out).mono ?_
           rintro e w42 ⟨v142, rfl, ho0, hb⟩
           refine ⟨_, rfl, ?_⟩
           have HO143 := am_ (Kd.R_lower (Kd.R_new' ho0 (Kd.R_lt (Sh.rl HO140.out))) (below_size Sh.bw))
           replace HO140 := am_ (Kd.R_elder' (Sh.rl HO140.out) (Kd.R_base ho0) hb)
           replace BK135 := Sh.ab BK135 hb
           replace BK136 := Sh.ab BK136 hb
           replace BK144 := Sh.ab BK144 hb
           replace HB := Sh.hb hb
           (try clear hb)
           (try clear hb2)
           (try clear hk)
           (try clear hi)
           (try clear ho0)
           obtain ⟨Ao43, co43, eo43⟩ := Kd.R_slice HO143.out
           (first | subst eo43 | (injection eo43 with f1_ f2_ f3_; have f4_ := f1_.symm; have f5_ := f3_.symm; clear f1_ f2_ f3_; subst f4_; subst f5_))
           obtain ⟨Ao44, co44, eo44⟩ := Kd.R_slice HO140.out
           (first | subst eo44 | (injection eo44 with f1_ f2_ f3_; have f4_ := f1_.symm; have f5_ := f3_.symm; clear f1_ f2_ f3_; subst f4_; subst f5_))
           refine Sh.kN hK Sh.cs fun hHeld => ?_
           clear hK K
           first | refine Sh.qA 7 ?_ | refine Sh.qA 7 ?_ (v := .agg #[v139, v142]) (hy := by intro w'; obtain ⟨A1_, c1_, e1_⟩ : ∃ A c, v139 = .slice A _ c := Kd.R_slice (Aside0.out (by assumption)); obtain ⟨A2_, c2_, e2_⟩ : ∃ A c, v142 = .slice A _ c := Kd.R_slice (Aside0.out (by assumption)); rw [e1_, e2_]; first | (go_simp; done) | (go_simp; rfl))
           exact norm_ (by simp only [putAll, Act.put, List.setIfInBounds_toArray, List.set_cons_zero, List.set_cons_succ]) (hCont (.slice Ao44 t138.length co44, .slice Ao43 t141.length co43, gb144) _ ⟨hHeld, (Sh.rl (Kd.R_mono HO140.out (fun _ hk => hk.2))), (Sh.rl (Kd.R_mono HO143.out (fun _ hk => hk.2))), (Sh.pl BK135.out), (Sh.pl BK136.out), (Sh.pl BK144.out), GW144.out, GE144.out, NB135_144.out, NB144_135.out, NB136_144.out, NB144_136.out, Sh.bw⟩)
         rintro ⟨v139, v142, gb144⟩ w45 ⟨hS_, h0_, h1_, h2_, h3_, h4_, h5_, h6_, h7_, h8_, h9_, h10_, h11_⟩
         have n0_ : Aside0 (Kd.R (Kd.int .i64) 3 w45 w.heap.size (fun k_ => some k_ ≠ (v142 : Value).ownBlock) v139 t138) := ⟨h0_⟩
         have n1_ : Aside0 (Kd.R (Kd.int .i64) 3 w45 w.heap.size (fun k_ => some k_ ≠ (v139 : Value).ownBlock) v142 t141) := ⟨h1_⟩
         have n2_ : Aside0 (w45.heap[gb135]? = some (.cells #[.slice A0_0 l0_0.length c0_0, .slice A0_1 l0_1.length c0_1] 26 (0, 0))) := ⟨h2_⟩
         have n3_ : Aside0 (w45.heap[gb136]? = some (.cells #[.slice none 0 0, .slice none 0 0] 26 (0, 0))) := ⟨h3_⟩
         have n4_ : Aside0 (w45.heap[gb144]? = some (.cells #[.slice none 0 0, .slice none 0 0] 26 (0, 0))) := ⟨h4_⟩
         have n5_ : Aside0 (w.heap.size ≤ gb144) := ⟨h5_⟩
         have n6_ : Aside0 (w.heap.size ≤ gb144) := ⟨h6_⟩
         have n7_ : Aside0 (gb135 ≠ gb144) := ⟨h7_⟩
         have n8_ : Aside0 (gb144 ≠ gb135) := ⟨h8_⟩
         have n9_ : Aside0 (gb136 ≠ gb144) := ⟨h9_⟩
         have n10_ : Aside0 (gb144 ≠ gb136) := ⟨h10_⟩
         have n11_ : Aside0 (Below w.heap.size w w45) := ⟨h11_⟩
         clear BK135
         clear BK136
         clear HB
         clear h0_ h1_ h2_ h3_ h4_ h5_ h6_ h7_ h8_ h9_ h10_ h11_
         have HO140 := n0_
         have HO143 := n1_
         have BK135 := n2_
         have BK136 := n3_
         have BK144 := n4_
         have GW144 := n5_
         have GE144 := n6_
         have NB135_144 := n7_
         have NB144_135 := n8_
         have NB136_144 := n9_
         have NB144_136 := n10_
         have HB := n11_
         clear n0_ n1_ n2_ n3_ n4_ n5_ n6_ n7_ n8_ n9_ n10_ n11_
         have hHeld : w45.cell? ⟨gb135, 0, none⟩ = some (.slice A0_0 l0_0.length c0_0) ∧ w45.cell? ⟨gb135, 1, none⟩ = some (.slice A0_1 l0_1.length c0_1) := hS_
         obtain ⟨Ao46, co46, eo46⟩ := Kd.R_slice HO143.out
         (first | subst eo46 | (injection eo46 with f1_ f2_ f3_; have f4_ := f1_.symm; have f5_ := f3_.symm; clear f1_ f2_ f3_; subst f4_; subst f5_))
         obtain ⟨Ao47, co47, eo47⟩ := Kd.R_slice HO140.out
         (first | subst eo47 | (injection eo47 with f1_ f2_ f3_; have f4_ := f1_.symm; have f5_ := f3_.symm; clear f1_ f2_ f3_; subst f4_; subst f5_))
         refine norm_ (a' := ?_) ?_ ?_
         rotate_left
         ·simp only [putAll, Act.put, List.setIfInBounds_toArray, List.set_cons_zero, List.set_cons_succ]
          rfl
         refine one_ (i := 9) (N := none) (Sh.nm 10 1023) rfl rfl (one_of HT_.out (by kernel_rfl)) (by decide) (fun K hK => ?_)
         have hs48 : w45.cell? ⟨gb144, 0, none⟩ = some (.slice none 0 0) := (blk_cell BK144.out 0).trans rfl
         have hfs48 := blk_frozen BK144.out 0
         have hns48_0 := NB135_144.out
         have hns48_1 := NB136_144.out
         have hms48_0 := NB144_135.out
         have hms48_1 := NB144_136.out
         have hs49 : w45.cell? ⟨gb144, 1, none⟩ = some (.slice none 0 0) := (blk_cell BK144.out 1).trans rfl
         have hfs49 := blk_frozen BK144.out 1
         have hns49_0 := NB135_144.out
         have hns49_1 := NB136_144.out
         have hms49_0 := NB144_135.out
         have hms49_1 := NB144_136.out
         refine skip_ (w1 := ?_) (by rfl) rfl ?_ ?_
         rotate_left
         ·go_simp
          rfl
         refine hK.out _ _ ⟨((cell_far (p := ⟨gb144, _, none⟩) NB135_144.out _).trans (((cell_far (p := ⟨gb144, _, none⟩) NB135_144.out _).trans (hHeld.1)))), ((cell_far (p := ⟨gb144, _, none⟩) NB135_144.out _).trans (((cell_far (p := ⟨gb144, _, none⟩) NB135_144.out _).trans (hHeld.2))))⟩ (fun hHeld => ?_)
         clear hK K
         refine done_ (done_of HT_.out (by kernel_rfl)) ?_
         have hnb50 := NB144_135.out
         have hnc50 := NB135_144.out
         have hnb51 := NB144_136.out
         have hnc51 := NB136_144.out
         have hcz52_0 := Sh.bc BK144.out 0
         have hcz52_1 := Sh.bc BK144.out 1
         have hfz52_0 := blk_frozen BK144.out 0
         have hfz52_1 := blk_frozen BK144.out 1
         have hcz53_0 := Sh.bc BK135.out 0
         have hcz53_1 := Sh.bc BK135.out 1
         have hfz53_0 := blk_frozen BK135.out 0
         have hfz53_1 := blk_frozen BK135.out 1
         try go_wp2_with (first | ((with_reducible refine Sh.k 14 ?_); refine Sh.gL (some 37) Try.func14 #[.agg #[.slice Ao47 t138.length co47, .slice Ao46 t141.length co46], .agg #[.slice A0_0 l0_0.length c0_0, .slice A0_1 l0_1.length c0_1]] (h := ?_); (with_reducible refine (spec_l9Same.calls k2 _ _ t138 _ _ t141 _ _ l0_0 _ _ l0_1 false _ ?side1 ?side2 ?side3 ?side4 ?side5 ?side6 ?side7 ?side8 A15.out).mono ?_); (case side1 => refine (Kd.R_reads' (e := 3) (base := w.heap.size) (ok := fun k_ => some k_ ≠ (.slice Ao46 t141.length co46 : Value).ownBlock) (n := t138.length) (c := co47) ?_).2.2; exact (Sh.rl (Kd.R_mono (Kd.R_far (p := ⟨gb144, 1, none⟩) (Kd.R_far (p := ⟨gb144, 0, none⟩) (Kd.R_types HO140.out BK144.out (by decide)) (fun _ hk => hk.2) (.slice Ao47 t138.length co47)) (fun _ hk => hk.2) (.slice Ao46 t141.length co46)) (fun _ h_ => h_.1)))); (case side2 => exact (Kd.R_reads' HO140.out).2.1); (case side3 => refine (Kd.R_reads' (e := 3) (base := w.heap.size) (ok := fun k_ => some k_ ≠ (.slice Ao47 t138.length co47 : Value).ownBlock) (n := t141.length) (c := co46) ?_).2.2; exact (Sh.rl (Kd.R_mono (Kd.R_far (p := ⟨gb144, 1, none⟩) (Kd.R_far (p := ⟨gb144, 0, none⟩) (Kd.R_types HO143.out BK144.out (by decide)) (fun _ hk => hk.2) (.slice Ao47 t138.length co47)) (fun _ hk => hk.2) (.slice Ao46 t141.length co46)) (fun _ h_ => h_.1)))); (case side4 => exact (Kd.R_reads' HO143.out).2.1); (case side5 => exact Kd.C_below HR0_0.out Sh.bw); (case side6 => exact HC0_0.out); (case side7 => exact Kd.C_below HR0_1.out Sh.bw); (case side8 => exact HC0_1.out); rintro e w54 ⟨rfl, hb⟩; refine ⟨_, rfl, ?_⟩; replace HO140 := am_ (Kd.R_below (Sh.rl (Kd.R_mono (Kd.R_far (p := ⟨gb144, 1, none⟩) (Kd.R_far (p := ⟨gb144, 0, none⟩) (Kd.R_types HO140.out BK144.out (by decide)) (fun _ hk => hk.2) (.slice Ao47 t138.length co47)) (fun _ hk => hk.2) (.slice Ao46 t141.length co46)) (fun _ h_ => h_.1))) hb); replace HO143 := am_ (Kd.R_below (Sh.rl (Kd.R_mono (Kd.R_far (p := ⟨gb144, 1, none⟩) (Kd.R_far (p := ⟨gb144, 0, none⟩) (Kd.R_types HO143.out BK144.out (by decide)) (fun _ hk => hk.2) (.slice Ao47 t138.length co47)) (fun _ hk => hk.2) (.slice Ao46 t141.length co46)) (fun _ h_ => h_.1))) hb); replace BK135 := am_ (blk_below (g := gb135) (o := .cells #[.slice A0_0 l0_0.length c0_0, .slice A0_1 l0_1.length c0_1] 26 (0, 0)) (by refine Sh.pl ?_; refine blk_far ?_ NB135_144.out _; refine Sh.pl ?_; refine blk_far ?_ NB135_144.out _; refine Sh.pl ?_; exact BK135.out) hb); replace BK136 := am_ (blk_below (g := gb136) (o := .cells #[.slice none 0 0, .slice none 0 0] 26 (0, 0)) (by refine Sh.pl ?_; refine blk_far ?_ NB136_144.out _; refine Sh.pl ?_; refine blk_far ?_ NB136_144.out _; refine Sh.pl ?_; exact BK136.out) hb); replace BK144 := am_ (blk_below (g := gb144) (o := .cells #[.slice Ao47 t138.length co47, .slice Ao46 t141.length co46] 26 (0, 0)) (by refine Sh.pl ?_; refine blk_put (cs := #[.slice Ao47 t138.length co47, .slice none 0 0]) ?_ 1 _ rfl; refine Sh.pl ?_; refine blk_put (cs := #[.slice none 0 0, .slice none 0 0]) ?_ 0 _ rfl; refine Sh.pl ?_; exact BK144.out) hb); replace HB := Sh.hb hb; (try clear hb); (try clear hb2); (try clear hk); (try clear hi)))
         go_roundg k2
         case measure => have := HK1.out; have := HK2.out; omega
         case rel => exact ⟨(wrap64 (x5_2 + 1)), (Sh.es), H', ⟨by have := HK1.out; have := HK2.out; omega⟩, ⟨by refine Sh.pl ?_; exact BK135.out⟩, ⟨by refine Sh.pl ?_; exact BK136.out⟩, ⟨Sh.bw⟩⟩
       ·rw [if_neg c12] at H
        have c12b0 := decide_eq_false c12
        clear c12
        have H' := am_ H
        clear H
        have hnb55 := NB135_136.out
        have hnc55 := NB136_135.out
        have hcz56_0 := Sh.bc BK135.out 0
        have hcz56_1 := Sh.bc BK135.out 1
        have hfz56_0 := blk_frozen BK135.out 0
        have hfz56_1 := blk_frozen BK135.out 1
        go_wp2
        go_roundg k2
        case measure => have := HK1.out; have := HK2.out; omega
        case rel => exact ⟨(wrap64 (x4_1 + 1)), (Sh.es), H', ⟨by have := HK1.out; have := HK2.out; omega⟩, ⟨by refine Sh.pl ?_; exact BK135.out⟩, ⟨by refine Sh.pl ?_; exact BK136.out⟩, ⟨Sh.bw⟩⟩
    ·rw [if_neg c9] at H
     have c9b0 := decide_eq_false c9
     clear c9
     have H' := am_ H
     clear H
     have hnb57 := NB135_136.out
     have hnc57 := NB136_135.out
     have hcz58_0 := Sh.bc BK135.out 0
     have hcz58_1 := Sh.bc BK135.out 1
     have hfz58_0 := blk_frozen BK135.out 0
     have hfz58_1 := blk_frozen BK135.out 1
     go_wp2
     go_loopg [7] k1 (fun kq v7 w' => ∃ (x7_2 : Int), v7 = .int .i64 x7_2 ∧ Aside0 (spec_LeastLasso.l2 kq x7_2 l0_0 l0_1 = some (r1, r2, r3)) ∧ Aside0 (kq ≤ k1) ∧ Aside0 (w'.heap[gb135]? = some (.cells #[(.slice A0_0 l0_0.length c0_0), (.slice A0_1 l0_1.length c0_1)] 26 (0, 0))) ∧ Aside0 (w'.heap[gb136]? = some (.cells #[(.slice none 0 0), (.slice none 0 0)] 26 (0, 0))) ∧ Aside0 (Below w.heap.size w w'))
     case atStart => exact ⟨(0), (Sh.es), H', ⟨Nat.le_refl _⟩, ⟨by refine Sh.pl ?_; exact BK135.out⟩, ⟨by refine Sh.pl ?_; exact BK136.out⟩, ⟨Sh.bw⟩⟩
     case round =>
      clear H'
      try clear hcz32_0
      try clear hcz32_1
      try clear hcz33_0
      try clear hcz33_1
      try clear hcz35_0
      try clear hcz35_1
      try clear hcz36_0
      try clear hcz36_1
      try clear hcz38_0
      try clear hcz38_1
      try clear hcz52_0
      try clear hcz52_1
      try clear hcz53_0
      try clear hcz53_1
      try clear hcz56_0
      try clear hcz56_1
      try clear hcz58_0
      try clear hcz58_1
      try clear hfz32_0
      try clear hfz32_1
      try clear hfz33_0
      try clear hfz33_1
      try clear hfz35_0
      try clear hfz35_1
      try clear hfz36_0
      try clear hfz36_1
      try clear hfz38_0
      try clear hfz38_1
      try clear hfz52_0
      try clear hfz52_1
      try clear hfz53_0
      try clear hfz53_1
      try clear hfz56_0
      try clear hfz56_1
      try clear hfz58_0
      try clear hfz58_1
      obtain ⟨x7_2, rfl, HA, HK2, BK135, BK136, HB⟩ := hrel
      cases gk with
      | zero => exact absurd HA.out (by simp [spec_LeastLasso.l2])
      | succ k2 =>
       have H := HA.out
       clear HA
       simp only [spec_LeastLasso.l2] at H
       by_cases c59 : x7_2 < (l0_0.length : Int)
       ·rw [if_pos c59] at H
        have c59b0 := decide_eq_true c59
        clear c59
        obtain ⟨t152, A60, H⟩ := Sh.ba H
        obtain ⟨t155, A61, H⟩ := Sh.ba H
        obtain ⟨t159, A62, H⟩ := Sh.ba H
        by_cases c63 : t159 = true
        ·subst c63
         rw [if_pos rfl] at H
         simp only [Option.some.injEq, Prod.mk.injEq] at H
         obtain ⟨rfl, rfl, rfl⟩ := H
         have hnb64 := NB135_136.out
         have hnc64 := NB136_135.out
         have hcz65_0 := Sh.bc BK135.out 0
         have hcz65_1 := Sh.bc BK135.out 1
         have hfz65_0 := blk_frozen BK135.out 0
         have hfz65_1 := blk_frozen BK135.out 1
         try go_wp2
         replace BK135 := am_ (blk_drew BK135.out)
         replace BK136 := am_ (blk_drew BK136.out)
         replace HB := am_ (below_drew1 HB.out)
         refine start_ (n := 12) (S := fun w' => w'.cell? ⟨gb135, 0, none⟩ = some (.slice A0_0 l0_0.length c0_0) ∧ w'.cell? ⟨gb135, 1, none⟩ = some (.slice A0_1 l0_1.length c0_1)) (ds := []) (Sh.nm 12 0) (by kernel_rfl) rfl rfl Sh.cs (fun hHeld => ?_); refine with_tabW spec_LeastLasso.tab15 spec_LeastLasso.bits15 (fun HT_ HW_ => ?_)
         generalize wr.drew = w66 at BK135 BK136 HB hHeld ⊢
         refine Sh.qA 1 ?_; refine Sh.qA 4 ?_; refine Sh.qA 5 ?_; refine Sh.qT 0 hHeld ?_; refine Sh.qT 3 hHeld ?_; refine Sh.qT 6 hHeld ?_; refine Sh.qA 7 ?_
         refine join_ (σ := Value × Value × Nat) 1 (Sh.nm 12 2047) (fun s_ => [(48, s_.1), (54, s_.2.1), (8, .pointer (some ⟨s_.2.2, 0, none⟩)), (55, .agg #[s_.1, s_.2.1])]) (fun s_ w' => (w'.cell? ⟨gb135, 0, none⟩ = some (.slice A0_0 l0_0.length c0_0) ∧ w'.cell? ⟨gb135, 1, none⟩ = some (.slice A0_1 l0_1.length c0_1)) ∧ (Kd.R (Kd.int .i64) 3 w' w.heap.size (fun k_ => some k_ ≠ (s_.2.1 : Value).ownBlock) s_.1 t152) ∧ (Kd.R (Kd.int .i64) 3 w' w.heap.size (fun k_ => some k_ ≠ (s_.1 : Value).ownBlock) s_.2.1 t155) ∧ (w'.heap[gb135]? = some (.cells #[.slice A0_0 l0_0.length c0_0, .slice A0_1 l0_1.length c0_1] 26 (0, 0))) ∧ (w'.heap[gb136]? = some (.cells #[.slice none 0 0, .slice none 0 0] 26 (0, 0))) ∧ (w'.heap[s_.2.2]? = some (.cells #[.slice none 0 0, .slice none 0 0] 26 (0, 0))) ∧ (w.heap.size ≤ s_.2.2) ∧ (w.heap.size ≤ s_.2.2) ∧ (gb135 ≠ s_.2.2) ∧ (s_.2.2 ≠ gb135) ∧ (gb136 ≠ s_.2.2) ∧ (s_.2.2 ≠ gb136) ∧ (Below w.heap.size w w')) ?_ ?_
         rotate_left
         ·intro hCont
          refine two_ (i := 2) (j := 10) (Ni := some 48) (Nj := some 8) (Sh.nm 12 255) (Sh.nm 12 1275) rfl rfl rfl rfl (two_of HT_.out (by kernel_rfl)) (by decide) (by decide) (fun K hK => ?_) (fun K hK => ?_)
          ·skip
           refine goes_ Try.func13 (by kernel_rfl) rfl #[.agg #[.slice A0_0 l0_0.length c0_0, .slice A0_1 l0_1.length c0_1], .int .i64 0, .int .i64 x7_2] (by rfl) rfl rfl (by (try simp only [List.map_toArray, List.map_cons, List.map_nil]); first | done | rfl | (simp only [List.length_drop, List.length_take]; rfl)) ?_
           with_reducible refine (spec_l9First.calls k2 _ _ l0_0 _ _ l0_1 0 x7_2 t152 _ (Sh.cB HR0_0.out) HC0_0.out (Sh.cB HR0_1.out) HC0_1.out A60.out).mono ?_
           rintro e w67 ⟨v153, rfl, ho0, hb⟩
           refine ⟨_, rfl, ?_⟩
           have HO154 := am_ (Kd.R_lower ho0 (below_size Sh.bw))
           replace BK135 := Sh.ab BK135 hb
           replace BK136 := Sh.ab BK136 hb
           replace HB := Sh.hb hb
           (try clear hb)
           (try clear hb2)
           (try clear hk)
           (try clear hi)
           (try clear ho0)
           refine Sh.kN hK Sh.cs fun hHeld => ?_
           clear hK K
           refine two_ (i := 8) (j := 10) (Ni := some 54) (Nj := some 8) (Sh.nm 12 511) (Sh.nm 12 1279) rfl rfl rfl rfl (two_of HT_.out (by kernel_rfl)) (by decide) (by decide) (fun K hK => ?_) (fun K hK => ?_)
           ·skip
            refine goes_ Try.func13 (by kernel_rfl) rfl #[.agg #[.slice A0_0 l0_0.length c0_0, .slice A0_1 l0_1.length c0_1], .int .i64 x7_2, .int .i64 (l0_1.length : Int)] (by rfl) rfl rfl (by (try simp only [List.map_toArray, List.map_cons, List.map_nil]); first | done | rfl | (simp only [List.length_drop, List.length_take]; rfl)) ?_
            with_reducible refine (spec_l9First.calls k2 _ _ l0_0 _ _ l0_1 x7_2 (l0_1.length : Int) t155 _ (Sh.cB HR0_0.out) HC0_0.out (Sh.cB HR0_1.out) HC0_1.out A61.out).mono ?_
            rintro e w68 ⟨v156, rfl, ho0, hb⟩
            refine ⟨_, rfl, ?_⟩
            have HO157 := am_ (Kd.R_lower (Kd.R_new' ho0 (Kd.R_lt (Sh.rl HO154.out))) (below_size Sh.bw))
            replace HO154 := am_ (Kd.R_elder' (Sh.rl HO154.out) (Kd.R_base ho0) hb)
            replace BK135 := Sh.ab BK135 hb
            replace BK136 := Sh.ab BK136 hb
            replace HB := Sh.hb hb
            (try clear hb)
            (try clear hb2)
            (try clear hk)
            (try clear hi)
            (try clear ho0)
            refine Sh.kN hK Sh.cs fun hHeld => ?_
            clear hK K
            first | refine Sh.qA 9 ?_ | refine Sh.qA 9 ?_ (v := .agg #[v153, v156]) (hy := by intro w'; obtain ⟨A1_, c1_, e1_⟩ : ∃ A c, v153 = .slice A _ c := Kd.R_slice (Aside0.out (by assumption)); obtain ⟨A2_, c2_, e2_⟩ : ∃ A c, v156 = .slice A _ c := Kd.R_slice (Aside0.out (by assumption)); rw [e1_, e2_]; first | (go_simp; done) | (go_simp; rfl))
            refine one_ (i := 10) (N := some 8) (Sh.nm 12 2047) rfl rfl (one_of HT_.out (by kernel_rfl)) (by decide) (fun K hK => ?_)
            obtain ⟨Ao69, co69, eo69⟩ := Kd.R_slice HO157.out
            (first | subst eo69 | (injection eo69 with f1_ f2_ f3_; have f4_ := f1_.symm; have f5_ := f3_.symm; clear f1_ f2_ f3_; subst f4_; subst f5_))
            obtain ⟨Ao70, co70, eo70⟩ := Kd.R_slice HO154.out
            (first | subst eo70 | (injection eo70 with f1_ f2_ f3_; have f4_ := f1_.symm; have f5_ := f3_.symm; clear f1_ f2_ f3_; subst f4_; subst f5_))
            refine box_step ?hg (N := 8) ?hd (cs := #[.slice none 0 0, .slice none 0 0]) (t := 26) ?hr ?_; (case hd => rfl); (case hg => rfl); (case hr => first | (go_simp; done) | (go_simp; rfl))
            intro gb158 hg w71 hbox hb
            replace HO154 := am_ (Kd.R_below (Sh.rl HO154.out) hb)
            replace HO157 := am_ (Kd.R_below (Sh.rl HO157.out) hb)
            have BK158 := am_ hbox
            have GW158 := Sh.ag w hg
            have GE158 := Sh.ag w hg
            replace HB := Sh.hb hb
            have NB135_158 := am_ (Sh.nl hg BK135.out)
            have NB158_135 := am_ (Sh.ng hg BK135.out)
            replace BK135 := Sh.ab BK135 hb
            have NB136_158 := am_ (Sh.nl hg BK136.out)
            have NB158_136 := am_ (Sh.ng hg BK136.out)
            replace BK136 := Sh.ab BK136 hb
            clear hb hbox hg
            refine Sh.kN hK Sh.cs fun hHeld => ?_
            clear hK K
            exact norm_ (by simp only [putAll, Act.put, List.setIfInBounds_toArray, List.set_cons_zero, List.set_cons_succ]) (hCont (.slice Ao70 t152.length co70, .slice Ao69 t155.length co69, gb158) _ ⟨hHeld, (Sh.rl (Kd.R_mono HO154.out (fun _ hk => hk.2))), (Sh.rl (Kd.R_mono HO157.out (fun _ hk => hk.2))), (Sh.pl BK135.out), (Sh.pl BK136.out), (Sh.pl BK158.out), GW158.out, GE158.out, NB135_158.out, NB158_135.out, NB136_158.out, NB158_136.out, Sh.bw⟩)
           ·skip
            refine box_step ?hg (N := 8) ?hd (cs := #[.slice none 0 0, .slice none 0 0]) (t := 26) ?hr ?_; (case hd => rfl); (case hg => rfl); (case hr => first | (go_simp; done) | (go_simp; rfl))
            intro gb158 hg w68 hbox hb
            replace HO154 := am_ (Kd.R_below (Sh.rl HO154.out) hb)
            have BK158 := am_ hbox
            have GW158 := Sh.ag w hg
            have GE158 := Sh.ag w hg
            replace HB := Sh.hb hb
            have NB135_158 := am_ (Sh.nl hg BK135.out)
            have NB158_135 := am_ (Sh.ng hg BK135.out)
            replace BK135 := Sh.ab BK135 hb
            have NB136_158 := am_ (Sh.nl hg BK136.out)
            have NB158_136 := am_ (Sh.ng hg BK136.out)
            replace BK136 := Sh.ab BK136 hb
            clear hb hbox hg
            refine Sh.kN hK Sh.cs fun hHeld => ?_
            clear hK K
            refine Sh.oC 8 Try.func13 #[.agg #[.slice A0_0 l0_0.length c0_0, .slice A0_1 l0_1.length c0_1], .int .i64 x7_2, .int .i64 (l0_1.length : Int)] fun K hK => ?_
            with_reducible refine (spec_l9First.calls k2 _ _ l0_0 _ _ l0_1 x7_2 (l0_1.length : Int) t155 _ (Sh.cB HR0_0.out) HC0_0.out (Sh.cB HR0_1.out) HC0_1.out A61.out).mono ?_
            rintro e w69 ⟨v156, rfl, ho0, hb⟩
            refine ⟨_, rfl, ?_⟩
            have HO157 := am_ (Kd.R_lower (Kd.R_new' ho0 (Kd.R_lt (Sh.rl HO154.out))) (below_size Sh.bw))
            replace HO154 := am_ (Kd.R_elder' (Sh.rl HO154.out) (Kd.R_base ho0) hb)
            replace BK135 := Sh.ab BK135 hb
            replace BK136 := Sh.ab BK136 hb
            replace BK158 := Sh.ab BK158 hb
            replace HB := Sh.hb hb
            (try clear hb)
            (try clear hb2)
            (try clear hk)
            (try clear hi)
            (try clear ho0)
            obtain ⟨Ao70, co70, eo70⟩ := Kd.R_slice HO157.out
            (first | subst eo70 | (injection eo70 with f1_ f2_ f3_; have f4_ := f1_.symm; have f5_ := f3_.symm; clear f1_ f2_ f3_; subst f4_; subst f5_))
            obtain ⟨Ao71, co71, eo71⟩ := Kd.R_slice HO154.out
            (first | subst eo71 | (injection eo71 with f1_ f2_ f3_; have f4_ := f1_.symm; have f5_ := f3_.symm; clear f1_ f2_ f3_; subst f4_; subst f5_))
            refine Sh.kN hK Sh.cs fun hHeld => ?_
            clear hK K
            first | refine Sh.qA 9 ?_ | refine Sh.qA 9 ?_ (v := .agg #[v153, v156]) (hy := by intro w'; obtain ⟨A1_, c1_, e1_⟩ : ∃ A c, v153 = .slice A _ c := Kd.R_slice (Aside0.out (by assumption)); obtain ⟨A2_, c2_, e2_⟩ : ∃ A c, v156 = .slice A _ c := Kd.R_slice (Aside0.out (by assumption)); rw [e1_, e2_]; first | (go_simp; done) | (go_simp; rfl))
            exact norm_ (by simp only [putAll, Act.put, List.setIfInBounds_toArray, List.set_cons_zero, List.set_cons_succ]) (hCont (.slice Ao71 t152.length co71, .slice Ao70 t155.length co70, gb158) _ ⟨hHeld, (Sh.rl (Kd.R_mono HO154.out (fun _ hk => hk.2))), (Sh.rl (Kd.R_mono HO157.out (fun _ hk => hk.2))), (Sh.pl BK135.out), (Sh.pl BK136.out), (Sh.pl BK158.out), GW158.out, GE158.out, NB135_158.out, NB158_135.out, NB136_158.out, NB158_136.out, Sh.bw⟩)
          ·skip
           refine box_step ?hg (N := 8) ?hd (cs := #[.slice none 0 0, .slice none 0 0]) (t := 26) ?hr ?_; (case hd => rfl); (case hg => rfl); (case hr => first | (go_simp; done) | (go_simp; rfl))
           intro gb158 hg w67 hbox hb
           have BK158 := am_ hbox
           have GW158 := Sh.ag w hg
           have GE158 := Sh.ag w hg
           replace HB := Sh.hb hb
           have NB135_158 := am_ (Sh.nl hg BK135.out)
           have NB158_135 := am_ (Sh.ng hg BK135.out)
           replace BK135 := Sh.ab BK135 hb
           have NB136_158 := am_ (Sh.nl hg BK136.out)
           have NB158_136 := am_ (Sh.ng hg BK136.out)
           replace BK136 := Sh.ab BK136 hb
           clear hb hbox hg
           refine Sh.kN hK Sh.cs fun hHeld => ?_
           clear hK K
           refine Sh.oC 2 Try.func13 #[.agg #[.slice A0_0 l0_0.length c0_0, .slice A0_1 l0_1.length c0_1], .int .i64 0, .int .i64 x7_2] fun K hK => ?_
           with_reducible refine (spec_l9First.calls k2 _ _ l0_0 _ _ l0_1 0 x7_2 t152 _ (Sh.cB HR0_0.out) HC0_0.out (Sh.cB HR0_1.out) HC0_1.out A60.out).mono ?_
           rintro e w68 ⟨v153, rfl, ho0, hb⟩
           refine ⟨_, rfl, ?_⟩
           have HO154 := am_ (Kd.R_lower ho0 (below_size Sh.bw))
           replace BK135 := Sh.ab BK135 hb
           replace BK136 := Sh.ab BK136 hb
           replace BK158 := Sh.ab BK158 hb
           replace HB := Sh.hb hb
           (try clear hb)
           (try clear hb2)
           (try clear hk)
           (try clear hi)
           (try clear ho0)
           refine Sh.kN hK Sh.cs fun hHeld => ?_
           clear hK K
           refine Sh.oC 8 Try.func13 #[.agg #[.slice A0_0 l0_0.length c0_0, .slice A0_1 l0_1.length c0_1], .int .i64 x7_2, .int .i64 (l0_1.length : Int)] fun K hK => ?_
           with_reducible refine (spec_l9First.calls k2 _ _ l0_0 _ _ l0_1 x7_2 (l0_1.length : Int) t155 _ (Sh.cB HR0_0.out) HC0_0.out (Sh.cB HR0_1.out) HC0_1.out A61.out).mono ?_
           rintro e w69 ⟨v156, rfl, ho0, hb⟩
           refine ⟨_, rfl, ?_⟩
           have HO157 := am_ (Kd.R_lower (Kd.R_new' ho0 (Kd.R_lt (Sh.rl HO154.out))) (below_size Sh.bw))
           replace HO154 := am_ (Kd.R_elder' (Sh.rl HO154.out) (Kd.R_base ho0) hb)
           replace BK135 := Sh.ab BK135 hb
           replace BK136 := Sh.ab BK136 hb
           replace BK158 := Sh.ab BK158 hb
           replace HB := Sh.hb hb
           (try clear hb)
           (try clear hb2)
           (try clear hk)
           (try clear hi)
           (try clear ho0)
           obtain ⟨Ao70, co70, eo70⟩ := Kd.R_slice HO157.out
           (first | subst eo70 | (injection eo70 with f1_ f2_ f3_; have f4_ := f1_.symm; have f5_ := f3_.symm; clear f1_ f2_ f3_; subst f4_; subst f5_))
           obtain ⟨Ao71, co71, eo71⟩ := Kd.R_slice HO154.out
           (first | subst eo71 | (injection eo71 with f1_ f2_ f3_; have f4_ := f1_.symm; have f5_ := f3_.symm; clear f1_ f2_ f3_; subst f4_; subst f5_))
           refine Sh.kN hK Sh.cs fun hHeld => ?_
           clear hK K
           first | refine Sh.qA 9 ?_ | refine Sh.qA 9 ?_ (v := .agg #[v153, v156]) (hy := by intro w'; obtain ⟨A1_, c1_, e1_⟩ : ∃ A c, v153 = .slice A _ c := Kd.R_slice (Aside0.out (by assumption)); obtain ⟨A2_, c2_, e2_⟩ : ∃ A c, v156 = .slice A _ c := Kd.R_slice (Aside0.out (by assumption)); rw [e1_, e2_]; first | (go_simp; done) | (go_simp; rfl))
           exact norm_ (by simp only [putAll, Act.put, List.setIfInBounds_toArray, List.set_cons_zero, List.set_cons_succ]) (hCont (.slice Ao71 t152.length co71, .slice Ao70 t155.length co70, gb158) _ ⟨hHeld, (Sh.rl (Kd.R_mono HO154.out (fun _ hk => hk.2))), (Sh.rl (Kd.R_mono HO157.out (fun _ hk => hk.2))), (Sh.pl BK135.out), (Sh.pl BK136.out), (Sh.pl BK158.out), GW158.out, GE158.out, NB135_158.out, NB158_135.out, NB136_158.out, NB158_136.out, Sh.bw⟩)
         rintro ⟨v153, v156, gb158⟩ w72 ⟨hS_, h0_, h1_, h2_, h3_, h4_, h5_, h6_, h7_, h8_, h9_, h10_, h11_⟩
         have n0_ : Aside0 (Kd.R (Kd.int .i64) 3 w72 w.heap.size (fun k_ => some k_ ≠ (v156 : Value).ownBlock) v153 t152) := ⟨h0_⟩
         have n1_ : Aside0 (Kd.R (Kd.int .i64) 3 w72 w.heap.size (fun k_ => some k_ ≠ (v153 : Value).ownBlock) v156 t155) := ⟨h1_⟩
         have n2_ : Aside0 (w72.heap[gb135]? = some (.cells #[.slice A0_0 l0_0.length c0_0, .slice A0_1 l0_1.length c0_1] 26 (0, 0))) := ⟨h2_⟩
         have n3_ : Aside0 (w72.heap[gb136]? = some (.cells #[.slice none 0 0, .slice none 0 0] 26 (0, 0))) := ⟨h3_⟩
         have n4_ : Aside0 (w72.heap[gb158]? = some (.cells #[.slice none 0 0, .slice none 0 0] 26 (0, 0))) := ⟨h4_⟩
         have n5_ : Aside0 (w.heap.size ≤ gb158) := ⟨h5_⟩
         have n6_ : Aside0 (w.heap.size ≤ gb158) := ⟨h6_⟩
         have n7_ : Aside0 (gb135 ≠ gb158) := ⟨h7_⟩
         have n8_ : Aside0 (gb158 ≠ gb135) := ⟨h8_⟩
         have n9_ : Aside0 (gb136 ≠ gb158) := ⟨h9_⟩
         have n10_ : Aside0 (gb158 ≠ gb136) := ⟨h10_⟩
         have n11_ : Aside0 (Below w.heap.size w w72) := ⟨h11_⟩
         clear BK135
         clear BK136
         clear HB
         clear h0_ h1_ h2_ h3_ h4_ h5_ h6_ h7_ h8_ h9_ h10_ h11_
         have HO154 := n0_
         have HO157 := n1_
         have BK135 := n2_
         have BK136 := n3_
         have BK158 := n4_
         have GW158 := n5_
         have GE158 := n6_
         have NB135_158 := n7_
         have NB158_135 := n8_
         have NB136_158 := n9_
         have NB158_136 := n10_
         have HB := n11_
         clear n0_ n1_ n2_ n3_ n4_ n5_ n6_ n7_ n8_ n9_ n10_ n11_
         have hHeld : w72.cell? ⟨gb135, 0, none⟩ = some (.slice A0_0 l0_0.length c0_0) ∧ w72.cell? ⟨gb135, 1, none⟩ = some (.slice A0_1 l0_1.length c0_1) := hS_
         obtain ⟨Ao73, co73, eo73⟩ := Kd.R_slice HO157.out
         (first | subst eo73 | (injection eo73 with f1_ f2_ f3_; have f4_ := f1_.symm; have f5_ := f3_.symm; clear f1_ f2_ f3_; subst f4_; subst f5_))
         obtain ⟨Ao74, co74, eo74⟩ := Kd.R_slice HO154.out
         (first | subst eo74 | (injection eo74 with f1_ f2_ f3_; have f4_ := f1_.symm; have f5_ := f3_.symm; clear f1_ f2_ f3_; subst f4_; subst f5_))
         refine norm_ (a' := ?_) ?_ ?_
         rotate_left
         ·simp only [putAll, Act.put, List.setIfInBounds_toArray, List.set_cons_zero, List.set_cons_succ]
          rfl
         refine one_ (i := 11) (N := none) (Sh.nm 12 4095) rfl rfl (one_of HT_.out (by kernel_rfl)) (by decide) (fun K hK => ?_)
         have hs75 : w72.cell? ⟨gb158, 0, none⟩ = some (.slice none 0 0) := (blk_cell BK158.out 0).trans rfl
         have hfs75 := blk_frozen BK158.out 0
         have hns75_0 := NB135_158.out
         have hns75_1 := NB136_158.out
         have hms75_0 := NB158_135.out
         have hms75_1 := NB158_136.out
         have hs76 : w72.cell? ⟨gb158, 1, none⟩ = some (.slice none 0 0) := (blk_cell BK158.out 1).trans rfl
         have hfs76 := blk_frozen BK158.out 1
         have hns76_0 := NB135_158.out
         have hns76_1 := NB136_158.out
         have hms76_0 := NB158_135.out
         have hms76_1 := NB158_136.out
         refine skip_ (w1 := ?_) (by rfl) rfl ?_ ?_
         rotate_left
         ·go_simp
          rfl
         refine hK.out _ _ ⟨((cell_far (p := ⟨gb158, _, none⟩) NB135_158.out _).trans (((cell_far (p := ⟨gb158, _, none⟩) NB135_158.out _).trans (hHeld.1)))), ((cell_far (p := ⟨gb158, _, none⟩) NB135_158.out _).trans (((cell_far (p := ⟨gb158, _, none⟩) NB135_158.out _).trans (hHeld.2))))⟩ (fun hHeld => ?_)
         clear hK K
         refine done_ (done_of HT_.out (by kernel_rfl)) ?_
         have hnb77 := NB158_135.out
         have hnc77 := NB135_158.out
         have hnb78 := NB158_136.out
         have hnc78 := NB136_158.out
         have hcz79_0 := Sh.bc BK158.out 0
         have hcz79_1 := Sh.bc BK158.out 1
         have hfz79_0 := blk_frozen BK158.out 0
         have hfz79_1 := blk_frozen BK158.out 1
         have hcz80_0 := Sh.bc BK135.out 0
         have hcz80_1 := Sh.bc BK135.out 1
         have hfz80_0 := blk_frozen BK135.out 0
         have hfz80_1 := blk_frozen BK135.out 1
         try go_wp2_with (first | ((with_reducible refine Sh.k 14 ?_); refine Sh.gL (some 58) Try.func14 #[.agg #[.slice Ao74 t152.length co74, .slice Ao73 t155.length co73], .agg #[.slice A0_0 l0_0.length c0_0, .slice A0_1 l0_1.length c0_1]] (h := ?_); (with_reducible refine (spec_l9Same.calls k2 _ _ t152 _ _ t155 _ _ l0_0 _ _ l0_1 true _ ?side1 ?side2 ?side3 ?side4 ?side5 ?side6 ?side7 ?side8 A62.out).mono ?_); (case side1 => refine (Kd.R_reads' (e := 3) (base := w.heap.size) (ok := fun k_ => some k_ ≠ (.slice Ao73 t155.length co73 : Value).ownBlock) (n := t152.length) (c := co74) ?_).2.2; exact (Sh.rl (Kd.R_mono (Kd.R_far (p := ⟨gb158, 1, none⟩) (Kd.R_far (p := ⟨gb158, 0, none⟩) (Kd.R_types HO154.out BK158.out (by decide)) (fun _ hk => hk.2) (.slice Ao74 t152.length co74)) (fun _ hk => hk.2) (.slice Ao73 t155.length co73)) (fun _ h_ => h_.1)))); (case side2 => exact (Kd.R_reads' HO154.out).2.1); (case side3 => refine (Kd.R_reads' (e := 3) (base := w.heap.size) (ok := fun k_ => some k_ ≠ (.slice Ao74 t152.length co74 : Value).ownBlock) (n := t155.length) (c := co73) ?_).2.2; exact (Sh.rl (Kd.R_mono (Kd.R_far (p := ⟨gb158, 1, none⟩) (Kd.R_far (p := ⟨gb158, 0, none⟩) (Kd.R_types HO157.out BK158.out (by decide)) (fun _ hk => hk.2) (.slice Ao74 t152.length co74)) (fun _ hk => hk.2) (.slice Ao73 t155.length co73)) (fun _ h_ => h_.1)))); (case side4 => exact (Kd.R_reads' HO157.out).2.1); (case side5 => exact Kd.C_below HR0_0.out Sh.bw); (case side6 => exact HC0_0.out); (case side7 => exact Kd.C_below HR0_1.out Sh.bw); (case side8 => exact HC0_1.out); rintro e w81 ⟨rfl, hb⟩; refine ⟨_, rfl, ?_⟩; replace HO154 := am_ (Kd.R_below (Sh.rl (Kd.R_mono (Kd.R_far (p := ⟨gb158, 1, none⟩) (Kd.R_far (p := ⟨gb158, 0, none⟩) (Kd.R_types HO154.out BK158.out (by decide)) (fun _ hk => hk.2) (.slice Ao74 t152.length co74)) (fun _ hk => hk.2) (.slice Ao73 t155.length co73)) (fun _ h_ => h_.1))) hb); replace HO157 := am_ (Kd.R_below (Sh.rl (Kd.R_mono (Kd.R_far (p := ⟨gb158, 1, none⟩) (Kd.R_far (p := ⟨gb158, 0, none⟩) (Kd.R_types HO157.out BK158.out (by decide)) (fun _ hk => hk.2) (.slice Ao74 t152.length co74)) (fun _ hk => hk.2) (.slice Ao73 t155.length co73)) (fun _ h_ => h_.1))) hb); replace BK135 := am_ (blk_below (g := gb135) (o := .cells #[.slice A0_0 l0_0.length c0_0, .slice A0_1 l0_1.length c0_1] 26 (0, 0)) (by refine Sh.pl ?_; refine blk_far ?_ NB135_158.out _; refine Sh.pl ?_; refine blk_far ?_ NB135_158.out _; refine Sh.pl ?_; exact BK135.out) hb); replace BK136 := am_ (blk_below (g := gb136) (o := .cells #[.slice none 0 0, .slice none 0 0] 26 (0, 0)) (by refine Sh.pl ?_; refine blk_far ?_ NB136_158.out _; refine Sh.pl ?_; refine blk_far ?_ NB136_158.out _; refine Sh.pl ?_; exact BK136.out) hb); replace BK158 := am_ (blk_below (g := gb158) (o := .cells #[.slice Ao74 t152.length co74, .slice Ao73 t155.length co73] 26 (0, 0)) (by refine Sh.pl ?_; refine blk_put (cs := #[.slice Ao74 t152.length co74, .slice none 0 0]) ?_ 1 _ rfl; refine Sh.pl ?_; refine blk_put (cs := #[.slice none 0 0, .slice none 0 0]) ?_ 0 _ rfl; refine Sh.pl ?_; exact BK158.out) hb); replace HB := Sh.hb hb; (try clear hb); (try clear hb2); (try clear hk); (try clear hi); obtain ⟨hcz82_0, hcz82_1, hfz82_0, hfz82_1⟩ := Sh.b2 BK158.out; obtain ⟨hcz83_0, hcz83_1, hfz83_0, hfz83_1⟩ := Sh.b2 BK136.out))
         refine bodyPost_ret (results_ct rfl _ _ gb136 26 #[.slice Ao74 t152.length co74, .slice Ao73 t155.length co73] (0, 0) _ rfl (by refine Sh.pl ?_; refine blk_put (cs := #[.slice Ao74 t152.length co74, .slice none 0 0]) ?_ 1 _ rfl; refine Sh.pl ?_; refine blk_put (cs := #[.slice none 0 0, .slice none 0 0]) ?_ 0 _ rfl; refine Sh.pl ?_; exact BK136.out) Try.underlying26 rfl (by kernel_rfl)) rfl ?_
         exact ⟨_, _, by first | rfl | (simp [errW_none, errW_some] <;> rfl) | (simp [*, errW_none, errW_some] <;> rfl), Sh.rl (Kd.R_mono (Kd.R_far (p := ⟨gb136, 1, none⟩) (Kd.R_far (p := ⟨gb136, 0, none⟩) (Kd.R_types HO154.out BK136.out (by decide)) (fun _ hk => hk.2) (.slice Ao74 t152.length co74)) (fun _ hk => hk.2) (.slice Ao73 t155.length co73)) (fun _ hk => hk.1)), Sh.rl (Kd.R_mono (Kd.R_far (p := ⟨gb136, 1, none⟩) (Kd.R_far (p := ⟨gb136, 0, none⟩) (Kd.R_types HO157.out BK136.out (by decide)) (fun _ hk => hk.2) (.slice Ao74 t152.length co74)) (fun _ hk => hk.2) (.slice Ao73 t155.length co73)) (fun _ hk => hk.1)), Sh.bw⟩
        ·replace c63 := Bool.eq_false_iff.mpr c63
         subst c63
         rw [Sh.nf] at H
         have H' := am_ H
         clear H
         have hnb84 := NB135_136.out
         have hnc84 := NB136_135.out
         have hcz85_0 := Sh.bc BK135.out 0
         have hcz85_1 := Sh.bc BK135.out 1
         have hfz85_0 := blk_frozen BK135.out 0
         have hfz85_1 := blk_frozen BK135.out 1
         try go_wp2
         replace BK135 := am_ (blk_drew BK135.out)
         replace BK136 := am_ (blk_drew BK136.out)
         replace HB := am_ (below_drew1 HB.out)
         refine start_ (n := 12) (S := fun w' => w'.cell? ⟨gb135, 0, none⟩ = some (.slice A0_0 l0_0.length c0_0) ∧ w'.cell? ⟨gb135, 1, none⟩ = some (.slice A0_1 l0_1.length c0_1)) (ds := []) (Sh.nm 12 0) (by kernel_rfl) rfl rfl Sh.cs (fun hHeld => ?_); refine with_tabW spec_LeastLasso.tab15 spec_LeastLasso.bits15 (fun HT_ HW_ => ?_)
         generalize wr.drew = w86 at BK135 BK136 HB hHeld ⊢
         refine Sh.qA 1 ?_; refine Sh.qA 4 ?_; refine Sh.qA 5 ?_; refine Sh.qT 0 hHeld ?_; refine Sh.qT 3 hHeld ?_; refine Sh.qT 6 hHeld ?_; refine Sh.qA 7 ?_
         refine join_ (σ := Value × Value × Nat) 1 (Sh.nm 12 2047) (fun s_ => [(48, s_.1), (54, s_.2.1), (8, .pointer (some ⟨s_.2.2, 0, none⟩)), (55, .agg #[s_.1, s_.2.1])]) (fun s_ w' => (w'.cell? ⟨gb135, 0, none⟩ = some (.slice A0_0 l0_0.length c0_0) ∧ w'.cell? ⟨gb135, 1, none⟩ = some (.slice A0_1 l0_1.length c0_1)) ∧ (Kd.R (Kd.int .i64) 3 w' w.heap.size (fun k_ => some k_ ≠ (s_.2.1 : Value).ownBlock) s_.1 t152) ∧ (Kd.R (Kd.int .i64) 3 w' w.heap.size (fun k_ => some k_ ≠ (s_.1 : Value).ownBlock) s_.2.1 t155) ∧ (w'.heap[gb135]? = some (.cells #[.slice A0_0 l0_0.length c0_0, .slice A0_1 l0_1.length c0_1] 26 (0, 0))) ∧ (w'.heap[gb136]? = some (.cells #[.slice none 0 0, .slice none 0 0] 26 (0, 0))) ∧ (w'.heap[s_.2.2]? = some (.cells #[.slice none 0 0, .slice none 0 0] 26 (0, 0))) ∧ (w.heap.size ≤ s_.2.2) ∧ (w.heap.size ≤ s_.2.2) ∧ (gb135 ≠ s_.2.2) ∧ (s_.2.2 ≠ gb135) ∧ (gb136 ≠ s_.2.2) ∧ (s_.2.2 ≠ gb136) ∧ (Below w.heap.size w w')) ?_ ?_
         rotate_left
         ·intro hCont
          refine two_ (i := 2) (j := 10) (Ni := some 48) (Nj := some 8) (Sh.nm 12 255) (Sh.nm 12 1275) rfl rfl rfl rfl (two_of HT_.out (by kernel_rfl)) (by decide) (by decide) (fun K hK => ?_) (fun K hK => ?_)
          ·skip
           refine goes_ Try.func13 (by kernel_rfl) rfl #[.agg #[.slice A0_0 l0_0.length c0_0, .slice A0_1 l0_1.length c0_1], .int .i64 0, .int .i64 x7_2] (by rfl) rfl rfl (by (try simp only [List.map_toArray, List.map_cons, List.map_nil]); first | done | rfl | (simp only [List.length_drop, List.length_take]; rfl)) ?_
           with_reducible refine (spec_l9First.calls k2 _ _ l0_0 _ _ l0_1 0 x7_2 t152 _ (Sh.cB HR0_0.out) HC0_0.out (Sh.cB HR0_1.out) HC0_1.out A60.out).mono ?_
           rintro e w87 ⟨v153, rfl, ho0, hb⟩
           refine ⟨_, rfl, ?_⟩
           have HO154 := am_ (Kd.R_lower ho0 (below_size Sh.bw))
           replace BK135 := Sh.ab BK135 hb
           replace BK136 := Sh.ab BK136 hb
           replace HB := Sh.hb hb
           (try clear hb)
           (try clear hb2)
           (try clear hk)
           (try clear hi)
           (try clear ho0)
           refine Sh.kN hK Sh.cs fun hHeld => ?_
           clear hK K
           refine two_ (i := 8) (j := 10) (Ni := some 54) (Nj := some 8) (Sh.nm 12 511) (Sh.nm 12 1279) rfl rfl rfl rfl (two_of HT_.out (by kernel_rfl)) (by decide) (by decide) (fun K hK => ?_) (fun K hK => ?_)
           ·skip
            refine goes_ Try.func13 (by kernel_rfl) rfl #[.agg #[.slice A0_0 l0_0.length c0_0, .slice A0_1 l0_1.length c0_1], .int .i64 x7_2, .int .i64 (l0_1.length : Int)] (by rfl) rfl rfl (by (try simp only [List.map_toArray, List.map_cons, List.map_nil]); first | done | rfl | (simp only [List.length_drop, List.length_take]; rfl)) ?_
            with_reducible refine (spec_l9First.calls k2 _ _ l0_0 _ _ l0_1 x7_2 (l0_1.length : Int) t155 _ (Sh.cB HR0_0.out) HC0_0.out (Sh.cB HR0_1.out) HC0_1.out A61.out).mono ?_
            rintro e w88 ⟨v156, rfl, ho0, hb⟩
            refine ⟨_, rfl, ?_⟩
            have HO157 := am_ (Kd.R_lower (Kd.R_new' ho0 (Kd.R_lt (Sh.rl HO154.out))) (below_size Sh.bw))
            replace HO154 := am_ (Kd.R_elder' (Sh.rl HO154.out) (Kd.R_base ho0) hb)
            replace BK135 := Sh.ab BK135 hb
            replace BK136 := Sh.ab BK136 hb
            replace HB := Sh.hb hb
            (try clear hb)
            (try clear hb2)
            (try clear hk)
            (try clear hi)
            (try clear ho0)
            refine Sh.kN hK Sh.cs fun hHeld => ?_
            clear hK K
            first | refine Sh.qA 9 ?_ | refine Sh.qA 9 ?_ (v := .agg #[v153, v156]) (hy := by intro w'; obtain ⟨A1_, c1_, e1_⟩ : ∃ A c, v153 = .slice A _ c := Kd.R_slice (Aside0.out (by assumption)); obtain ⟨A2_, c2_, e2_⟩ : ∃ A c, v156 = .slice A _ c := Kd.R_slice (Aside0.out (by assumption)); rw [e1_, e2_]; first | (go_simp; done) | (go_simp; rfl))
            refine one_ (i := 10) (N := some 8) (Sh.nm 12 2047) rfl rfl (one_of HT_.out (by kernel_rfl)) (by decide) (fun K hK => ?_)
            obtain ⟨Ao89, co89, eo89⟩ := Kd.R_slice HO157.out
            (first | subst eo89 | (injection eo89 with f1_ f2_ f3_; have f4_ := f1_.symm; have f5_ := f3_.symm; clear f1_ f2_ f3_; subst f4_; subst f5_))
            obtain ⟨Ao90, co90, eo90⟩ := Kd.R_slice HO154.out
            (first | subst eo90 | (injection eo90 with f1_ f2_ f3_; have f4_ := f1_.symm; have f5_ := f3_.symm; clear f1_ f2_ f3_; subst f4_; subst f5_))
            refine box_step ?hg (N := 8) ?hd (cs := #[.slice none 0 0, .slice none 0 0]) (t := 26) ?hr ?_; (case hd => rfl); (case hg => rfl); (case hr => first | (go_simp; done) | (go_simp; rfl))
            intro gb158 hg w91 hbox hb
            replace HO154 := am_ (Kd.R_below (Sh.rl HO154.out) hb)
            replace HO157 := am_ (Kd.R_below (Sh.rl HO157.out) hb)
            have BK158 := am_ hbox
            have GW158 := Sh.ag w hg
            have GE158 := Sh.ag w hg
            replace HB := Sh.hb hb
            have NB135_158 := am_ (Sh.nl hg BK135.out)
            have NB158_135 := am_ (Sh.ng hg BK135.out)
            replace BK135 := Sh.ab BK135 hb
            have NB136_158 := am_ (Sh.nl hg BK136.out)
            have NB158_136 := am_ (Sh.ng hg BK136.out)
            replace BK136 := Sh.ab BK136 hb
            clear hb hbox hg
            refine Sh.kN hK Sh.cs fun hHeld => ?_
            clear hK K
            exact norm_ (by simp only [putAll, Act.put, List.setIfInBounds_toArray, List.set_cons_zero, List.set_cons_succ]) (hCont (.slice Ao90 t152.length co90, .slice Ao89 t155.length co89, gb158) _ ⟨hHeld, (Sh.rl (Kd.R_mono HO154.out (fun _ hk => hk.2))), (Sh.rl (Kd.R_mono HO157.out (fun _ hk => hk.2))), (Sh.pl BK135.out), (Sh.pl BK136.out), (Sh.pl BK158.out), GW158.out, GE158.out, NB135_158.out, NB158_135.out, NB136_158.out, NB158_136.out, Sh.bw⟩)
           ·skip
            refine box_step ?hg (N := 8) ?hd (cs := #[.slice none 0 0, .slice none 0 0]) (t := 26) ?hr ?_; (case hd => rfl); (case hg => rfl); (case hr => first | (go_simp; done) | (go_simp; rfl))
            intro gb158 hg w88 hbox hb
            replace HO154 := am_ (Kd.R_below (Sh.rl HO154.out) hb)
            have BK158 := am_ hbox
            have GW158 := Sh.ag w hg
            have GE158 := Sh.ag w hg
            replace HB := Sh.hb hb
            have NB135_158 := am_ (Sh.nl hg BK135.out)
            have NB158_135 := am_ (Sh.ng hg BK135.out)
            replace BK135 := Sh.ab BK135 hb
            have NB136_158 := am_ (Sh.nl hg BK136.out)
            have NB158_136 := am_ (Sh.ng hg BK136.out)
            replace BK136 := Sh.ab BK136 hb
            clear hb hbox hg
            refine Sh.kN hK Sh.cs fun hHeld => ?_
            clear hK K
            refine Sh.oC 8 Try.func13 #[.agg #[.slice A0_0 l0_0.length c0_0, .slice A0_1 l0_1.length c0_1], .int .i64 x7_2, .int .i64 (l0_1.length : Int)] fun K hK => ?_
            with_reducible refine (spec_l9First.calls k2 _ _ l0_0 _ _ l0_1 x7_2 (l0_1.length : Int) t155 _ (Sh.cB HR0_0.out) HC0_0.out (Sh.cB HR0_1.out) HC0_1.out A61.out).mono ?_
            rintro e w89 ⟨v156, rfl, ho0, hb⟩
            refine ⟨_, rfl, ?_⟩
            have HO157 := am_ (Kd.R_lower (Kd.R_new' ho0 (Kd.R_lt (Sh.rl HO154.out))) (below_size Sh.bw))
            replace HO154 := am_ (Kd.R_elder' (Sh.rl HO154.out) (Kd.R_base ho0) hb)
            replace BK135 := Sh.ab BK135 hb
            replace BK136 := Sh.ab BK136 hb
            replace BK158 := Sh.ab BK158 hb
            replace HB := Sh.hb hb
            (try clear hb)
            (try clear hb2)
            (try clear hk)
            (try clear hi)
            (try clear ho0)
            obtain ⟨Ao90, co90, eo90⟩ := Kd.R_slice HO157.out
            (first | subst eo90 | (injection eo90 with f1_ f2_ f3_; have f4_ := f1_.symm; have f5_ := f3_.symm; clear f1_ f2_ f3_; subst f4_; subst f5_))
            obtain ⟨Ao91, co91, eo91⟩ := Kd.R_slice HO154.out
            (first | subst eo91 | (injection eo91 with f1_ f2_ f3_; have f4_ := f1_.symm; have f5_ := f3_.symm; clear f1_ f2_ f3_; subst f4_; subst f5_))
            refine Sh.kN hK Sh.cs fun hHeld => ?_
            clear hK K
            first | refine Sh.qA 9 ?_ | refine Sh.qA 9 ?_ (v := .agg #[v153, v156]) (hy := by intro w'; obtain ⟨A1_, c1_, e1_⟩ : ∃ A c, v153 = .slice A _ c := Kd.R_slice (Aside0.out (by assumption)); obtain ⟨A2_, c2_, e2_⟩ : ∃ A c, v156 = .slice A _ c := Kd.R_slice (Aside0.out (by assumption)); rw [e1_, e2_]; first | (go_simp; done) | (go_simp; rfl))
            exact norm_ (by simp only [putAll, Act.put, List.setIfInBounds_toArray, List.set_cons_zero, List.set_cons_succ]) (hCont (.slice Ao91 t152.length co91, .slice Ao90 t155.length co90, gb158) _ ⟨hHeld, (Sh.rl (Kd.R_mono HO154.out (fun _ hk => hk.2))), (Sh.rl (Kd.R_mono HO157.out (fun _ hk => hk.2))), (Sh.pl BK135.out), (Sh.pl BK136.out), (Sh.pl BK158.out), GW158.out, GE158.out, NB135_158.out, NB158_135.out, NB136_158.out, NB158_136.out, Sh.bw⟩)
          ·skip
           refine box_step ?hg (N := 8) ?hd (cs := #[.slice none 0 0, .slice none 0 0]) (t := 26) ?hr ?_; (case hd => rfl); (case hg => rfl); (case hr => first | (go_simp; done) | (go_simp; rfl))
           intro gb158 hg w87 hbox hb
           have BK158 := am_ hbox
           have GW158 := Sh.ag w hg
           have GE158 := Sh.ag w hg
           replace HB := Sh.hb hb
           have NB135_158 := am_ (Sh.nl hg BK135.out)
           have NB158_135 := am_ (Sh.ng hg BK135.out)
           replace BK135 := Sh.ab BK135 hb
           have NB136_158 := am_ (Sh.nl hg BK136.out)
           have NB158_136 := am_ (Sh.ng hg BK136.out)
           replace BK136 := Sh.ab BK136 hb
           clear hb hbox hg
           refine Sh.kN hK Sh.cs fun hHeld => ?_
           clear hK K
           refine Sh.oC 2 Try.func13 #[.agg #[.slice A0_0 l0_0.length c0_0, .slice A0_1 l0_1.length c0_1], .int .i64 0, .int .i64 x7_2] fun K hK => ?_
           with_reducible refine (spec_l9First.calls k2 _ _ l0_0 _ _ l0_1 0 x7_2 t152 _ (Sh.cB HR0_0.out) HC0_0.out (Sh.cB HR0_1.out) HC0_1.out A60.out).mono ?_
           rintro e w88 ⟨v153, rfl, ho0, hb⟩
           refine ⟨_, rfl, ?_⟩
           have HO154 := am_ (Kd.R_lower ho0 (below_size Sh.bw))
           replace BK135 := Sh.ab BK135 hb
           replace BK136 := Sh.ab BK136 hb
           replace BK158 := Sh.ab BK158 hb
           replace HB := Sh.hb hb
           (try clear hb)
           (try clear hb2)
           (try clear hk)
           (try clear hi)
           (try clear ho0)
           refine Sh.kN hK Sh.cs fun hHeld => ?_
           clear hK K
           refine Sh.oC 8 Try.func13 #[.agg #[.slice A0_0 l0_0.length c0_0, .slice A0_1 l0_1.length c0_1], .int .i64 x7_2, .int .i64 (l0_1.length : Int)] fun K hK => ?_
           with_reducible refine (spec_l9First.calls k2 _ _ l0_0 _ _ l0_1 x7_2 (l0_1.length : Int) t155 _ (Sh.cB HR0_0.out) HC0_0.out (Sh.cB HR0_1.out) HC0_1.out A61.out).mono ?_
           rintro e w89 ⟨v156, rfl, ho0, hb⟩
           refine ⟨_, rfl, ?_⟩
           have HO157 := am_ (Kd.R_lower (Kd.R_new' ho0 (Kd.R_lt (Sh.rl HO154.out))) (below_size Sh.bw))
           replace HO154 := am_ (Kd.R_elder' (Sh.rl HO154.out) (Kd.R_base ho0) hb)
           replace BK135 := Sh.ab BK135 hb
           replace BK136 := Sh.ab BK136 hb
           replace BK158 := Sh.ab BK158 hb
           replace HB := Sh.hb hb
           (try clear hb)
           (try clear hb2)
           (try clear hk)
           (try clear hi)
           (try clear ho0)
           obtain ⟨Ao90, co90, eo90⟩ := Kd.R_slice HO157.out
           (first | subst eo90 | (injection eo90 with f1_ f2_ f3_; have f4_ := f1_.symm; have f5_ := f3_.symm; clear f1_ f2_ f3_; subst f4_; subst f5_))
           obtain ⟨Ao91, co91, eo91⟩ := Kd.R_slice HO154.out
           (first | subst eo91 | (injection eo91 with f1_ f2_ f3_; have f4_ := f1_.symm; have f5_ := f3_.symm; clear f1_ f2_ f3_; subst f4_; subst f5_))
           refine Sh.kN hK Sh.cs fun hHeld => ?_
           clear hK K
           first | refine Sh.qA 9 ?_ | refine Sh.qA 9 ?_ (v := .agg #[v153, v156]) (hy := by intro w'; obtain ⟨A1_, c1_, e1_⟩ : ∃ A c, v153 = .slice A _ c := Kd.R_slice (Aside0.out (by assumption)); obtain ⟨A2_, c2_, e2_⟩ : ∃ A c, v156 = .slice A _ c := Kd.R_slice (Aside0.out (by assumption)); rw [e1_, e2_]; first | (go_simp; done) | (go_simp; rfl))
           exact norm_ (by simp only [putAll, Act.put, List.setIfInBounds_toArray, List.set_cons_zero, List.set_cons_succ]) (hCont (.slice Ao91 t152.length co91, .slice Ao90 t155.length co90, gb158) _ ⟨hHeld, (Sh.rl (Kd.R_mono HO154.out (fun _ hk => hk.2))), (Sh.rl (Kd.R_mono HO157.out (fun _ hk => hk.2))), (Sh.pl BK135.out), (Sh.pl BK136.out), (Sh.pl BK158.out), GW158.out, GE158.out, NB135_158.out, NB158_135.out, NB136_158.out, NB158_136.out, Sh.bw⟩)
         rintro ⟨v153, v156, gb158⟩ w92 ⟨hS_, h0_, h1_, h2_, h3_, h4_, h5_, h6_, h7_, h8_, h9_, h10_, h11_⟩
         have n0_ : Aside0 (Kd.R (Kd.int .i64) 3 w92 w.heap.size (fun k_ => some k_ ≠ (v156 : Value).ownBlock) v153 t152) := ⟨h0_⟩
         have n1_ : Aside0 (Kd.R (Kd.int .i64) 3 w92 w.heap.size (fun k_ => some k_ ≠ (v153 : Value).ownBlock) v156 t155) := ⟨h1_⟩
         have n2_ : Aside0 (w92.heap[gb135]? = some (.cells #[.slice A0_0 l0_0.length c0_0, .slice A0_1 l0_1.length c0_1] 26 (0, 0))) := ⟨h2_⟩
         have n3_ : Aside0 (w92.heap[gb136]? = some (.cells #[.slice none 0 0, .slice none 0 0] 26 (0, 0))) := ⟨h3_⟩
         have n4_ : Aside0 (w92.heap[gb158]? = some (.cells #[.slice none 0 0, .slice none 0 0] 26 (0, 0))) := ⟨h4_⟩
         have n5_ : Aside0 (w.heap.size ≤ gb158) := ⟨h5_⟩
         have n6_ : Aside0 (w.heap.size ≤ gb158) := ⟨h6_⟩
         have n7_ : Aside0 (gb135 ≠ gb158) := ⟨h7_⟩
         have n8_ : Aside0 (gb158 ≠ gb135) := ⟨h8_⟩
         have n9_ : Aside0 (gb136 ≠ gb158) := ⟨h9_⟩
         have n10_ : Aside0 (gb158 ≠ gb136) := ⟨h10_⟩
         have n11_ : Aside0 (Below w.heap.size w w92) := ⟨h11_⟩
         clear BK135
         clear BK136
         clear HB
         clear h0_ h1_ h2_ h3_ h4_ h5_ h6_ h7_ h8_ h9_ h10_ h11_
         have HO154 := n0_
         have HO157 := n1_
         have BK135 := n2_
         have BK136 := n3_
         have BK158 := n4_
         have GW158 := n5_
         have GE158 := n6_
         have NB135_158 := n7_
         have NB158_135 := n8_
         have NB136_158 := n9_
         have NB158_136 := n10_
         have HB := n11_
         clear n0_ n1_ n2_ n3_ n4_ n5_ n6_ n7_ n8_ n9_ n10_ n11_
         have hHeld : w92.cell? ⟨gb135, 0, none⟩ = some (.slice A0_0 l0_0.length c0_0) ∧ w92.cell? ⟨gb135, 1, none⟩ = some (.slice A0_1 l0_1.length c0_1) := hS_
         obtain ⟨Ao93, co93, eo93⟩ := Kd.R_slice HO157.out
         (first | subst eo93 | (injection eo93 with f1_ f2_ f3_; have f4_ := f1_.symm; have f5_ := f3_.symm; clear f1_ f2_ f3_; subst f4_; subst f5_))
         obtain ⟨Ao94, co94, eo94⟩ := Kd.R_slice HO154.out
         (first | subst eo94 | (injection eo94 with f1_ f2_ f3_; have f4_ := f1_.symm; have f5_ := f3_.symm; clear f1_ f2_ f3_; subst f4_; subst f5_))
         refine norm_ (a' := ?_) ?_ ?_
         rotate_left
         ·simp only [putAll, Act.put, List.setIfInBounds_toArray, List.set_cons_zero, List.set_cons_succ]
          rfl
         refine one_ (i := 11) (N := none) (Sh.nm 12 4095) rfl rfl (one_of HT_.out (by kernel_rfl)) (by decide) (fun K hK => ?_)
         have hs95 : w92.cell? ⟨gb158, 0, none⟩ = some (.slice none 0 0) := (blk_cell BK158.out 0).trans rfl
         have hfs95 := blk_frozen BK158.out 0
         have hns95_0 := NB135_158.out
         have hns95_1 := NB136_158.out
         have hms95_0 := NB158_135.out
         have hms95_1 := NB158_136.out
         have hs96 : w92.cell? ⟨gb158, 1, none⟩ = some (.slice none 0 0) := (blk_cell BK158.out 1).trans rfl
         have hfs96 := blk_frozen BK158.out 1
         have hns96_0 := NB135_158.out
         have hns96_1 := NB136_158.out
         have hms96_0 := NB158_135.out
         have hms96_1 := NB158_136.out
         refine skip_ (w1 := ?_) (by rfl) rfl ?_ ?_
         rotate_left
         ·go_simp
          rfl
         refine hK.out _ _ ⟨((cell_far (p := ⟨gb158, _, none⟩) NB135_158.out _).trans (((cell_far (p := ⟨gb158, _, none⟩) NB135_158.out _).trans (hHeld.1)))), ((cell_far (p := ⟨gb158, _, none⟩) NB135_158.out _).trans (((cell_far (p := ⟨gb158, _, none⟩) NB135_158.out _).trans (hHeld.2))))⟩ (fun hHeld => ?_)
         clear hK K
         refine done_ (done_of HT_.out (by kernel_rfl)) ?_
         have hnb97 := NB158_135.out
         have hnc97 := NB135_158.out
         have hnb98 := NB158_136.out
         have hnc98 := NB136_158.out
         have hcz99_0 := Sh.bc BK158.out 0
         have hcz99_1 := Sh.bc BK158.out 1
         have hfz99_0 := blk_frozen BK158.out 0
         have hfz99_1 := blk_frozen BK158.out 1
         have hcz100_0 := Sh.bc BK135.out 0
         have hcz100_1 := Sh.bc BK135.out 1
         have hfz100_0 := blk_frozen BK135.out 0
         have hfz100_1 := blk_frozen BK135.out 1
         try go_wp2_with (first | ((with_reducible refine Sh.k 14 ?_); refine Sh.gL (some 58) Try.func14 #[.agg #[.slice Ao94 t152.length co94, .slice Ao93 t155.length co93], .agg #[.slice A0_0 l0_0.length c0_0, .slice A0_1 l0_1.length c0_1]] (h := ?_); (with_reducible refine (spec_l9Same.calls k2 _ _ t152 _ _ t155 _ _ l0_0 _ _ l0_1 false _ ?side1 ?side2 ?side3 ?side4 ?side5 ?side6 ?side7 ?side8 A62.out).mono ?_); (case side1 => refine (Kd.R_reads' (e := 3) (base := w.heap.size) (ok := fun k_ => some k_ ≠ (.slice Ao93 t155.length co93 : Value).ownBlock) (n := t152.length) (c := co94) ?_).2.2; exact (Sh.rl (Kd.R_mono (Kd.R_far (p := ⟨gb158, 1, none⟩) (Kd.R_far (p := ⟨gb158, 0, none⟩) (Kd.R_types HO154.out BK158.out (by decide)) (fun _ hk => hk.2) (.slice Ao94 t152.length co94)) (fun _ hk => hk.2) (.slice Ao93 t155.length co93)) (fun _ h_ => h_.1)))); (case side2 => exact (Kd.R_reads' HO154.out).2.1); (case side3 => refine (Kd.R_reads' (e := 3) (base := w.heap.size) (ok := fun k_ => some k_ ≠ (.slice Ao94 t152.length co94 : Value).ownBlock) (n := t155.length) (c := co93) ?_).2.2; exact (Sh.rl (Kd.R_mono (Kd.R_far (p := ⟨gb158, 1, none⟩) (Kd.R_far (p := ⟨gb158, 0, none⟩) (Kd.R_types HO157.out BK158.out (by decide)) (fun _ hk => hk.2) (.slice Ao94 t152.length co94)) (fun _ hk => hk.2) (.slice Ao93 t155.length co93)) (fun _ h_ => h_.1)))); (case side4 => exact (Kd.R_reads' HO157.out).2.1); (case side5 => exact Kd.C_below HR0_0.out Sh.bw); (case side6 => exact HC0_0.out); (case side7 => exact Kd.C_below HR0_1.out Sh.bw); (case side8 => exact HC0_1.out); rintro e w101 ⟨rfl, hb⟩; refine ⟨_, rfl, ?_⟩; replace HO154 := am_ (Kd.R_below (Sh.rl (Kd.R_mono (Kd.R_far (p := ⟨gb158, 1, none⟩) (Kd.R_far (p := ⟨gb158, 0, none⟩) (Kd.R_types HO154.out BK158.out (by decide)) (fun _ hk => hk.2) (.slice Ao94 t152.length co94)) (fun _ hk => hk.2) (.slice Ao93 t155.length co93)) (fun _ h_ => h_.1))) hb); replace HO157 := am_ (Kd.R_below (Sh.rl (Kd.R_mono (Kd.R_far (p := ⟨gb158, 1, none⟩) (Kd.R_far (p := ⟨gb158, 0, none⟩) (Kd.R_types HO157.out BK158.out (by decide)) (fun _ hk => hk.2) (.slice Ao94 t152.length co94)) (fun _ hk => hk.2) (.slice Ao93 t155.length co93)) (fun _ h_ => h_.1))) hb); replace BK135 := am_ (blk_below (g := gb135) (o := .cells #[.slice A0_0 l0_0.length c0_0, .slice A0_1 l0_1.length c0_1] 26 (0, 0)) (by refine Sh.pl ?_; refine blk_far ?_ NB135_158.out _; refine Sh.pl ?_; refine blk_far ?_ NB135_158.out _; refine Sh.pl ?_; exact BK135.out) hb); replace BK136 := am_ (blk_below (g := gb136) (o := .cells #[.slice none 0 0, .slice none 0 0] 26 (0, 0)) (by refine Sh.pl ?_; refine blk_far ?_ NB136_158.out _; refine Sh.pl ?_; refine blk_far ?_ NB136_158.out _; refine Sh.pl ?_; exact BK136.out) hb); replace BK158 := am_ (blk_below (g := gb158) (o := .cells #[.slice Ao94 t152.length co94, .slice Ao93 t155.length co93] 26 (0, 0)) (by refine Sh.pl ?_; refine blk_put (cs := #[.slice Ao94 t152.length co94, .slice none 0 0]) ?_ 1 _ rfl; refine Sh.pl ?_; refine blk_put (cs := #[.slice none 0 0, .slice none 0 0]) ?_ 0 _ rfl; refine Sh.pl ?_; exact BK158.out) hb); replace HB := Sh.hb hb; (try clear hb); (try clear hb2); (try clear hk); (try clear hi)))
         go_roundg k2
         case measure => have := HK1.out; have := HK2.out; omega
         case rel => exact ⟨(wrap64 (x7_2 + 1)), (Sh.es), H', ⟨by have := HK1.out; have := HK2.out; omega⟩, ⟨by refine Sh.pl ?_; exact BK135.out⟩, ⟨by refine Sh.pl ?_; exact BK136.out⟩, ⟨Sh.bw⟩⟩
       ·rw [if_neg c59] at H
        have c59b0 := decide_eq_false c59
        clear c59
        obtain ⟨t146, A102, H⟩ := Sh.ba H
        obtain ⟨t149, A103, H⟩ := Sh.ba H
        simp only [Option.some.injEq, Prod.mk.injEq] at H
        obtain ⟨rfl, rfl, rfl⟩ := H
        have hnb104 := NB135_136.out
        have hnc104 := NB136_135.out
        have hcz105_0 := Sh.bc BK135.out 0
        have hcz105_1 := Sh.bc BK135.out 1
        have hfz105_0 := blk_frozen BK135.out 0
        have hfz105_1 := blk_frozen BK135.out 1
        try go_wp2
        replace BK135 := am_ (blk_drew BK135.out)
        replace BK136 := am_ (blk_drew BK136.out)
        replace HB := am_ (below_drew1 HB.out)
        refine start_ (n := 9) (S := fun w' => w'.cell? ⟨gb135, 0, none⟩ = some (.slice A0_0 l0_0.length c0_0) ∧ w'.cell? ⟨gb135, 1, none⟩ = some (.slice A0_1 l0_1.length c0_1)) (ds := []) (Sh.nm 9 0) (by kernel_rfl) rfl rfl Sh.cs (fun hHeld => ?_); refine with_tabW spec_LeastLasso.tab18 spec_LeastLasso.bits18 (fun HT_ HW_ => ?_)
        generalize wr.drew = w106 at BK135 BK136 HB hHeld ⊢
        refine Sh.qA 0 ?_; refine Sh.qA 3 ?_; refine Sh.qT 1 hHeld ?_; refine Sh.qT 4 hHeld ?_
        refine Sh.oC 2 Try.func15 #[.slice A0_0 l0_0.length c0_0] fun K hK => ?_
        with_reducible refine (spec_l1Own.calls _ _ l0_0 t146 _ (Sh.cB HR0_0.out) HC0_0.out A102.out).mono ?_
        rintro e w107 ⟨v147, rfl, ho0, hb⟩
        refine ⟨_, rfl, ?_⟩
        have HO148 := am_ (Kd.R_lower ho0 (below_size Sh.bw))
        replace BK135 := Sh.ab BK135 hb
        replace BK136 := Sh.ab BK136 hb
        replace HB := Sh.hb hb
        (try clear hb)
        (try clear hb2)
        (try clear hk)
        (try clear hi)
        (try clear ho0)
        refine Sh.kN hK Sh.cs fun hHeld => ?_
        clear hK K
        refine Sh.oC 5 Try.func15 #[.slice A0_1 l0_1.length c0_1] fun K hK => ?_
        with_reducible refine (spec_l1Own.calls _ _ l0_1 t149 _ (Sh.cB HR0_1.out) HC0_1.out A103.out).mono ?_
        rintro e w108 ⟨v150, rfl, ho0, hb⟩
        refine ⟨_, rfl, ?_⟩
        have HO151 := am_ (Kd.R_lower (Kd.R_new' ho0 (Kd.R_lt (Sh.rl HO148.out))) (below_size Sh.bw))
        replace HO148 := am_ (Kd.R_elder' (Sh.rl HO148.out) (Kd.R_base ho0) hb)
        replace BK135 := Sh.ab BK135 hb
        replace BK136 := Sh.ab BK136 hb
        replace HB := Sh.hb hb
        (try clear hb)
        (try clear hb2)
        (try clear hk)
        (try clear hi)
        (try clear ho0)
        obtain ⟨Ao109, co109, eo109⟩ := Kd.R_slice HO151.out
        (first | subst eo109 | (injection eo109 with f1_ f2_ f3_; have f4_ := f1_.symm; have f5_ := f3_.symm; clear f1_ f2_ f3_; subst f4_; subst f5_))
        obtain ⟨Ao110, co110, eo110⟩ := Kd.R_slice HO148.out
        (first | subst eo110 | (injection eo110 with f1_ f2_ f3_; have f4_ := f1_.symm; have f5_ := f3_.symm; clear f1_ f2_ f3_; subst f4_; subst f5_))
        refine Sh.kN hK Sh.cs fun hHeld => ?_
        clear hK K
        refine Sh.qA 6 ?_
        refine one_ (i := 7) (N := none) (Sh.nm 9 255) rfl rfl (one_of HT_.out (by kernel_rfl)) (by decide) (fun K hK => ?_)
        have hs111 : w108.cell? ⟨gb136, 0, none⟩ = some (.slice none 0 0) := (blk_cell BK136.out 0).trans rfl
        have hfs111 := blk_frozen BK136.out 0
        have hns111_0 := NB135_136.out
        have hms111_0 := NB136_135.out
        have hs112 : w108.cell? ⟨gb136, 1, none⟩ = some (.slice none 0 0) := (blk_cell BK136.out 1).trans rfl
        have hfs112 := blk_frozen BK136.out 1
        have hns112_0 := NB135_136.out
        have hms112_0 := NB136_135.out
        refine skip_ (w1 := ?_) (by rfl) rfl ?_ ?_
        rotate_left
        ·go_simp
         rfl
        refine hK.out _ _ ⟨((cell_far (p := ⟨gb136, _, none⟩) NB135_136.out _).trans (((cell_far (p := ⟨gb136, _, none⟩) NB135_136.out _).trans (hHeld.1)))), ((cell_far (p := ⟨gb136, _, none⟩) NB135_136.out _).trans (((cell_far (p := ⟨gb136, _, none⟩) NB135_136.out _).trans (hHeld.2))))⟩ (fun hHeld => ?_)
        clear hK K
        refine Sh.qA 8 ?_
        refine done_ (done_of HT_.out (by kernel_rfl)) ?_
        try go_wp2
        refine bodyPost_ret (results_ct rfl _ _ gb136 26 #[.slice Ao110 t146.length co110, .slice Ao109 t149.length co109] (0, 0) _ rfl (by refine Sh.pl ?_; refine blk_put (cs := #[.slice Ao110 t146.length co110, .slice none 0 0]) ?_ 1 _ rfl; refine Sh.pl ?_; refine blk_put (cs := #[.slice none 0 0, .slice none 0 0]) ?_ 0 _ rfl; refine Sh.pl ?_; exact BK136.out) Try.underlying26 rfl (by kernel_rfl)) rfl ?_
        exact ⟨_, _, by first | rfl | (simp [errW_none, errW_some] <;> rfl) | (simp [*, errW_none, errW_some] <;> rfl), Sh.rl (Kd.R_mono (Kd.R_far (p := ⟨gb136, 1, none⟩) (Kd.R_far (p := ⟨gb136, 0, none⟩) (Kd.R_types HO148.out BK136.out (by decide)) (fun _ hk => hk.2) (.slice Ao110 t146.length co110)) (fun _ hk => hk.2) (.slice Ao109 t149.length co109)) (fun _ hk => hk.1.2)), Sh.rl (Kd.R_mono (Kd.R_far (p := ⟨gb136, 1, none⟩) (Kd.R_far (p := ⟨gb136, 0, none⟩) (Kd.R_types HO151.out BK136.out (by decide)) (fun _ hk => hk.2) (.slice Ao110 t146.length co110)) (fun _ hk => hk.2) (.slice Ao109 t149.length co109)) (fun _ hk => hk.1.2)), Sh.bw⟩
 ·replace c3 := Bool.eq_false_iff.mpr c3
  subst c3
  rw [Sh.nf] at H
  simp only [Option.some.injEq, Prod.mk.injEq] at H
  obtain ⟨rfl, rfl, rfl⟩ := H
  go_enter Try.func5, Try.ntmps5
  go_wp2_with (first | ((with_reducible refine Sh.d 1 ?_); refine Sh.bz w (N := 1) (cs := #[.slice A0_0 l0_0.length c0_0, .slice A0_1 l0_1.length c0_1]) (t := 26) (h := ?_); clear HB; intro gb135 w113 BK135 GE135 HB) | ((with_reducible refine Sh.d 2 ?_); refine Sh.bx (N := 2) (cs := #[.slice none 0 0, .slice none 0 0]) (t := 26) (h := ?_); intro gb136 hg w114 hbox hb; have BK136 := am_ hbox; have GE136 := Sh.ag w hg; replace HB := Sh.hb hb; have NB135_136 := am_ (Sh.nl hg BK135.out); have NB136_135 := am_ (Sh.ng hg BK135.out); replace BK135 := Sh.ab BK135 hb; clear hb hbox hg; have hnb115 := NB135_136.out; have hnc115 := NB136_135.out; obtain ⟨hcz116_0, hcz116_1, hfz116_0, hfz116_1⟩ := Sh.b2 BK135.out) | ((with_reducible refine Sh.k 12 ?_); refine Sh.gB (some 10) Try.func12 #[.agg #[.slice A0_0 l0_0.length c0_0, .slice A0_1 l0_1.length c0_1]] (spec_GoodLasso.calls k _ _ l0_0 _ _ l0_1 false _ (Sh.cB HR0_0.out) HC0_0.out (Sh.cB HR0_1.out) HC0_1.out A2.out) fun w117 hb => ?_; replace BK135 := Sh.ab BK135 hb; replace BK136 := Sh.ab BK136 hb; replace HB := Sh.hb hb; (try clear hb); (try clear hb2); (try clear hk); (try clear hi); obtain ⟨hcz118_0, hcz118_1, hfz118_0, hfz118_1⟩ := Sh.b2 BK136.out))
  refine bodyPost_ret (results_ct rfl _ _ gb136 26 #[.slice none 0 0, .slice none 0 0] (0, 0) _ rfl (by refine Sh.pl ?_; refine blk_put (cs := #[.slice none 0 0, .slice none 0 0]) ?_ 1 _ rfl; refine Sh.pl ?_; refine blk_put (cs := #[.slice none 0 0, .slice none 0 0]) ?_ 0 _ rfl; refine Sh.pl ?_; exact BK136.out) Try.underlying26 rfl (by kernel_rfl)) rfl ?_
  exact ⟨_, _, by first | rfl | (simp [errW_none, errW_some] <;> rfl) | (simp [*, errW_none, errW_some] <;> rfl), by first | exact Kd.R_nil _ _ _ _ _ | exact Kd.N_nil _ _ _ _ _ | exact Kd.V_nil _ _ _ _ _ | exact Kd.Q_nil _ _ _ _ _ | exact Kd.S_nil _ _ _ _ _, by first | exact Kd.R_nil _ _ _ _ _ | exact Kd.N_nil _ _ _ _ _ | exact Kd.V_nil _ _ _ _ _ | exact Kd.Q_nil _ _ _ _ _ | exact Kd.S_nil _ _ _ _ _, Sh.bw⟩
def laws_toIntS.l0 : Nat → List Int → List Int → Int → Option (List Int)
 | 0, _, _, _ => none
 | k + 1, x0, x3, x4 => if x4 < (x0.length : Int) then (if 0 ≤ x4 then (if x4 < (x3.length : Int) then (laws_toIntS.l0 k x0 (x3.set (x4 : Int).toNat (rd x0 x4)) (wrap64 (x4 + 1))) else (none)) else (none)) else (some x3)
def laws_toIntS.f (k : Nat) (l0 : List Int) : Option (List Int) := if 0 ≤ (l0.length : Int) then (if ((l0.length : Int) : Int).toNat ≤ 35184372088832 then (laws_toIntS.l0 k l0 (List.replicate ((l0.length : Int) : Int).toNat 0) 0) else (none)) else (none)
theorem laws_toIntS.mono_l : ∀ k, (∀ y0 y1 y2, LeO (laws_toIntS.l0 k y0 y1 y2) (laws_toIntS.l0 (k + 1) y0 y1 y2))
 | 0 => fun _ _ _ r h => by simp [laws_toIntS.l0] at h
 | k + 1 => by
  have ih0 := laws_toIntS.mono_l k
  ·intro y0 y1 y2
   unfold laws_toIntS.l0
   repeat' with_reducible first | apply ih0 | exact LeO.refl _ | exact LeO.none _ | apply LeO.ite | refine LeO.bind ?_ fun _ => ?_
theorem laws_toIntS.mono : ∀ a0 k, LeO (laws_toIntS.f k a0) (laws_toIntS.f (k + 1) a0) := by
 intro a0 k
 have ih0 := laws_toIntS.mono_l k
 unfold laws_toIntS.f
 repeat' with_reducible first | apply ih0 | exact LeO.refl _ | exact LeO.none _ | apply LeO.ite | refine LeO.bind ?_ fun _ => ?_
theorem laws_toIntS.calls (k : Nat) (A0 : Option Addr) (c0 : Nat) (l0 : List Int) (r : List Int) (w : World) (hr0 : Kd.C (Kd.int .i64) w A0 l0.length l0) (hc0 : l0.length ≤ c0) (h : laws_toIntS.f k l0 = some r) :
  Calls Try.prog 16 #[.slice A0 l0.length c0] w fun e w' => ∃ v0_ : Value, e = .returned (v0_) ∧ Kd.R (Kd.int .i64) 3 w' w.heap.size (fun _ => True) v0_ r ∧ Below w.heap.size w w' := by
 have HR0 := am_ hr0
 have HC0 := am_ hc0
 clear hr0 hc0
 have HB := am_ (Below.refl w.heap.size w)
 have H := h
 clear h
 unfold laws_toIntS.f at H
 by_cases c2 : 0 ≤ (l0.length : Int)
 ·rw [if_pos c2] at H
  have c2b0 := eq_true c2
  have c2b1 := decide_eq_true c2
  clear c2
  by_cases c3 : ((l0.length : Int) : Int).toNat ≤ 35184372088832
  ·rw [if_pos c3] at H
   have c3b0 := eq_true c3
   have c3b1 := decide_eq_true c3
   clear c3
   obtain ⟨y160, hy160⟩ : ∃ y_ : List Int, y_ = (List.replicate ((l0.length : Int) : Int).toNat 0) := ⟨_, rfl⟩
   replace H : (laws_toIntS.l0 k l0 y160 0) = some r := by first | (rw [hy160]; with_reducible exact H) | (have H2_ := (Option.bind_some _ _).symm.trans H; rw [hy160]; with_reducible exact H2_) | (have H2_ := (Option.bind_some _ _).symm.trans H; with_reducible exact H2_) | with_reducible exact H | (rw [hy160]; exact H) | exact H
   have Ny160 := am_ hy160
   clear hy160
   have H' := am_ H
   clear H
   go_enter Try.func16, Try.ntmps16
   go_wp2_with (first | ((with_reducible refine Sh.d 7 ?_); refine Kd.R_make (Kd.int .i64) _ 3 rfl (N := 7) rfl 22 _ _ rfl (l0.length : Int) rfl rfl Try.underlying22 (.int .i64 0) 8 info3 rfl (by decide) (by omega) 0 (ok := fun _ => True) (okp := fun _ => True) rfl (fun _ hk => hk) trivial (of_decide_eq_true (by first | (with_reducible assumption) | assumption)) (Nat.le_trans (Nat.mul_le_mul_right _ (of_decide_eq_true (by first | (with_reducible assumption) | assumption) : (l0.length : Int).toNat ≤ 35184372088832)) (by omega)) (Below.refl _ _) (Nat.le_refl _) ?_; intro v161 w4 ho5 hb hg_ hnew_; clear hg_ hnew_; (first | rw [← Ny160.out] at ho5 | (simp only [Int.reduceToNat] at ho5; rw [← Ny160.out] at ho5)); have HO162 := am_ (Kd.R_lower ho5 (below_size Sh.bw)); replace HB := Sh.hb hb; clear hb ho5))
   go_loopg [4] k (fun kq v4 w' => ∃ (x3_1 : List Int) (x4_1 : Int), v4 = .int .i64 x4_1 ∧ Aside0 (laws_toIntS.l0 kq l0 x3_1 x4_1 = some r) ∧ Aside0 (kq ≤ k) ∧ Aside0 (Kd.R (Kd.int .i64) 3 w' w.heap.size (fun _ => True) v161 x3_1) ∧ Aside0 (Below w.heap.size w w'))
   case atStart => exact ⟨(y160), (0), (Sh.es), H', ⟨Nat.le_refl _⟩, ⟨Sh.rl HO162.out⟩, ⟨Sh.bw⟩⟩
   case round =>
    clear H'
    obtain ⟨x3_1, x4_1, rfl, HA, HK1, HO_3, HB⟩ := hrel
    cases gk with
    | zero => exact absurd HA.out (by simp [laws_toIntS.l0])
    | succ k1 =>
     have H := HA.out
     clear HA
     simp only [laws_toIntS.l0] at H
     by_cases c6 : x4_1 < (l0.length : Int)
     ·rw [if_pos c6] at H
      have c6b0 := decide_eq_true c6
      clear c6
      by_cases c7 : 0 ≤ x4_1
      ·rw [if_pos c7] at H
       have c7b0 := decide_eq_true c7
       clear c7
       by_cases c8 : x4_1 < (x3_1.length : Int)
       ·rw [if_pos c8] at H
        have c8b0 := decide_eq_true c8
        clear c8
        obtain ⟨y164, hy164⟩ : ∃ y_ : List Int, y_ = (x3_1.set (x4_1 : Int).toNat (rd l0 x4_1)) := ⟨_, rfl⟩
        replace H : (laws_toIntS.l0 k1 l0 y164 (wrap64 (x4_1 + 1))) = some r := by first | (rw [hy164]; with_reducible exact H) | (have H2_ := (Option.bind_some _ _).symm.trans H; rw [hy164]; with_reducible exact H2_) | (have H2_ := (Option.bind_some _ _).symm.trans H; with_reducible exact H2_) | with_reducible exact H | (rw [hy164]; exact H) | exact H
        have Ny164 := am_ hy164
        clear hy164
        have H' := am_ H
        clear H
        have p163 : 0 ≤ (x4_1 : Int) := Sh.od
        have q163 : x4_1 < (l0.length : Int) := Sh.od
        obtain ⟨ad163, e163, hx163_0⟩ := Kd.at_int HR0.out x4_1 p163 q163
        cases e163
        try replace hx163_0 := Sh.cw hx163_0
        replace p163 := eq_true p163
        replace q163 := eq_true q163
        have p9 : 0 ≤ (x4_1 : Int) := Sh.od
        have q9 : (x4_1 : Int) < ((x3_1.length : Int) : Int) := Sh.od
        obtain ⟨go9, co9, eo9, gb9, gl9, cl9, HG9⟩ := Kd.R_form HO_3.out (by omega)
        (first | cases eo9 | (injection eo9 with ea_ en_ ec_; (first | subst ea_ | (injection ea_ with ea_; subst ea_)); subst ec_; clear en_))
        have GB9 := am_ gb9
        have GG9 := am_ HG9
        clear gb9 gl9 HG9
        obtain ⟨hx9_0, hf9_0⟩ := Kd.R_celln 0 HO_3.out (x4_1 : Int) p9 q9
        replace p9 := eq_true p9
        replace q9 := eq_true q9
        have HP10 := Kd.R_putg HO_3.out (x4_1 : Int) (rd l0 x4_1)
        go_wp2_with (first | ((with_reducible refine gate_store (t := 3) (p := 20) rfl ?_); refine store_event (t := 3) (p := 20) (v := ?vo_w11) (w1 := (wr.setCell ⟨go9, (x4_1 : Int).toNat, none⟩ (.int .i64 (rd l0 x4_1)))) ?hg ?ho ?hn ?hr ?_; (case ho => rfl); (case hg => rfl); (case hn => rfl); (case hr => first | (go_simp; done) | (go_simp; rfl)); intro w11 hw; have hg : wr.grownBy w11 (some go9) := (by rw [hw]; exact HP10.2); have hp_ : Kd.R (Kd.int .i64) 3 w11 w.heap.size (fun _ => True) (.slice (some ⟨go9, 0, none⟩) x3_1.length co9) y164 := (by rw [hw, Ny164.out]; exact HP10.1); clear HP10; replace HO_3 := am_ hp_; replace HB := am_ ((by rw [hw]; exact below_set (HB.out) GB9.out : Below w.heap.size w w11)); clear hg hw hp_))
        go_roundg k1
        case measure => have := HK1.out; omega
        case rel => exact ⟨(y164), (wrap64 (x4_1 + 1)), (Sh.es), H', ⟨by have := HK1.out; omega⟩, ⟨Sh.rl HO_3.out⟩, ⟨Sh.bw⟩⟩
       ·rw [if_neg c8] at H
        exact absurd H (by simp)
      ·rw [if_neg c7] at H
       exact absurd H (by simp)
     ·rw [if_neg c6] at H
      have c6b0 := decide_eq_false c6
      clear c6
      obtain rfl := Option.some.inj H
      go_wp2
      go_ret
      exact ⟨_, Sh.eR, Sh.rl HO_3.out, Sh.bw⟩
  ·rw [if_neg c3] at H
   exact absurd H (by simp)
 ·rw [if_neg c2] at H
  exact absurd H (by simp)
def laws_toLasso.f (k : Nat) (l0_0 : List Int) (l0_1 : List Int) : Option (List Int × List Int) := (laws_toIntS.f k l0_0).bind fun t168 => ((laws_toIntS.f k l0_1).bind fun t171 => (some (t168, t171)))
theorem laws_toLasso.mono : ∀ a0 a1 k, LeO (laws_toLasso.f k a0 a1) (laws_toLasso.f (k + 1) a0 a1) := by
 intro a0 a1 k
 unfold laws_toLasso.f
 repeat' with_reducible first | apply laws_toIntS.mono | exact LeO.refl _ | exact LeO.none _ | apply LeO.ite | refine LeO.bind ?_ fun _ => ?_
theorem laws_toLasso.calls (k : Nat) (A0_0 : Option Addr) (c0_0 : Nat) (l0_0 : List Int) (A0_1 : Option Addr) (c0_1 : Nat) (l0_1 : List Int) (r1 : List Int) (r2 : List Int) (w : World) (hr0_0 : Kd.C (Kd.int .i64) w A0_0 l0_0.length l0_0) (hc0_0 : l0_0.length ≤ c0_0) (hr0_1 : Kd.C (Kd.int .i64) w A0_1 l0_1.length l0_1) (hc0_1 : l0_1.length ≤ c0_1) (h : laws_toLasso.f k l0_0 l0_1 = some (r1, r2)) :
  Calls Try.prog 6 #[.agg #[.slice A0_0 l0_0.length c0_0, .slice A0_1 l0_1.length c0_1]] w fun e w' => ∃ v0_ v1_ : Value, e = .returned (.agg #[v0_, v1_]) ∧ Kd.R (Kd.int .i64) 3 w' w.heap.size (fun k_ => some k_ ≠ (v1_ : Value).ownBlock) v0_ r1 ∧ Kd.R (Kd.int .i64) 3 w' w.heap.size (fun k_ => some k_ ≠ (v0_ : Value).ownBlock) v1_ r2 ∧ Below w.heap.size w w' := by
 have hu24 := Try.underlying24
 have hu26 := Try.underlying26
 have HR0_0 := am_ hr0_0
 have HC0_0 := am_ hc0_0
 clear hr0_0 hc0_0
 have HR0_1 := am_ hr0_1
 have HC0_1 := am_ hc0_1
 clear hr0_1 hc0_1
 have HB := am_ (Below.refl w.heap.size w)
 have H := h
 clear h
 unfold laws_toLasso.f at H
 obtain ⟨t168, A2, H⟩ := Sh.ba H
 obtain ⟨t171, A3, H⟩ := Sh.ba H
 simp only [Option.some.injEq, Prod.mk.injEq] at H
 obtain ⟨rfl, rfl⟩ := H
 go_enter Try.func6, Try.ntmps6
 go_wp2_with (first | ((with_reducible refine Sh.d 1 ?_); refine Sh.bz w (N := 1) (cs := #[.slice A0_0 l0_0.length c0_0, .slice A0_1 l0_1.length c0_1]) (t := 24) (h := ?_); clear HB; intro gb165 w4 BK165 GE165 HB) | ((with_reducible refine Sh.d 2 ?_); refine Sh.bx (N := 2) (cs := #[.slice none 0 0, .slice none 0 0]) (t := 26) (h := ?_); intro gb166 hg w5 hbox hb; have BK166 := am_ hbox; have GE166 := Sh.ag w hg; replace HB := Sh.hb hb; have NB165_166 := am_ (Sh.nl hg BK165.out); have NB166_165 := am_ (Sh.ng hg BK165.out); replace BK165 := Sh.ab BK165 hb; clear hb hbox hg) | ((with_reducible refine Sh.d 3 ?_); refine Sh.bx (N := 3) (cs := #[.slice none 0 0, .slice none 0 0]) (t := 26) (h := ?_); intro gb167 hg w6 hbox hb; have BK167 := am_ hbox; have GE167 := Sh.ag w hg; replace HB := Sh.hb hb; have NB165_167 := am_ (Sh.nl hg BK165.out); have NB167_165 := am_ (Sh.ng hg BK165.out); replace BK165 := Sh.ab BK165 hb; have NB166_167 := am_ (Sh.nl hg BK166.out); have NB167_166 := am_ (Sh.ng hg BK166.out); replace BK166 := Sh.ab BK166 hb; clear hb hbox hg; have hnb7 := NB165_166.out; have hnc7 := NB166_165.out; have hnb8 := NB165_167.out; have hnc8 := NB167_165.out; obtain ⟨hcz9_0, hcz9_1, hfz9_0, hfz9_1⟩ := Sh.b2 BK165.out) | ((with_reducible refine Sh.k 16 ?_); refine Sh.gL (some 6) Try.func16 #[.slice A0_0 l0_0.length c0_0] (h := ?_); (with_reducible refine (laws_toIntS.calls k _ _ l0_0 t168 _ (Sh.cB HR0_0.out) HC0_0.out A2.out).mono ?_); rintro e w10 ⟨v169, rfl, ho0, hb⟩; refine ⟨_, rfl, ?_⟩; have HO170 := am_ (Kd.R_lower ho0 (below_size Sh.bw)); replace BK165 := Sh.ab BK165 hb; replace BK166 := Sh.ab BK166 hb; replace BK167 := Sh.ab BK167 hb; replace HB := Sh.hb hb; (try clear hb); (try clear hb2); (try clear hk); (try clear hi); (try clear ho0); obtain ⟨Ao11, co11, eo11⟩ := Kd.R_slice HO170.out; subst eo11; have hnb12 := NB167_166.out; have hnc12 := NB166_167.out; obtain ⟨hcz13_0, hcz13_1, hfz13_0, hfz13_1⟩ := Sh.b2 BK167.out; obtain ⟨hcz14_0, hcz14_1, hfz14_0, hfz14_1⟩ := Sh.b2 BK165.out) | ((with_reducible refine Sh.k 16 ?_); refine Sh.gL (some 10) Try.func16 #[.slice A0_1 l0_1.length c0_1] (h := ?_); (with_reducible refine (laws_toIntS.calls k _ _ l0_1 t171 _ (Sh.cB HR0_1.out) HC0_1.out A3.out).mono ?_); rintro e w15 ⟨v172, rfl, ho0, hb⟩; refine ⟨_, rfl, ?_⟩; have n0_ := am_ (Kd.R_elder' (Sh.rl (Kd.R_mono (Kd.R_far (p := ⟨gb167, 0, none⟩) (Kd.R_types HO170.out BK167.out (by decide)) (fun _ hk => hk.2) (.slice Ao11 t168.length co11)) (fun _ h_ => h_.1))) (Kd.R_base ho0) hb); have n1_ := am_ (Kd.R_lower (Kd.R_new' ho0 (Kd.R_lt (Sh.rl (Kd.R_mono (Kd.R_far (p := ⟨gb167, 0, none⟩) (Kd.R_types HO170.out BK167.out (by decide)) (fun _ hk => hk.2) (.slice Ao11 t168.length co11)) (fun _ h_ => h_.1))))) (below_size Sh.bw)); have n2_ := am_ (blk_below (g := gb165) (o := .cells #[.slice A0_0 l0_0.length c0_0, .slice A0_1 l0_1.length c0_1] 24 (0, 0)) (by refine Sh.pl ?_; refine blk_far ?_ NB165_167.out _; refine Sh.pl ?_; exact BK165.out) hb); have n3_ := am_ (blk_below (g := gb166) (o := .cells #[.slice none 0 0, .slice none 0 0] 26 (0, 0)) (by refine Sh.pl ?_; refine blk_far ?_ NB166_167.out _; refine Sh.pl ?_; exact BK166.out) hb); have n4_ := am_ (blk_below (g := gb167) (o := .cells #[.slice Ao11 t168.length co11, .slice none 0 0] 26 (0, 0)) (by refine Sh.pl ?_; refine blk_put (cs := #[.slice none 0 0, .slice none 0 0]) ?_ 0 _ rfl; refine Sh.pl ?_; exact BK167.out) hb); have n5_ := am_ (below_step Sh.bw hb); clear HO170; clear BK165; clear BK166; clear BK167; clear HB; have HO170 := n0_; have HO173 := n1_; have BK165 := n2_; have BK166 := n3_; have BK167 := n4_; have HB := n5_; clear n0_ n1_ n2_ n3_ n4_ n5_; (try clear hb); (try clear hb2); (try clear hk); (try clear hi); (try clear ho0); obtain ⟨Ao16, co16, eo16⟩ := Kd.R_slice HO173.out; subst eo16; obtain ⟨hcz17_0, hcz17_1, hfz17_0, hfz17_1⟩ := Sh.b2 BK167.out; obtain ⟨hcz18_0, hcz18_1, hfz18_0, hfz18_1⟩ := Sh.b2 BK166.out))
 refine bodyPost_ret (results_cell_row rfl _ _ gb166 26 #[.slice Ao11 t168.length co11, .slice Ao16 t171.length co16] (0, 0) _ rfl (by refine Sh.pl ?_; refine blk_put (cs := #[.slice Ao11 t168.length co11, .slice none 0 0]) ?_ 1 _ rfl; refine Sh.pl ?_; refine blk_put (cs := #[.slice none 0 0, .slice none 0 0]) ?_ 0 _ rfl; refine Sh.pl ?_; refine blk_far ?_ NB166_167.out _; refine Sh.pl ?_; exact BK166.out) Try.underlying26 rfl (by kernel_rfl)) rfl ?_
 exact ⟨_, _, by first | rfl | (simp [errW_none, errW_some] <;> rfl) | (simp [*, errW_none, errW_some] <;> rfl), Sh.rl (Kd.R_mono (Kd.R_far (p := ⟨gb166, 1, none⟩) (Kd.R_far (p := ⟨gb166, 0, none⟩) (Kd.R_far (p := ⟨gb167, 1, none⟩) (Kd.R_types (Kd.R_types HO170.out BK167.out (by decide)) BK166.out (by decide)) (fun _ hk => hk.1.2) (.slice Ao16 t171.length co16)) (fun _ hk => hk.2) (.slice Ao11 t168.length co11)) (fun _ hk => hk.2) (.slice Ao16 t171.length co16)) (fun _ hk => hk.1.1.2)), Sh.rl (Kd.R_mono (Kd.R_far (p := ⟨gb166, 1, none⟩) (Kd.R_far (p := ⟨gb166, 0, none⟩) (Kd.R_far (p := ⟨gb167, 1, none⟩) (Kd.R_types (Kd.R_types HO173.out BK167.out (by decide)) BK166.out (by decide)) (fun _ hk => hk.1.2) (.slice Ao16 t171.length co16)) (fun _ hk => hk.2) (.slice Ao11 t168.length co11)) (fun _ hk => hk.2) (.slice Ao16 t171.length co16)) (fun _ hk => hk.1.1.2)), Sh.bw⟩
theorem slices_IndexFunc_int_int.gen (g : Nat) (lb : Array Value) (eg : ∀ args w, (callFunc g args).run Try.prog w = .ok (.enter g args) w) (q : Int → Option Bool) (A0 : Option Addr) (c0 : Nat) (l0 : List (Int)) (r : Int) (w : World) (hr0 : Kd.C (Kd.int .i64) w A0 l0.length l0) (hc0 : l0.length ≤ c0)
  (hp : ∀ (W : World) (x : Int) (b : Bool), Below w.heap.size w W → x ∈ l0 → q x = some b → Calls Try.prog g (#[.int .i64 x] ++ lb) W fun e w' => e = .returned (.bool b) ∧ Below W.heap.size W w')
  (h : idxO q l0 0 = some r) : Calls Try.prog 30 #[.slice A0 l0.length c0, .func (.func g) #[] lb] w fun e w' => e = .returned (.int .i64 r) ∧ Below w.heap.size w w' := by
 have HR := am_ hr0
 have HP := am_ hp
 have HH := am_ h
 have hn : l0.length ≤ 9223372036854775807 := hr0.2.1
 clear hr0 hp h
 go_enter Try.func30, Try.ntmps30
 go_wp2
 go_loopg [5, 8] l0.length (fun gg _ s8 wr => ∃ kk : Nat, kk ≤ l0.length ∧ l0.length - kk ≤ gg ∧ s8 = .int .i64 kk ∧ Aside0 (idxO q (l0.drop kk) kk = some r) ∧ Aside0 (Below w.heap.size w wr))
 case atStart => exact ⟨0, Nat.zero_le _, by omega, rfl, HH, ⟨Below.refl _ _⟩⟩
 case round =>
  obtain ⟨kk, hkk, hg, rfl, HA, HB⟩ := hrel
  clear HH
  by_cases hlt : kk < l0.length
  ·have hltz : (kk : Int) < (l0.length : Int) := by omega
   have h0z : 0 ≤ (kk : Int) := by omega
   obtain ⟨ad, e, hx⟩ := Kd.at_int HR.out (kk : Int) h0z hltz
   have er : rd l0 (kk : Int) = l0.getD kk 0 := by simp [rd]
   rw [er] at hx
   have hA := HA.out
   rw [drop_getD hlt 0] at hA
   obtain ⟨b, hb, hA2⟩ := Option.bind_eq_some_iff.mp hA
   have HA2 := am_ hA2
   have hin := getD_in hlt (0 : Int)
   have hcall := HP.out wr _ b HB.out hin hb
   generalize l0.getD kk 0 = y at hx hcall
   clear HA hA hA2 hb er hin
   skip
   cases e
   simp only [Int.toNat_natCast] at hx
   replace hx := (HB.out.cell (World.block_lt_of_cell? w _ hx)).trans hx
   cases b with
   | true =>
    go_wp2_with (go_at_fn g; refine hcall.mono ?_; rintro e w' ⟨rfl, hb2⟩)
    go_ret
    have h3 := HA2.out
    simp only [if_true] at h3
    exact ⟨by rw [← Option.some.inj h3]; rfl, below_step HB.out hb2⟩
   | false =>
    go_wp2_with (go_at_fn g; refine hcall.mono ?_; rintro e w' ⟨rfl, hb2⟩)
    go_roundg (l0.length - (kk + 1))
    case measure => omega
    case rel =>
     refine ⟨kk + 1, by omega, by omega, by go_num, ⟨by have h3 := HA2.out; simpa using h3⟩, ⟨below_step HB.out hb2⟩⟩
  ·have hltz : ¬ (kk : Int) < (l0.length : Int) := by omega
   have hA := HA.out
   rw [List.drop_of_length_le (by omega)] at hA
   have h4 : (-1 : Int) = r := Option.some.inj hA
   subst h4
   clear HA hA
   have : kk = l0.length := by omega
   subst this
   go_wp2
   go_ret
   exact ⟨rfl, HB.out⟩
theorem slices_ContainsFunc_int_int.gen (g : Nat) (lb : Array Value) (eg : ∀ args w, (callFunc g args).run Try.prog w = .ok (.enter g args) w) (q : Int → Option Bool) (A0 : Option Addr) (c0 : Nat) (l0 : List (Int)) (r : Bool) (w : World) (hr0 : Kd.C (Kd.int .i64) w A0 l0.length l0) (hc0 : l0.length ≤ c0)
  (hp : ∀ (W : World) (x : Int) (b : Bool), Below w.heap.size w W → x ∈ l0 → q x = some b → Calls Try.prog g (#[.int .i64 x] ++ lb) W fun e w' => e = .returned (.bool b) ∧ Below W.heap.size W w')
  (h : anyO q l0 = some r) : Calls Try.prog 28 #[.slice A0 l0.length c0, .func (.func g) #[] lb] w fun e w' => e = .returned (.bool r) ∧ Below w.heap.size w w' := by
 obtain ⟨i, hi, hd⟩ := idxO_of_anyO l0 r 0 (Int.le_refl 0) h
 have HC := am_ (slices_IndexFunc_int_int.gen g lb eg q A0 c0 l0 i w hr0 hc0 hp hi)
 have HD := am_ hd
 clear hr0 hp h hi hd
 go_enter Try.func28, Try.ntmps28
 go_wp2_with (go_at_call 30; refine HC.out.mono ?_; rintro e w' ⟨rfl, hb2⟩)
 go_ret
 exact ⟨by rw [← HD.out]; rfl, hb2⟩
def impl_areLetters_1.f (a0 : Int) : Option (Bool) := if a0 < 0 then (some true) else (some (decide (a0 ≥ 8)))
theorem impl_areLetters_1.calls (a0 : Int) (r : Bool) (w : World) (h : impl_areLetters_1.f a0 = some r) :
  Calls Try.prog 29 #[.int .i64 a0] w fun e w' => e = .returned (.bool r) ∧ Drawn0 w w' := by
 have H := h
 clear h
 unfold impl_areLetters_1.f at H
 by_cases c2 : a0 < 0
 ·rw [if_pos c2] at H
  have c2b0 := decide_eq_true c2
  clear c2
  obtain rfl := Option.some.inj H
  go_enter Try.func29, Try.ntmps29
  go_wp2
  go_ret
  exact ⟨Sh.es, Sh.dr⟩
 ·rw [if_neg c2] at H
  have c2b0 := decide_eq_false c2
  clear c2
  obtain rfl := Option.some.inj H
  go_enter Try.func29, Try.ntmps29
  go_wp2
  go_ret
  exact ⟨Sh.es, Sh.dr⟩
def slices_ContainsFunc_int_int_by_impl_areLetters_1.f (l0 : List Int)  : Option (Bool) := anyO (fun x_ => impl_areLetters_1.f x_ ) l0
theorem slices_ContainsFunc_int_int_by_impl_areLetters_1.calls (A0 : Option Addr) (c0 : Nat) (l0 : List Int) (r : Bool) (w : World) (hr0 : Kd.C (Kd.int .i64) w A0 l0.length l0) (hc0 : l0.length ≤ c0) (h : slices_ContainsFunc_int_int_by_impl_areLetters_1.f l0  = some r) :
  Calls Try.prog 28 #[.slice A0 l0.length c0, .func (.func 29) #[] #[]] w fun e w' => e = .returned (.bool r) ∧ Below w.heap.size w w' := by
 refine slices_ContainsFunc_int_int.gen 29 #[] (enters_of Try.func29 (by kernel_rfl) rfl) _ A0 c0 l0 r w hr0 hc0 ?_ h
 intro W x b hB_ hin_ hq_
 refine (impl_areLetters_1.calls x  b W  hq_).mono ?_
 rintro e w' ⟨rfl, hd_⟩
 exact ⟨rfl, hd_.below⟩
def impl_areLetters.f (l0 : List Int) : Option (Bool) := (slices_ContainsFunc_int_int_by_impl_areLetters_1.f l0).bind fun t174 => (some (!t174))
theorem impl_areLetters.calls (A0 : Option Addr) (c0 : Nat) (l0 : List Int) (r : Bool) (w : World) (hr0 : Kd.C (Kd.int .i64) w A0 l0.length l0) (hc0 : l0.length ≤ c0) (h : impl_areLetters.f l0 = some r) :
  Calls Try.prog 27 #[.slice A0 l0.length c0] w fun e w' => e = .returned (.bool r) ∧ Below w.heap.size w w' := by
 have HR0 := am_ hr0
 have HC0 := am_ hc0
 clear hr0 hc0
 have HB := am_ (Below.refl w.heap.size w)
 have H := h
 clear h
 unfold impl_areLetters.f at H
 obtain ⟨t174, A2, H⟩ := Sh.ba H
 obtain rfl := Option.some.inj H
 go_enter Try.func27, Try.ntmps27
 go_wp2_with (first | ((with_reducible refine Sh.k 28 ?_); refine Sh.gL (some 4) Try.func28 #[.slice A0 l0.length c0, .func (.func 29) #[] #[]] (h := ?_); (with_reducible refine (slices_ContainsFunc_int_int_by_impl_areLetters_1.calls _ _ l0  t174 _ ?side1 ?side2 A2.out).mono ?_); (case side1 => repeat (first | exact HR0.out | (with_reducible first | refine Kd.C_alloc ?_ _ | refine Kd.C_drewN ?_ _ | refine Kd.C_drew ?_))); (case side2 => exact HC0.out); rintro e w3 ⟨rfl, hb⟩; refine ⟨_, rfl, ?_⟩; replace HB := Sh.hb hb; (try clear hb); (try clear hb2); (try clear hk); (try clear hi)))
 go_ret
 exact ⟨Sh.eR, Sh.bw⟩
def impl_GoodLasso.f (l0_0 : List Int) (l0_1 : List Int) : Option (Bool) := if (l0_0.length : Int) ≤ 24 then (if (l0_1.length : Int) ≥ 1 then (if (l0_1.length : Int) ≤ 24 then ((impl_areLetters.f l0_0).bind fun t176 => (if t176 = true then ((impl_areLetters.f l0_1).bind fun t177 => (some t177)) else (some false))) else (some false)) else (some false)) else (some false)
theorem impl_GoodLasso.calls (A0_0 : Option Addr) (c0_0 : Nat) (l0_0 : List Int) (A0_1 : Option Addr) (c0_1 : Nat) (l0_1 : List Int) (r : Bool) (w : World) (hr0_0 : Kd.C (Kd.int .i64) w A0_0 l0_0.length l0_0) (hc0_0 : l0_0.length ≤ c0_0) (hr0_1 : Kd.C (Kd.int .i64) w A0_1 l0_1.length l0_1) (hc0_1 : l0_1.length ≤ c0_1) (h : impl_GoodLasso.f l0_0 l0_1 = some r) :
  Calls Try.prog 17 #[.agg #[.slice A0_0 l0_0.length c0_0, .slice A0_1 l0_1.length c0_1]] w fun e w' => e = .returned (.bool r) ∧ Below w.heap.size w w' := by
 have hu26 := Try.underlying26
 have HR0_0 := am_ hr0_0
 have HC0_0 := am_ hc0_0
 clear hr0_0 hc0_0
 have HR0_1 := am_ hr0_1
 have HC0_1 := am_ hc0_1
 clear hr0_1 hc0_1
 have HB := am_ (Below.refl w.heap.size w)
 have H := h
 clear h
 unfold impl_GoodLasso.f at H
 by_cases c2 : (l0_0.length : Int) ≤ 24
 ·rw [if_pos c2] at H
  have c2b0 := decide_eq_true c2
  have c2b1 : decide (l0_0.length ≤ 24) = true := decide_eq_true (by omega)
  clear c2
  by_cases c3 : (l0_1.length : Int) ≥ 1
  ·rw [if_pos c3] at H
   have c3b0 : decide (1 ≤ (l0_1.length : Int)) = true := decide_eq_true c3
   have c3b1 : decide (1 ≤ l0_1.length) = true := decide_eq_true (by omega)
   clear c3
   by_cases c4 : (l0_1.length : Int) ≤ 24
   ·rw [if_pos c4] at H
    have c4b0 := decide_eq_true c4
    have c4b1 : decide (l0_1.length ≤ 24) = true := decide_eq_true (by omega)
    clear c4
    obtain ⟨t176, A5, H⟩ := Sh.ba H
    by_cases c6 : t176 = true
    ·subst c6
     rw [if_pos rfl] at H
     obtain ⟨t177, A7, H⟩ := Sh.ba H
     obtain rfl := Option.some.inj H
     go_enter Try.func17, Try.ntmps17
     go_wp2_with (first | ((with_reducible refine Sh.d 1 ?_); (try (refine gate_guard (by rfl) ?_; dsimp only)); refine Sh.bz w (N := 1) (cs := #[.slice A0_0 l0_0.length c0_0, .slice A0_1 l0_1.length c0_1]) (t := 26) (h := ?_); clear HB; intro gb175 w8 BK175 GE175 HB; obtain ⟨hcz9_0, hcz9_1, hfz9_0, hfz9_1⟩ := Sh.b2 BK175.out) | (go_at_call 27; (with_reducible refine (impl_areLetters.calls _ _ l0_0 true _ (Sh.cB HR0_0.out) HC0_0.out A5.out).mono ?_); rintro e w10 ⟨rfl, hb⟩; replace BK175 := Sh.ab BK175 hb; replace HB := Sh.hb hb; (try clear hb); (try clear hb2); (try clear hk); (try clear hi); obtain ⟨hcz11_0, hcz11_1, hfz11_0, hfz11_1⟩ := Sh.b2 BK175.out) | (go_at_call 27; (with_reducible refine (impl_areLetters.calls _ _ l0_1 t177 _ (Sh.cB HR0_1.out) HC0_1.out A7.out).mono ?_); rintro e w12 ⟨rfl, hb⟩; replace BK175 := Sh.ab BK175 hb; replace HB := Sh.hb hb; (try clear hb); (try clear hb2); (try clear hk); (try clear hi)))
     go_ret
     exact ⟨Sh.eR, Sh.bw⟩
    ·replace c6 := Bool.eq_false_iff.mpr c6
     subst c6
     rw [Sh.nf] at H
     obtain rfl := Option.some.inj H
     go_enter Try.func17, Try.ntmps17
     go_wp2_with (first | ((with_reducible refine Sh.d 1 ?_); (try (refine gate_guard (by rfl) ?_; dsimp only)); refine Sh.bz w (N := 1) (cs := #[.slice A0_0 l0_0.length c0_0, .slice A0_1 l0_1.length c0_1]) (t := 26) (h := ?_); clear HB; intro gb175 w13 BK175 GE175 HB; obtain ⟨hcz14_0, hcz14_1, hfz14_0, hfz14_1⟩ := Sh.b2 BK175.out) | (go_at_call 27; (with_reducible refine (impl_areLetters.calls _ _ l0_0 false _ (Sh.cB HR0_0.out) HC0_0.out A5.out).mono ?_); rintro e w15 ⟨rfl, hb⟩; replace BK175 := Sh.ab BK175 hb; replace HB := Sh.hb hb; (try clear hb); (try clear hb2); (try clear hk); (try clear hi)))
     go_ret
     exact ⟨Sh.eR, Sh.bw⟩
   ·rw [if_neg c4] at H
    have c4b0 := decide_eq_false c4
    have c4b1 : decide (l0_1.length ≤ 24) = false := decide_eq_false (by omega)
    clear c4
    obtain rfl := Option.some.inj H
    go_enter Try.func17, Try.ntmps17
    go_wp2_with (first | ((with_reducible refine Sh.d 1 ?_); (try (refine gate_guard (by rfl) ?_; dsimp only)); refine Sh.bz w (N := 1) (cs := #[.slice A0_0 l0_0.length c0_0, .slice A0_1 l0_1.length c0_1]) (t := 26) (h := ?_); clear HB; intro gb175 w16 BK175 GE175 HB; obtain ⟨hcz17_0, hcz17_1, hfz17_0, hfz17_1⟩ := Sh.b2 BK175.out))
    go_ret
    exact ⟨Sh.eR, Sh.bw⟩
  ·rw [if_neg c3] at H
   have c3b0 : decide (1 ≤ (l0_1.length : Int)) = false := decide_eq_false c3
   have c3b1 : decide (1 ≤ l0_1.length) = false := decide_eq_false (by omega)
   clear c3
   obtain rfl := Option.some.inj H
   go_enter Try.func17, Try.ntmps17
   go_wp2_with (first | ((with_reducible refine Sh.d 1 ?_); (try (refine gate_guard (by rfl) ?_; dsimp only)); refine Sh.bz w (N := 1) (cs := #[.slice A0_0 l0_0.length c0_0, .slice A0_1 l0_1.length c0_1]) (t := 26) (h := ?_); clear HB; intro gb175 w18 BK175 GE175 HB; obtain ⟨hcz19_0, hcz19_1, hfz19_0, hfz19_1⟩ := Sh.b2 BK175.out))
   go_ret
   exact ⟨Sh.eR, Sh.bw⟩
 ·rw [if_neg c2] at H
  have c2b0 := decide_eq_false c2
  have c2b1 : decide (l0_0.length ≤ 24) = false := decide_eq_false (by omega)
  clear c2
  obtain rfl := Option.some.inj H
  go_enter Try.func17, Try.ntmps17
  go_wp2_with (first | ((with_reducible refine Sh.d 1 ?_); (try (refine gate_guard (by rfl) ?_; dsimp only)); refine Sh.bz w (N := 1) (cs := #[.slice A0_0 l0_0.length c0_0, .slice A0_1 l0_1.length c0_1]) (t := 26) (h := ?_); clear HB; intro gb175 w20 BK175 GE175 HB; obtain ⟨hcz21_0, hcz21_1, hfz21_0, hfz21_1⟩ := Sh.b2 BK175.out))
  go_ret
  exact ⟨Sh.eR, Sh.bw⟩
def slices_Equal_int_int.l0 : Nat → List Int → List Int → Int → Int → Option (Bool)
 | 0, _, _, _, _ => none
 | k + 1, x0, x1, x12, x13 => if x13 < x12 then (if 0 ≤ x13 then (if x13 < (x0.length : Int) then (if x13 < (x1.length : Int) then (if (rd x0 x13) = (rd x1 x13) then (slices_Equal_int_int.l0 k x0 x1 x12 (wrap64 (x13 + 1))) else (some false)) else (none)) else (none)) else (none)) else (some true)
def slices_Equal_int_int.f (k : Nat) (l0 : List Int) (l1 : List Int) : Option (Bool) := if (l0.length : Int) = (l1.length : Int) then (slices_Equal_int_int.l0 k l0 l1 (l0.length : Int) 0) else (some false)
theorem slices_Equal_int_int.mono_l : ∀ k, (∀ y0 y1 y2 y3, LeO (slices_Equal_int_int.l0 k y0 y1 y2 y3) (slices_Equal_int_int.l0 (k + 1) y0 y1 y2 y3))
 | 0 => fun _ _ _ _ r h => by simp [slices_Equal_int_int.l0] at h
 | k + 1 => by
  have ih0 := slices_Equal_int_int.mono_l k
  ·intro y0 y1 y2 y3
   unfold slices_Equal_int_int.l0
   repeat' with_reducible first | apply ih0 | exact LeO.refl _ | exact LeO.none _ | apply LeO.ite | refine LeO.bind ?_ fun _ => ?_
theorem slices_Equal_int_int.mono : ∀ a0 a1 k, LeO (slices_Equal_int_int.f k a0 a1) (slices_Equal_int_int.f (k + 1) a0 a1) := by
 intro a0 a1 k
 have ih0 := slices_Equal_int_int.mono_l k
 unfold slices_Equal_int_int.f
 repeat' with_reducible first | apply ih0 | exact LeO.refl _ | exact LeO.none _ | apply LeO.ite | refine LeO.bind ?_ fun _ => ?_
theorem slices_Equal_int_int.calls (k : Nat) (A0 : Option Addr) (c0 : Nat) (l0 : List Int) (A1 : Option Addr) (c1 : Nat) (l1 : List Int) (r : Bool) (w : World) (hr0 : Kd.C (Kd.int .i64) w A0 l0.length l0) (hc0 : l0.length ≤ c0) (hr1 : Kd.C (Kd.int .i64) w A1 l1.length l1) (hc1 : l1.length ≤ c1) (h : slices_Equal_int_int.f k l0 l1 = some r) :
  Calls Try.prog 18 #[.slice A0 l0.length c0, .slice A1 l1.length c1] w fun e w' => e = .returned (.bool r) ∧ Drawn0 w w' := by
 have HR0 := am_ hr0
 have HC0 := am_ hc0
 clear hr0 hc0
 have HR1 := am_ hr1
 have HC1 := am_ hc1
 clear hr1 hc1
 have H := h
 clear h
 unfold slices_Equal_int_int.f at H
 by_cases c3 : (l0.length : Int) = (l1.length : Int)
 ·rw [if_pos c3] at H
  have c3b0 : ((l0.length : Int) == (l1.length : Int)) = true := beq_iff_eq.mpr c3
  have c3b1 : ((l0.length : Int) != (l1.length : Int)) = false := bne_eq_false_iff_eq.mpr c3
  have c3b2 : (l0.length == l1.length) = true := by first | simpa using c3 | (simp at c3 ⊢; omega)
  clear c3
  have H' := am_ H
  clear H
  go_enter Try.func18, Try.ntmps18
  go_wp2
  repeat (go_quiet (fail); try go_wp2)
  go_loopg [13] k (fun kq v13 w' => ∃ (x13_1 : Int), v13 = .int .i64 x13_1 ∧ Aside0 (slices_Equal_int_int.l0 kq l0 l1 (l0.length : Int) x13_1 = some r) ∧ Aside0 (kq ≤ k) ∧ Drawn0 w w')
  case atStart => exact ⟨(0), (Sh.es), H', ⟨Nat.le_refl _⟩, Sh.dr⟩
  case round =>
   clear H'
   obtain ⟨x13_1, rfl, HA, HK1, ⟨m1, rfl⟩⟩ := hrel
   cases gk with
   | zero => exact absurd HA.out (by simp [slices_Equal_int_int.l0])
   | succ k1 =>
    have H := HA.out
    clear HA
    simp only [slices_Equal_int_int.l0] at H
    by_cases c4 : x13_1 < (l0.length : Int)
    ·rw [if_pos c4] at H
     have c4b0 := decide_eq_true c4
     clear c4
     by_cases c5 : 0 ≤ x13_1
     ·rw [if_pos c5] at H
      have c5b0 := decide_eq_true c5
      clear c5
      by_cases c6 : x13_1 < (l0.length : Int)
      ·rw [if_pos c6] at H
       have c6b0 := decide_eq_true c6
       clear c6
       by_cases c7 : x13_1 < (l1.length : Int)
       ·rw [if_pos c7] at H
        have c7b0 := decide_eq_true c7
        clear c7
        by_cases c8 : (rd l0 x13_1) = (rd l1 x13_1)
        ·rw [if_pos c8] at H
         have c8b0 : ((rd l0 x13_1) == (rd l1 x13_1)) = true := beq_iff_eq.mpr c8
         have c8b1 : ((rd l0 x13_1) != (rd l1 x13_1)) = false := bne_eq_false_iff_eq.mpr c8
         clear c8
         have H' := am_ H
         clear H
         have p178 : 0 ≤ (x13_1 : Int) := Sh.od
         have q178 : x13_1 < (l0.length : Int) := Sh.od
         obtain ⟨ad178, e178, hx178_0⟩ := Kd.at_int HR0.out x13_1 p178 q178
         cases e178
         replace p178 := eq_true p178
         replace q178 := eq_true q178
         have p179 : 0 ≤ (x13_1 : Int) := Sh.od
         have q179 : x13_1 < (l1.length : Int) := Sh.od
         obtain ⟨ad179, e179, hx179_0⟩ := Kd.at_int HR1.out x13_1 p179 q179
         cases e179
         replace p179 := eq_true p179
         replace q179 := eq_true q179
         go_wp2
         repeat (go_quiet (fail); try go_wp2)
         go_roundg k1
         case measure => have := HK1.out; omega
         case rel => exact ⟨(wrap64 (x13_1 + 1)), (Sh.es), H', ⟨by have := HK1.out; omega⟩, Sh.dr⟩
        ·rw [if_neg c8] at H
         have c8b0 : ((rd l0 x13_1) == (rd l1 x13_1)) = false := beq_eq_false_iff_ne.mpr c8
         have c8b1 : ((rd l0 x13_1) != (rd l1 x13_1)) = true := bne_iff_ne.mpr c8
         obtain rfl := Option.some.inj H
         have p178 : 0 ≤ (x13_1 : Int) := Sh.od
         have q178 : x13_1 < (l0.length : Int) := Sh.od
         obtain ⟨ad178, e178, hx178_0⟩ := Kd.at_int HR0.out x13_1 p178 q178
         cases e178
         replace p178 := eq_true p178
         replace q178 := eq_true q178
         have p179 : 0 ≤ (x13_1 : Int) := Sh.od
         have q179 : x13_1 < (l1.length : Int) := Sh.od
         obtain ⟨ad179, e179, hx179_0⟩ := Kd.at_int HR1.out x13_1 p179 q179
         cases e179
         replace p179 := eq_true p179
         replace q179 := eq_true q179
         go_wp2
         repeat (go_quiet (fail); try go_wp2)
         go_ret
         exact ⟨Sh.es, Sh.dr⟩
       ·rw [if_neg c7] at H
        exact absurd H (by simp)
      ·rw [if_neg c6] at H
       exact absurd H (by simp)
     ·rw [if_neg c5] at H
      exact absurd H (by simp)
    ·rw [if_neg c4] at H
     have c4b0 := decide_eq_false c4
     clear c4
     obtain rfl := Option.some.inj H
     go_wp2
     repeat (go_quiet (fail); try go_wp2)
     go_ret
     exact ⟨Sh.es, Sh.dr⟩
 ·rw [if_neg c3] at H
  have c3b0 : ((l0.length : Int) == (l1.length : Int)) = false := beq_eq_false_iff_ne.mpr c3
  have c3b1 : ((l0.length : Int) != (l1.length : Int)) = true := bne_iff_ne.mpr c3
  have c3b2 : (l0.length == l1.length) = false := by first | simpa using c3 | (simp at c3 ⊢; omega)
  obtain rfl := Option.some.inj H
  go_enter Try.func18, Try.ntmps18
  go_wp2
  repeat (go_quiet (fail); try go_wp2)
  go_ret
  exact ⟨Sh.es, Sh.dr⟩
def slices_Clone_int_int.f (l0 : List (Int)) : Option (List (Int)) := if l0.length < 17592186044416 then some l0 else none
theorem slices_Clone_int_int.calls (A0 : Option Addr) (c0 : Nat) (l0 : List (Int)) (r : List (Int)) (w : World) (hr0 : Kd.C (Kd.int .i64) w A0 l0.length l0) (hc0 : l0.length ≤ c0) (h : slices_Clone_int_int.f l0 = some r) :
  Calls Try.prog 19 #[.slice A0 l0.length c0] w fun e w' => ∃ v0_ : Value, e = .returned (v0_) ∧ Kd.R (Kd.int .i64) 3 w' w.heap.size (fun _ => True) v0_ r ∧ Below w.heap.size w w' := by
 have hlim : l0.length < 17592186044416 := by
  rcases Nat.lt_or_ge l0.length 17592186044416 with h1 | h1
  ·exact h1
  ·rw [slices_Clone_int_int.f, if_neg (by omega)] at h; cases h
 rw [slices_Clone_int_int.f, if_pos hlim] at h
 obtain rfl := Option.some.inj h
 clear h
 cases A0 with
 | none =>
  have hl : l0 = [] := by
   rcases l0 with _ | ⟨x, t⟩
   ·rfl
   ·obtain ⟨ad, e, _⟩ := hr0.2.2 (by simp)
    cases e
  subst hl
  have he : ∀ (w : World) (n c : Nat), (binOp .eql 22 (.slice none n c) (.slice none 0 0)).run Try.prog w = .ok (.bool true) w := fun _ _ _ => rfl
  go_enter Try.func19, Try.ntmps19
  go_wp2
  all_goals (go_ret; exact ⟨_, rfl, Kd.R_nil _ _ _ _ _, Below.refl _ _⟩)
 | some a0 =>
  have HR0 := am_ hr0
  have HC0 := am_ hc0
  clear hr0 hc0
  have HB := am_ (Below.refl w.heap.size w)
  have LM := am_ hlim
  clear hlim
  have he : ∀ (w : World) (n c : Nat), (binOp .eql 22 (.slice (some a0) n c) (.slice none 0 0)).run Try.prog w = .ok (.bool false) w := fun _ _ _ => rfl
  go_enter Try.func19, Try.ntmps19
  go_wp2_with (first | ((with_reducible refine Sh.d 5 ?_); refine Kd.R_lit (Kd.int .i64) _ 3 ?hg (N := 5) ?hd (xs := ([] : List (Int))) (inner := []) (ok := fun _ => True) (okp := fun _ => True) ?hr ?hp (fun _ hk => hk) trivial (Below.refl _ _) (Nat.le_refl _) (by simp) ?_; (case hd => rfl); (case hg => rfl); (case hr => first | (go_simp; done) | (go_simp; rfl)); (case hp => exact (Reps.none _ _)); intro v359 w3 ho4 hb hg_ hnew_; clear hg_ hnew_; have HO360 := am_ (Kd.R_lower ho4 (below_size Sh.bw)); replace HB := Sh.hb hb; clear hb ho4) | ((with_reducible refine gate_builtin (b := .append) (xs := #[.tmp 5, .tmp 6]) rfl ?_); at_builtin; refine Kd.R_append_rows (Kd.int .i64) (w0 := w) w.heap.size rfl (.tmp 5) (.tmp 6) 22 3 (.int .i64 0) 8 rfl Try.underlying22 info3 rfl (by decide) (by omega) v359 [] l0 _ _ _ (fun _ => True) (fun _ => False) rfl rfl ?aO ?aR (fun _ _ h => h) (fun _ h => h.elim) ?aF ?aB ?aS ?aL ?_; (case aR => repeat (first | exact (Kd.C_below HR0.out HB.out) | (with_reducible first | refine Kd.C_alloc ?_ _ | refine Kd.C_drewN ?_ _ | refine Kd.C_drew ?_))); (case aB => exact Sh.bw); (case aF => exact (fun _ _ => trivial)); (case aO => exact (Sh.rl HO360.out)); (case aS => exact (below_size Sh.bw)); (case aL => have := LM.out; simp only [List.length_nil]; omega); intro v362 w5 ho hb hg hat; rw [List.nil_append] at ho; have n0_ := am_ hb; have n1_ := am_ ho; clear HB; clear HO360; have HB := n0_; have HO363 := n1_; clear n0_ n1_; clear ho hb hg hat))
  go_ret
  exact ⟨_, rfl, HO363.out, HB.out⟩
def impl_LeastLasso.l1 : Nat → Int → List Int → List Int → Option (List Int × List Int × Bool)
 | 0, _, _, _ => none
 | k + 1, p, s, l => if (s.length : Int) > 0 then (if 0 ≤ p - 1 then (if p - 1 < (l.length : Int) then (if rd s ((s.length : Int) - 1) = rd l (p - 1) then (impl_LeastLasso.l1 k p (s.take ((s.length : Int) - 1).toNat) (l.drop (p - 1).toNat ++ l.take (p - 1).toNat)) else (some (s, l, true))) else none) else none) else (some (s, l, true))
def impl_LeastLasso.l0 : Nat → List Int → List Int → Int → Option (List Int × List Int × Bool)
 | 0, _, _, _ => none
 | k + 1, s, l, p => if 0 < p then (if Int.tmod (l.length : Int) p = 0 then (if p ≤ (l.length : Int) then ((slices_Equal_int_int.f k (l.drop p.toNat) (l.take ((l.length : Int) - p).toNat)).bind fun e => (if e = true then ((slices_Clone_int_int.f s).bind fun t1 => ((slices_Clone_int_int.f (l.take p.toNat)).bind fun t2 => (impl_LeastLasso.l1 k p t1 t2))) else (impl_LeastLasso.l0 k s l (wrap64 (p + 1))))) else none) else (impl_LeastLasso.l0 k s l (wrap64 (p + 1)))) else none
def impl_LeastLasso.f (k : Nat) (l0_0 l0_1 : List Int) : Option (List Int × List Int × Bool) := (impl_GoodLasso.f l0_0 l0_1).bind fun t => (if t = true then (impl_LeastLasso.l0 k l0_0 l0_1 1) else (some ([], [], false)))
theorem impl_LeastLasso.mono_l1 : ∀ k, (∀ y0 y1 y2, LeO (impl_LeastLasso.l1 k y0 y1 y2) (impl_LeastLasso.l1 (k + 1) y0 y1 y2))
 | 0 => fun _ _ _ r h => by simp [impl_LeastLasso.l1] at h
 | k + 1 => by
  have ih0 := impl_LeastLasso.mono_l1 k
  intro y0 y1 y2
  unfold impl_LeastLasso.l1
  repeat' with_reducible first | apply ih0 | exact LeO.refl _ | exact LeO.none _ | apply LeO.ite | refine LeO.bind ?_ fun _ => ?_
theorem impl_LeastLasso.mono_l : ∀ k, (∀ y0 y1 y2, LeO (impl_LeastLasso.l0 k y0 y1 y2) (impl_LeastLasso.l0 (k + 1) y0 y1 y2))
 | 0 => fun _ _ _ r h => by simp [impl_LeastLasso.l0] at h
 | k + 1 => by
  have ih0 := impl_LeastLasso.mono_l k
  have ih1 := impl_LeastLasso.mono_l1 k
  intro y0 y1 y2
  unfold impl_LeastLasso.l0
  repeat' with_reducible first | apply ih0 | apply ih1 | apply slices_Equal_int_int.mono | exact LeO.refl _ | exact LeO.none _ | apply LeO.ite | refine LeO.bind ?_ fun _ => ?_
theorem impl_LeastLasso.mono : ∀ a0 a1 k, LeO (impl_LeastLasso.f k a0 a1) (impl_LeastLasso.f (k + 1) a0 a1) := by
 intro a0 a1 k
 have ih0 := impl_LeastLasso.mono_l k
 unfold impl_LeastLasso.f
 repeat' with_reducible first | apply ih0 | exact LeO.refl _ | exact LeO.none _ | apply LeO.ite | refine LeO.bind ?_ fun _ => ?_

section
variable {P : Program} {α : Type}
/-- append(v, ys...) where v may begin inside its block, and ys may lie in the same one. -/
theorem ll_run (d : Kd α) {Rr : α → List Value → Prop} {W : World} (base : Nat) (t ty e : TypeId) (z : Value) (bytes : Nat)
    (ht : P.underlying t = some (.slice e)) (hinfo : (P.info? e).map (fun i => (i.zero, i.size, i.bytes)) = some (some z, d.sz, bytes)) (hz : z.cells.size = d.sz) (hs0 : 0 < d.sz) (hb0 : 0 < bytes)
    (v : Value) (xs ys : List α) (A : Option Addr) (m c : Nat) (ok okp : Nat → Prop) (hx0 : 0 < xs.length)
    (HO : d.Q e W base ok v xs) (HR : ReadsRow Rr d.sz W A m ys) (hKM : ∀ x cs, Rr x cs → d.M W base okp x cs) (hokp : ∀ k, okp k → ok k ∧ some k ≠ v.ownBlock) (hfresh : ∀ k, W.heap.size ≤ k → ok k)
    (hbase : base ≤ W.heap.size) (hl : (xs.length + m) * bytes ≤ 140737488355328) :
    ∃ v1 w1, (Builtin.append_ #[t, t] ty #[v, .slice A m c]).run P W = .ok v1 w1 ∧ d.Q e w1 base ok v1 (xs ++ ys) ∧ W.grownBy w1 v.ownBlock ∧ (v1.ownBlock = v.ownBlock ∨ ∃ b, v1.ownBlock = some b ∧ W.heap.size ≤ b) := by
  obtain ⟨i0, hi, hzz⟩ := Option.map_eq_some_iff.1 hinfo
  simp only [Prod.mk.injEq] at hzz
  obtain ⟨hz0, hz1, hz2⟩ := hzz
  have hm : ys.length = m := HR.1
  have hlen : xs.length + m ≤ 140737488355328 := Nat.le_trans (Nat.le_mul_of_pos_right _ hb0) hl
  have HO' := HO
  obtain ⟨hok, inner, hown, hr⟩ := HO
  rcases Nat.eq_zero_or_pos m with h0 | h0
  · subst h0
    obtain rfl : ys = [] := List.eq_nil_of_length_eq_zero hm
    obtain ⟨g, o, cap, hv, _, _, _⟩ := Kd.Q_form HO' hx0
    have hc2 : xs.length ≤ cap := by rw [hv] at HO'; exact (Kd.Q_reads' HO').2.1
    refine ⟨v, W, ?_, by rw [List.append_nil]; exact HO', World.grownBy.refl W _, .inl rfl⟩
    subst hv
    cases A with
    | none => simp [Builtin.append_, run_underlying ht, sizeOf, typeInfo, hi, Builtin.lenOf, Builtin.firstCells, hc2, storeCells]
    | some ad => simp [Builtin.append_, run_underlying ht, sizeOf, typeInfo, hi, Builtin.lenOf, Builtin.firstCells, hc2, storeCells, loadCells, loadCellsFrom]
  · obtain ⟨ad, rfl, _⟩ := HR.2.2 h0
    obtain ⟨news, hnr, hnc⟩ := ReadsRow.inner_ HR
    have hnM : Reps (d.M W base okp) d.sz ys news := hnr.imp_ (fun p c hp => hKM p c hp)
    have hone : ∀ u ∈ news, u.oneCell' = true := by
      intro u hu
      obtain ⟨q, hq, rfl⟩ := List.mem_iff_getElem.1 hu
      have hql : q / d.sz < ys.length := by
        rw [Nat.div_lt_iff_lt_mul hs0]
        rw [← hnM.1]
        exact hq
      have hc := hnM.2 (q / d.sz) _ (List.getElem?_eq_getElem hql)
      refine d.K_one (d.K_of_M hc) _ ?_
      rw [List.mem_iff_getElem?]
      refine ⟨q % d.sz, ?_⟩
      rw [List.getElem?_take, if_pos (Nat.mod_lt _ hs0), List.getElem?_drop, Nat.mul_comm, Nat.div_add_mod, List.getElem?_eq_getElem hq]
    obtain ⟨v1, w1, hrun, h2, hg, hat'⟩ := q_append (P := P) W base t ty e i0 z d.sz bytes ht hi hz0 hz1 hz2 hz hs0 v xs.length inner hown ad m c news (by rw [hnM.1, hm]) hnc hone h0 (by simp only [maxLen]; omega) hl hbase
    have hne : ∀ k, some k ≠ v.ownBlock → k < W.heap.size → some k ≠ v1.ownBlock := by
      intro k hk hlt
      rcases hat' with hat | ⟨b, hb, hle⟩
      · rw [hat]; exact hk
      · rw [hb]
        intro he
        injection he with he
        omega
    have step : ∀ {q : α} {c : List Value} {o : Nat → Prop}, d.M W base o q c → (∀ k, o k → ok k ∧ some k ≠ v.ownBlock) → d.M w1 base (fun k => ok k ∧ some k ≠ v1.ownBlock) q c := by
      intro q c o hq ho
      have h1 := d.M_move (w1 := w1) (fun k hk => hg.block k hk.2.2.1 (ho k hk.1).2) (d.M_bound hq)
      exact d.M_mono (fun k hk => ⟨(ho k hk.1).1, hne k (ho k hk.1).2 hk.2.2.1⟩) h1
    refine ⟨v1, w1, hrun, ⟨fun k hk => ?_, inner ++ news, by rw [List.length_append, hm]; exact h2, Kd.reps_append (hr.imp_ (fun _ _ hq => step hq (fun _ hk => hk))) (hnM.imp_ (fun _ _ hq => step hq hokp))⟩, hg, hat'⟩
    rcases hat' with hat | ⟨b, hb, hle⟩
    · exact hok k (hat ▸ hk)
    · rw [hb] at hk
      injection hk with hk
      exact hfresh k (by omega)
end

theorem LL_b2 {w : World} {g : Nat} {a b : Value} (h : w.heap[g]? = some (.cells #[a, b] 26 (0, 0))) : w.cell? ⟨g, 0, none⟩ = some a ∧ w.cell? ⟨g, 1, none⟩ = some b ∧ w.frozen? ⟨g, 0, none⟩ = false ∧ w.frozen? ⟨g, 1, none⟩ = false := Sh.b2 h
theorem LL_cut {P : Program} (t e : TypeId) {i : TypeInfo} (ht : P.underlying t = some (.slice e)) (hi : P.info? e = some i) (hsz : i.size = 1) (A : Option Addr) (n c m : Nat) (hm : m ≤ n) (W : World) :
    (Instr.slice t (.slice A n c) (some (.int .i64 (m : Int))) none none).run P W = .ok (.slice (if c = m then A else A.map (·.add (m * 1))) (n - m) (c - m)) W := by
  have hel : P.elem t = e := by simp [Program.elem, ht]
  have hu : P.underlying t = some (.slice (P.elem t)) := by rw [hel]; exact ht
  rw [run_slice_l W t A n c hu .i64 (m : Int) (Int.natCast_nonneg _) (by omega), hel]
  simp [sizeOf, typeInfo, hi, hsz, sliced, Result.andThen]
theorem LL_wrap {n : Nat} (h : n ≤ 9223372036854775807) : IntKind.i64.wrap ((n : Int) - 1) = (n : Int) - 1 := by rw [IntKind.wrap_i64]; omega
theorem LL_wrapI {p : Int} (h0 : 0 ≤ p) (h : p ≤ 9223372036854775807) : IntKind.i64.wrap (p - 1) = p - 1 := by rw [IntKind.wrap_i64]; omega
theorem LL_cutT {P : Program} (t e : TypeId) {i : TypeInfo} (ht : P.underlying t = some (.slice e)) (hi : P.info? e = some i) (hsz : i.size = 1) (A : Option Addr) (n c m : Nat) (hm : m ≤ c) (W : World) :
    (Instr.slice t (.slice A n c) none (some (.int .i64 (m : Int))) none).run P W = .ok (.slice A m c) W := by
  have hel : P.elem t = e := by simp [Program.elem, ht]
  have hu : P.underlying t = some (.slice (P.elem t)) := by rw [hel]; exact ht
  have ha : (A.map fun x => x.add 0) = A := by cases A <;> simp [Addr.add]
  rw [run_slice_h W t A n c hu .i64 (m : Int) (Int.natCast_nonneg _) (by omega), hel]
  simp [sizeOf, typeInfo, hi, hsz, sliced, Result.andThen, ha]
section
variable {α : Type} {d : Kd α} {e : Nat} {w W : World} {base : Nat} {ok ok1 : Nat → Prop} {v : Value} {xs : List α}
theorem LL_rl (h : d.Q e w base ok v xs) (hs : Below w.heap.size w W := by (repeat (with_reducible first | apply below_alloc | apply pw_below_drewN | apply below_drew1)); exact Below.refl _ _) : d.Q e W base ok v xs := Kd.Q_below h hs
end
theorem LL_len {α : Type} (xl : List α) (m : Nat) (hm : m ≤ xl.length) : (xl.drop m ++ xl.take m).length = xl.length := by rw [List.length_append, List.length_drop, List.length_take]; omega
theorem LL_app {P : Program} {ops : Array Oper} {oi : Oper} {N : Option Tmp} {a : Act} {W w1 : World} {Kc : Act → World → Prop} {Q' : Exit → Act → World → Prop} {s x : Operand} {t : TypeId} {v u v1 : Value} (hw : Region.wanted oi (yielded ops a.tmps) = true)
    (ho : oi.op = .call { callee := .builtin .append, args := #[s, x], argTypes := #[t, t] }) (hN : oi.dst = N) (hs : a.eval s = v) (hx : a.eval x = u) (hrun : (Builtin.append_ #[t, t] oi.type #[v, u]).run P W = .ok v1 w1) (h : Kc (a.put N v1) w1) :
    if Region.wanted oi (yielded ops a.tmps) = true then Oper.wp P oi a W Kc Q' else Kc (a.put N undef) W := by
  subst hN
  rw [if_pos hw]
  unfold Oper.wp execOp
  simp only [ho, resolve, invoke, builtin, Sem.run_bind, Sem.run_pure, Result.andThen_ok, List.map_toArray, List.map_cons, List.map_nil, hs, hx, hrun]
  exact h
theorem LL_fin {w : World} {base g : Nat} {cs : Array Value} {u : Option Nat} {v : Value} {xs : List Int} (h : (Kd.int .i64).Q 3 w base (fun k_ => True ∧ some k_ ≠ u) v xs) (hb : w.heap[g]? = some (.cells cs 26 (0, 0))) (a b : Value) :
    (Kd.int .i64).Q 3 ((w.setCell ⟨g, 0, none⟩ a).setCell ⟨g, 1, none⟩ b).drew base (fun k_ => some k_ ≠ u) v xs :=
  Kd.Q_mono (Kd.Q_drew (Kd.Q_far (p := ⟨g, 1, none⟩) (Kd.Q_far (p := ⟨g, 0, none⟩) (Kd.Q_types h hb (by decide)) (fun _ hk => hk.2) a) (fun _ hk => hk.2) b)) (fun _ hk => hk.1.2)

def impl_LeastLasso.T5 : Bool × List (List Nat × List Nat) := (true, [([], []), ([], []), ([0, 1], [0, 1]), ([2], [2]), ([3], [3]), ([4], [4]), ([5, 4], [4, 5]), ([4], [4]), ([6, 7, 4], [4, 6, 7]), ([4], [4]), ([9, 4], [4, 9]), ([4], [4]), ([4], [4]), ([11, 12, 4], [4, 11, 12]), ([10, 13, 4], [4, 10, 13]), ([8, 14, 4, 4], [4, 8, 14]), ([15, 4], [4, 15]), ([4, 16], [4, 16])])
def impl_LeastLasso.B5 : List Nat := [0, 0, 3, 7, 15, 31, 63, 31, 255, 31, 543, 31, 31, 6175, 15903, 32767, 65535, 131071]
theorem impl_LeastLasso.tab5 : rtab .any (opsOf Try.f7 5) = impl_LeastLasso.T5 := by kernel_rfl
theorem impl_LeastLasso.bits5 : waitsOk impl_LeastLasso.T5.2 impl_LeastLasso.B5 = true := by kernel_rfl
def impl_LeastLasso.T7 : Bool × List (List Nat × List Nat) := (true, [([], []), ([0], [0]), ([1], [1]), ([], []), ([3], [3]), ([], []), ([4, 5], [4, 5]), ([6, 2], [6]), ([2, 7, 0, 1, 2], [2]), ([7, 8, 0, 1, 2, 3, 4, 5, 6, 7, 8], [7])])
def impl_LeastLasso.B7 : List Nat := [0, 1, 3, 0, 8, 0, 56, 127, 255, 511]
theorem impl_LeastLasso.tab7 : rtab .any (opsOf Try.f7 7) = impl_LeastLasso.T7 := by kernel_rfl
theorem impl_LeastLasso.bits7 : waitsOk impl_LeastLasso.T7.2 impl_LeastLasso.B7 = true := by kernel_rfl
def impl_LeastLasso.T8 : Bool × List (List Nat × List Nat) := (true, [([], []), ([0], [0]), ([1], [1]), ([2], [2]), ([3], [3]), ([3], [3]), ([5, 3], [3, 5]), ([6, 3], [3, 6]), ([4, 7, 3], [3, 4, 7]), ([8, 3], [3, 8]), ([3], [3]), ([3], [3]), ([11, 3], [3, 11]), ([10, 12, 3], [3, 10, 12]), ([13, 3], [3, 13]), ([9, 14, 3], [3, 9, 14]), ([3, 15], [3, 15])])
def impl_LeastLasso.B8 : List Nat := [0, 1, 3, 7, 15, 15, 47, 111, 255, 511, 15, 15, 2063, 7183, 15375, 32767, 65535]
theorem impl_LeastLasso.tab8 : rtab .any (opsOf Try.f7 8) = impl_LeastLasso.T8 := by kernel_rfl
theorem impl_LeastLasso.bits8 : waitsOk impl_LeastLasso.T8.2 impl_LeastLasso.B8 = true := by kernel_rfl
def impl_LeastLasso.T10 : Bool × List (List Nat × List Nat) := (true, [([], []), ([], []), ([1], [1]), ([0, 2], [0, 2]), ([], []), ([], []), ([5], [5]), ([4, 6], [4, 6]), ([3, 7], [3, 7]), ([8, 8, 0, 1, 2, 3, 4, 5, 6, 7, 8], [0, 4, 8])])
def impl_LeastLasso.B10 : List Nat := [0, 0, 2, 7, 0, 0, 32, 112, 255, 511]
theorem impl_LeastLasso.tab10 : rtab .any (opsOf Try.f7 10) = impl_LeastLasso.T10 := by kernel_rfl
theorem impl_LeastLasso.bits10 : waitsOk impl_LeastLasso.T10.2 impl_LeastLasso.B10 = true := by kernel_rfl
theorem impl_LeastLasso.calls (k : Nat) (A0_0 : Option Addr) (c0_0 : Nat) (l0_0 : List Int) (A0_1 : Option Addr) (c0_1 : Nat) (l0_1 : List Int) (r1 : List Int) (r2 : List Int) (r3 : Bool) (w : World) (hr0_0 : Kd.C (Kd.int .i64) w A0_0 l0_0.length l0_0) (hc0_0 : l0_0.length ≤ c0_0) (hr0_1 : Kd.C (Kd.int .i64) w A0_1 l0_1.length l0_1) (hc0_1 : l0_1.length ≤ c0_1) (h : impl_LeastLasso.f k l0_0 l0_1 = some (r1, r2, r3)) :
  Calls Try.prog 7 #[.agg #[.slice A0_0 l0_0.length c0_0, .slice A0_1 l0_1.length c0_1]] w fun e w' => ∃ v0_ v1_ : Value, e = .returned (.tuple #[.agg #[v0_, v1_], .bool r3]) ∧ Kd.Q (Kd.int .i64) 3 w' w.heap.size (fun k_ => some k_ ≠ (v1_ : Value).ownBlock) v0_ r1 ∧ Kd.Q (Kd.int .i64) 3 w' w.heap.size (fun k_ => some k_ ≠ (v0_ : Value).ownBlock) v1_ r2 ∧ Below w.heap.size w w' := by
 have hu26 := Try.underlying26
 have HR0 := am_ hr0_0
 have HC0 := am_ hc0_0
 have HR1 := am_ hr0_1
 have HC1 := am_ hc0_1
 clear hr0_0 hc0_0 hr0_1 hc0_1
 have HB := am_ (Below.refl w.heap.size w)
 have H := h
 clear h
 unfold impl_LeastLasso.f at H
 obtain ⟨t, A1_, H⟩ := Sh.ba H
 by_cases b1_ : t = true
 ·subst b1_
  rw [if_pos rfl] at H
  have H' := am_ H
  clear H
  go_enter Try.func7, Try.ntmps7
  go_wp2_with (first | ((with_reducible refine Sh.d 1 ?_); refine Sh.bz w (N := 1) (cs := #[.slice A0_0 l0_0.length c0_0, .slice A0_1 l0_1.length c0_1]) (t := 26) (h := ?_); clear HB; intro gb1 w4 BK1 GE1 HB) | ((with_reducible refine Sh.d 2 ?_); refine Sh.bx (N := 2) (cs := #[.slice none 0 0, .slice none 0 0]) (t := 26) (h := ?_); intro gb2 hg w5 hbox hb; have BK2 := am_ hbox; have GE2 := Sh.ag w hg; replace HB := Sh.hb hb; replace BK1 := Sh.ab BK1 hb; clear hb hbox hg; obtain ⟨hcz1_0, hcz1_1, hfz1_0, hfz1_1⟩ := LL_b2 BK1.out) | (go_at_call 17; (with_reducible refine (impl_GoodLasso.calls _ _ l0_0 _ _ l0_1 true _ (Sh.cB HR0.out) HC0.out (Sh.cB HR1.out) HC1.out A1_.out).mono ?_); rintro e w6 ⟨rfl, hb⟩; replace BK1 := Sh.ab BK1 hb; replace BK2 := Sh.ab BK2 hb; replace HB := Sh.hb hb; clear hb; clear hcz1_0 hcz1_1 hfz1_0 hfz1_1; obtain ⟨hcz1_0, hcz1_1, hfz1_0, hfz1_1⟩ := LL_b2 BK1.out))
  go_loopg [5] k (fun kq v5 w' => ∃ (xp : Int), v5 = .int .i64 xp ∧ Aside0 (impl_LeastLasso.l0 kq l0_0 l0_1 xp = some (r1, r2, r3)) ∧ Aside0 (kq ≤ k) ∧ Aside0 (w'.heap[gb1]? = some (.cells #[.slice A0_0 l0_0.length c0_0, .slice A0_1 l0_1.length c0_1] 26 (0, 0))) ∧ Aside0 (w'.heap[gb2]? = some (.cells #[.slice none 0 0, .slice none 0 0] 26 (0, 0))) ∧ Aside0 (Below w.heap.size w w'))
  case atStart => exact ⟨1, rfl, H', ⟨Nat.le_refl _⟩, BK1, BK2, HB⟩
  case round =>
   clear H' hcz1_0 hcz1_1 hfz1_0 hfz1_1
   obtain ⟨xp, rfl, HA, HK1, BK1, BK2, HB⟩ := hrel
   cases gk with
   | zero => exact absurd HA.out (by simp [impl_LeastLasso.l0])
   | succ k1 =>
    have H := HA.out
    clear HA
    simp only [impl_LeastLasso.l0] at H
    by_cases c4 : 0 < xp
    ·rw [if_pos c4] at H
     have hp0 : (xp == 0) = false := beq_eq_false_iff_ne.mpr (by omega)
     have hp1 : (xp != 0) = true := bne_iff_ne.mpr (by omega)
     by_cases c5 : Int.tmod (l0_1.length : Int) xp = 0
     ·rw [if_pos c5] at H
      by_cases c6 : xp ≤ (l0_1.length : Int)
      ·rw [if_pos c6] at H
       obtain ⟨eq, A2_, H⟩ := Sh.ba H
       have hm0 : (Int.tmod (l0_1.length : Int) xp != 0) = false := bne_eq_false_iff_eq.mpr c5
       obtain ⟨i3, hi3, hz3a, hz3b, hz3c⟩ := info_parts info3
       obtain ⟨A8, hcut8, hA8, hC8⟩ := print_drop_of (P := Try.prog) (Value.int .i64) 0 22 3 .i64 Try.underlying22 hi3 hz3b A0_1 c0_1 l0_1 xp (by omega) c6 HC1.out
       obtain ⟨hcut14, hA14, hC14⟩ := print_take_of (P := Try.prog) (Value.int .i64) 0 22 3 .i64 Try.underlying22 hi3 hz3b A0_1 c0_1 l0_1 ((l0_1.length : Int) - xp) (by omega) (by omega) HC1.out
       go_wp2
       refine start_ (n := 18) (S := fun w' => w'.cell? ⟨gb1, 0, none⟩ = some (.slice A0_0 l0_0.length c0_0) ∧ w'.cell? ⟨gb1, 1, none⟩ = some (.slice A0_1 l0_1.length c0_1)) (ds := []) (Sh.nm 18 0) (by kernel_rfl) rfl rfl ⟨(LL_b2 BK1.out).1, (LL_b2 BK1.out).2.1⟩ (fun hHeld => ?_)
       refine with_tabW impl_LeastLasso.tab5 impl_LeastLasso.bits5 (fun HT_ HW_ => ?_)
       refine Sh.qA 0 ?_; refine Sh.qA 1 ?_; refine Sh.qA 2 ?_ (hy := by intro w'; go_simp; rw [if_neg (show ¬ xp = 0 by omega)]); refine Sh.qA 3 ?_; refine Sh.qA 4 ?_
       refine Sh.qA 5 ?_; refine Sh.qT 6 hHeld ?_; refine Sh.qA 7 ?_
       have hmx : l0_1.length ≤ 9223372036854775807 := HR1.out.2.1
       have hw13 : IntKind.i64.wrap ((l0_1.length : Int) - xp) = (l0_1.length : Int) - xp := by rw [IntKind.wrap_i64]; omega
       have hR8 : Kd.C (Kd.int .i64) w A8 (l0_1.drop xp.toNat).length (l0_1.drop xp.toNat) := Kd.C_of_reads (hA8 w (Kd.reads_of_C (enc := Value.int .i64) (d := (0 : Int)) (h1 := fun _ => rfl) HR1.out))
       have hR14 : Kd.C (Kd.int .i64) w A0_1 (l0_1.take ((l0_1.length : Int) - xp).toNat).length (l0_1.take ((l0_1.length : Int) - xp).toNat) := Kd.C_of_reads (hA14 w (Kd.reads_of_C (enc := Value.int .i64) (d := (0 : Int)) (h1 := fun _ => rfl) HR1.out))
       have HR8 := am_ hR8
       have HR14 := am_ hR14
       clear hR8 hR14
       refine Sh.qA 8 ?_ (v := .slice A8 (l0_1.drop xp.toNat).length (c0_1 - xp.toNat)) (hy := by intro w'; go_simp)
       refine Sh.qA 9 ?_; refine Sh.qT 10 hHeld ?_; refine Sh.qA 11 ?_; refine Sh.qA 12 ?_
       refine Sh.qA 13 ?_ (v := .int .i64 ((l0_1.length : Int) - xp)) (hy := by intro w'; go_simp; first | done | exact hw13)
       refine Sh.qA 14 ?_ (v := .slice A0_1 (l0_1.take ((l0_1.length : Int) - xp).toNat).length c0_1) (hy := by intro w'; go_simp)
       refine Sh.oC 15 Try.func18 #[.slice A8 (l0_1.drop xp.toNat).length (c0_1 - xp.toNat), .slice A0_1 (l0_1.take ((l0_1.length : Int) - xp).toNat).length c0_1] fun K hK => ?_
       with_reducible refine (slices_Equal_int_int.calls k1 _ _ (l0_1.drop xp.toNat) _ _ (l0_1.take ((l0_1.length : Int) - xp).toNat) eq _ (Sh.cB HR8.out) hC8 (Sh.cB HR14.out) hC14 A2_.out).mono ?_
       rintro e w7 ⟨rfl, hd_⟩
       refine ⟨_, rfl, ?_⟩
       have hb := hd_.below
       clear hd_
       replace BK1 := Sh.ab BK1 hb
       replace BK2 := Sh.ab BK2 hb
       replace HB := Sh.hb hb
       clear hb
       refine Sh.kN hK ⟨(LL_b2 BK1.out).1, (LL_b2 BK1.out).2.1⟩ fun hHeld => ?_
       clear hK K
       refine Sh.qA 16 ?_; refine Sh.qA 17 ?_
       refine done_ (done_of HT_.out (by kernel_rfl)) ?_
       clear hHeld
       by_cases b5_ : eq = true
       ·subst b5_
        rw [if_pos rfl] at H
        obtain ⟨t1, A3_, H⟩ := Sh.ba H
        obtain ⟨t2, A4_, H⟩ := Sh.ba H
        obtain ⟨hcut6, hA6, hC6⟩ := print_take_of (P := Try.prog) (Value.int .i64) 0 22 3 .i64 Try.underlying22 hi3 hz3b A0_1 c0_1 l0_1 xp (by omega) c6 HC1.out
        have HR6 := am_ (show Kd.C (Kd.int .i64) w A0_1 (l0_1.take xp.toNat).length (l0_1.take xp.toNat) from Kd.C_of_reads (hA6 w (Kd.reads_of_C (enc := Value.int .i64) (d := (0 : Int)) (h1 := fun _ => rfl) HR1.out)))
        have H' := am_ H
        clear H hcut8 hcut14
        go_wp2
        refine start_ (n := 10) (S := fun w' => w'.cell? ⟨gb1, 0, none⟩ = some (.slice A0_0 l0_0.length c0_0) ∧ w'.cell? ⟨gb1, 1, none⟩ = some (.slice A0_1 l0_1.length c0_1)) (ds := []) (Sh.nm 10 0) (by kernel_rfl) rfl rfl ⟨(LL_b2 BK1.out).1, (LL_b2 BK1.out).2.1⟩ (fun hHeld => ?_)
        refine with_tabW impl_LeastLasso.tab7 impl_LeastLasso.bits7 (fun HT_ HW_ => ?_)
        refine Sh.qA 0 ?_; refine Sh.qT 1 hHeld ?_; refine Sh.qA 3 ?_; refine Sh.qT 4 hHeld ?_; refine Sh.qA 5 ?_
        refine Sh.qA 6 ?_ (v := .slice A0_1 (l0_1.take xp.toNat).length c0_1) (hy := by intro w'; go_simp)
        refine Sh.oC 2 Try.func19 #[.slice A0_0 l0_0.length c0_0] fun K hK => ?_
        with_reducible refine (slices_Clone_int_int.calls _ _ l0_0 t1 _ (Sh.cB HR0.out) HC0.out A3_.out).mono ?_
        rintro e w8 ⟨v6, rfl, ho, hb⟩
        refine ⟨_, rfl, ?_⟩
        have HO6 := am_ (Kd.R_lower ho (below_size Sh.bw))
        replace BK1 := Sh.ab BK1 hb
        replace BK2 := Sh.ab BK2 hb
        replace HB := Sh.hb hb
        clear hb ho
        refine Sh.kN hK ⟨(LL_b2 BK1.out).1, (LL_b2 BK1.out).2.1⟩ fun hHeld => ?_
        clear hK K
        refine Sh.oC 7 Try.func19 #[.slice A0_1 (l0_1.take xp.toNat).length c0_1] fun K hK => ?_
        with_reducible refine (slices_Clone_int_int.calls _ _ (l0_1.take xp.toNat) t2 _ (Sh.cB HR6.out) hC6 A4_.out).mono ?_
        rintro e w9 ⟨v7, rfl, ho, hb⟩
        refine ⟨_, rfl, ?_⟩
        have HO7 := am_ (Kd.R_lower (Kd.R_new' ho (Kd.R_lt (Sh.rl HO6.out))) (below_size Sh.bw))
        replace HO6 := am_ (Kd.R_elder' (Sh.rl HO6.out) (Kd.R_base ho) hb)
        replace BK1 := Sh.ab BK1 hb
        replace BK2 := Sh.ab BK2 hb
        replace HB := Sh.hb hb
        clear hb ho
        refine Sh.kN hK ⟨(LL_b2 BK1.out).1, (LL_b2 BK1.out).2.1⟩ fun hHeld => ?_
        clear hK K
        refine Sh.qA 8 ?_; refine Sh.qA 9 ?_
        refine done_ (done_of HT_.out (by kernel_rfl)) ?_
        clear hHeld BK1 HR6 hcut6 hA6 hC6
        have HQ6 := am_ (Kd.Q_of_R HO6.out)
        have HL2 : Aside0 (t2.length < 17592186044416) := am_ (by
          have h2 := A4_.out
          unfold slices_Clone_int_int.f at h2
          split at h2
          · rename_i h3
            injection h2 with h2
            rw [← h2]
            exact h3
          · exact absurd h2 (by simp))
        have HQ7 := am_ (Kd.Q_of_R HO7.out)
        clear HO6 HO7
        go_wp2
        simp only [List.length_drop, List.length_take, Bool.not_true, show min xp.toNat l0_1.length = xp.toNat by omega]
        go_loopg [6, 7] k1 (fun kq v6 v7 w' => ∃ (xs xl : List Int), Aside0 (xl.length < 17592186044416) ∧ Aside0 (impl_LeastLasso.l1 kq xp xs xl = some (r1, r2, r3)) ∧ Aside0 (kq ≤ k1) ∧ Aside0 (Kd.Q (Kd.int .i64) 3 w' w.heap.size (fun k_ => True ∧ some k_ ≠ (v7 : Value).ownBlock) v6 xs) ∧ Aside0 (Kd.Q (Kd.int .i64) 3 w' w.heap.size (fun k_ => True ∧ some k_ ≠ (v6 : Value).ownBlock) v7 xl) ∧ Aside0 (w'.heap[gb2]? = some (.cells #[.slice none 0 0, .slice none 0 0] 26 (0, 0))) ∧ Aside0 (Below w.heap.size w w'))
        case atStart => exact ⟨t1, t2, HL2, H', ⟨Nat.le_refl _⟩, HQ6, HQ7, BK2, HB⟩
        case round =>
         clear H' HQ6 HQ7
         obtain ⟨xs, xl, HL, HA, HK2, HQ6, HQ7, BK2, HB⟩ := hrel
         cases gk with
         | zero => exact absurd HA.out (by simp [impl_LeastLasso.l1])
         | succ k2 =>
          have H := HA.out
          clear HA
          simp only [impl_LeastLasso.l1] at H
          by_cases d1 : (xs.length : Int) > 0
          ·rw [if_pos d1] at H
           by_cases d2 : 0 ≤ xp - 1
           ·rw [if_pos d2] at H
            by_cases d3 : xp - 1 < (xl.length : Int)
            ·rw [if_pos d3] at H
             obtain ⟨g6, o6, cp6, e6, _, _, _⟩ := Kd.Q_form HQ6.out (by omega)
             subst e6
             obtain ⟨g7, o7, cp7, e7, _, _, _⟩ := Kd.Q_form HQ7.out (by omega)
             subst e7
             have hxs : xs.length ≤ 9223372036854775807 := (Kd.Q_reads' HQ6.out).2.2.2.1
             have hxl : xl.length ≤ 9223372036854775807 := (Kd.Q_reads' HQ7.out).2.2.2.1
             have m6 : (xs.length : Int) - 1 < ((xs.length : Nat) : Int) := by omega
             have z6 : 0 ≤ (xs.length : Int) - 1 := by omega
             obtain ⟨hc6, _⟩ := Kd.Q_cell (0 : Int) HQ6.out ((xs.length : Int) - 1) z6 m6
             obtain ⟨hc7, _⟩ := Kd.Q_cell (0 : Int) HQ7.out (xp - 1) d2 d3
             rw [show ((xs.length : Int) - 1).toNat = xs.length - 1 by omega] at hc6
             rw [show (xp - 1).toNat = xp.toNat - 1 by omega] at hc7
             have HC6 := am_ (show wr.cell? ⟨g6, o6 + (xs.length - 1), none⟩ = some (.int .i64 (rd xs ((xs.length : Int) - 1))) from hc6)
             have HC7 := am_ (show wr.cell? ⟨g7, o7 + (xp.toNat - 1), none⟩ = some (.int .i64 (rd xl (xp - 1))) from hc7)
             clear hc6 hc7
             have hw6 : IntKind.i64.wrap ((xs.length : Int) - 1) = (xs.length : Int) - 1 := LL_wrap hxs
             have hwp : IntKind.i64.wrap (xp - 1) = xp - 1 := LL_wrapI (by omega) (by omega)
             go_wp2
             refine start_ (n := 17) (S := fun w' => w'.cell? ⟨g6, o6 + (xs.length - 1), none⟩ = some (.int .i64 (rd xs ((xs.length : Int) - 1))) ∧ w'.cell? ⟨g7, o7 + (xp.toNat - 1), none⟩ = some (.int .i64 (rd xl (xp - 1)))) (ds := []) (Sh.nm 17 0) (by kernel_rfl) rfl rfl ⟨HC6.out, HC7.out⟩ (fun hHeld => ?_)
             refine with_tabW impl_LeastLasso.tab8 impl_LeastLasso.bits8 (fun HT_ HW_ => ?_)
             refine Sh.qA 0 ?_; refine Sh.qA 1 ?_; refine Sh.qA 2 ?_ (v := .bool true) (hy := by intro w'; go_simp; first | done | omega | (simp; omega)); refine Sh.qA 3 ?_; refine Sh.qA 4 ?_; refine Sh.qA 5 ?_; refine Sh.qA 6 ?_
             refine Sh.qA 7 ?_ (v := .int .i64 ((xs.length : Int) - 1)) (hy := by intro w'; go_simp; first | done | exact hw6)
             refine Sh.qA 8 ?_ (v := .pointer (some ⟨g6, o6 + (xs.length - 1), none⟩)) (hy := by intro w'; go_simp; first | done | (intro h_; omega))
             refine Sh.qT 9 hHeld ?_
             refine Sh.qA 10 ?_; refine Sh.qA 11 ?_
             refine Sh.qA 12 ?_ (v := .int .i64 (xp - 1)) (hy := by intro w'; go_simp; first | done | exact hwp)
             refine Sh.qA 13 ?_ (v := .pointer (some ⟨g7, o7 + (xp.toNat - 1), none⟩)) (hy := by intro w'; go_simp; first | done | (intro h_; omega))
             refine Sh.qT 14 hHeld ?_
             by_cases d4 : rd xs ((xs.length : Int) - 1) = rd xl (xp - 1)
             ·rw [if_pos d4] at H
              refine Sh.qA 15 ?_ (v := .bool true) (hy := by intro w'; go_simp; first | done | (simp [d4]; done))
              refine Sh.qA 16 ?_
              refine done_ (done_of HT_.out (by kernel_rfl)) ?_
              clear hHeld
              have q6 := Kd.Q_reads' HQ6.out
              have q7 := Kd.Q_reads' HQ7.out
              obtain ⟨hcut9, _, hC9⟩ := print_take_of (P := Try.prog) (Value.int .i64) 0 22 3 .i64 Try.underlying22 hi3 hz3b (some ⟨g6, o6, none⟩) cp6 xs ((xs.length : Int) - 1) z6 (by omega) q6.2.1
              obtain ⟨mm, hmm⟩ : ∃ mm : Nat, xp - 1 = (mm : Int) := ⟨(xp - 1).toNat, by omega⟩
              rw [hmm, Int.toNat_natCast, show ((xs.length : Int) - 1).toNat = xs.length - 1 by omega] at H
              have H' := am_ H
              clear H
              have hml : mm < xl.length := by omega
              have hlm : xl.length ≤ cp7 := q7.2.1
              have hcutD := LL_cut (P := Try.prog) 22 3 Try.underlying22 hi3 hz3b (some ⟨g7, o7, none⟩) xl.length cp7 mm (by omega)
              obtain ⟨AD, hAD⟩ : ∃ AD : Option Addr, AD = (if cp7 = mm then (some ⟨g7, o7, none⟩) else (some ⟨g7, o7, none⟩ : Option Addr).map (·.add (mm * 1))) := ⟨_, rfl⟩
              rw [← hAD] at hcutD
              have hwm : IntKind.i64.wrap (mm : Int) = (mm : Int) := by rw [IntKind.wrap_i64]; omega
              have hcutT := LL_cutT (P := Try.prog) 22 3 Try.underlying22 hi3 hz3b (some ⟨g7, o7, none⟩) xl.length cp7 mm (by omega)
              go_wp2
              refine start_ (n := 10) (S := fun w' => True) (ds := []) (Sh.nm 10 0) (by kernel_rfl) rfl rfl trivial (fun hHeld => ?_)
              refine with_tabW impl_LeastLasso.tab10 impl_LeastLasso.bits10 (fun HT_ HW_ => ?_)
              refine Sh.qA 0 ?_; refine Sh.qA 1 ?_
              refine Sh.qA 2 ?_ (v := .int .i64 (mm : Int)) (hy := by intro w'; go_simp; first | done | exact hwm)
              refine Sh.qA 3 ?_ (v := .slice AD (xl.length - mm) (cp7 - mm)) (hy := by intro w'; go_simp)
              refine Sh.qA 4 ?_; refine Sh.qA 5 ?_
              refine Sh.qA 6 ?_ (v := .int .i64 (mm : Int)) (hy := by intro w'; go_simp; first | done | exact hwm)
              refine Sh.qA 7 ?_ (v := .slice (some ⟨g7, o7, none⟩) mm cp7) (hy := by intro w'; go_simp)
              refine one_ (i := 8) (N := some 73) (Sh.nm 10 511) rfl rfl (one_of HT_.out (by kernel_rfl)) (by decide) fun K hK => ?_
              have hQ7 := LL_rl (W := wr.drew.drew) HQ7.out
              have hQ6 := LL_rl (W := wr.drew.drew) HQ6.out
              have hQd := Kd.Q_drop (k := mm) hQ7 (by omega)
              rw [show mm * (Kd.int .i64).sz = mm * 1 from rfl, ← hAD] at hQd
              have hQt := (Kd.Q_reads' (Kd.Q_take (m := mm) hQ7 (by omega))).2.2
              rw [List.length_take, show min mm xl.length = mm by omega] at hQt
              have hlb : (xl.drop mm).length = xl.length - mm := List.length_drop
              obtain ⟨v8, w10, hrun, hQn, hgr, hat⟩ := ll_run (P := Try.prog) (Kd.int .i64) w.heap.size 22 22 3 (.int .i64 0) 8 Try.underlying22 info3 rfl (by decide) (by decide) _ (xl.drop mm) (xl.take mm) _ mm cp7 _ (fun _ => False) (by omega) hQd hQt (fun _ _ h_ => h_) (fun _ h_ => h_.elim) (fun k_ hk_ => ⟨trivial, fun he_ => by have := Kd.Q_lt hQ6 k_ he_.symm; omega⟩) (below_size (below_drew1 (below_drew1 HB.out))) (by have := HL.out; omega)
              refine LL_app (by rfl) (by rfl) (by rfl) (by rfl) (by rfl) hrun ?_
              have hob : (Value.slice AD (xl.length - mm) (cp7 - mm)).ownBlock = (Value.slice (some ⟨g7, o7, none⟩) xl.length cp7).ownBlock := by rw [hAD]; split <;> first | rfl | (simp [Value.ownBlock, Addr.add]; split <;> rfl)
              rw [hob] at hgr hat
              have hQ6n := Kd.Q_after (Kd.Q_take (m := xs.length - 1) hQ6 (by omega)) hgr hat
              replace HQ6 := am_ hQ6n
              have hB2 := blk_grown (show wr.drew.drew.heap[gb2]? = _ from BK2.out) hgr (Kd.Q_ne HQ7.out BK2.out (by decide))
              replace BK2 := am_ hB2
              have hBn := (below_drew1 (below_drew1 HB.out)).grown hgr (below_size (below_drew1 (below_drew1 HB.out))) (Kd.Q_base HQ7.out)
              replace HB := am_ hBn
              replace HQ7 := am_ hQn
              have hln := LL_len xl mm (by omega)
              have hL := HL.out
              clear hQ6n hB2 hBn hQn hQ7 hQ6 hQd hQt hgr hat hrun hcutD hcutT hcut9 HL
              refine Sh.kN hK trivial fun hHeld => ?_
              clear hK K
              refine Sh.qA 9 ?_
              refine done_ (done_of HT_.out (by kernel_rfl)) ?_
              clear hHeld
              go_wp2
              go_roundg k2
              case measure => have := HK2.out; omega
              case rel => exact ⟨_, _, ⟨by rw [hln]; exact hL⟩, H', ⟨by have := HK2.out; omega⟩, HQ6, HQ7, BK2, HB⟩
             ·rw [if_neg d4] at H
              refine Sh.qA 15 ?_ (v := .bool false) (hy := by intro w'; go_simp; first | done | (simp [d4]; done))
              refine Sh.qA 16 ?_
              refine done_ (done_of HT_.out (by kernel_rfl)) ?_
              clear hHeld
              simp only [Option.some.injEq, Prod.mk.injEq] at H
              obtain ⟨rfl, rfl, rfl⟩ := H
              obtain ⟨hcz1_0, hcz1_1, hfz1_0, hfz1_1⟩ := LL_b2 BK2.out
              go_wp2
              refine bodyPost_ret (results_list (rs := [.cell 2 26, .tmp 3]) rfl (by simp) (.cell gb2 26 #[.slice (some ⟨g6, o6, none⟩) xs.length cp6, .slice (some ⟨g7, o7, none⟩) xl.length cp7] (0, 0) _ rfl (by refine Sh.pl ?_; refine blk_put (cs := #[.slice (some ⟨g6, o6, none⟩) xs.length cp6, .slice none 0 0]) ?_ 1 _ rfl; refine blk_put (cs := #[.slice none 0 0, .slice none 0 0]) ?_ 0 _ rfl; exact BK2.out) Try.underlying26 rfl (by kernel_rfl) (.tmp .nil))) rfl ?_
              exact ⟨_, _, rfl, LL_fin HQ6.out BK2.out _ _, LL_fin HQ7.out BK2.out _ _, below_drew1 (below_set (below_set HB.out GE2.out) GE2.out)⟩
            ·rw [if_neg d3] at H
             exact absurd H (by simp)
           ·rw [if_neg d2] at H
            exact absurd H (by simp)
          ·rw [if_neg d1] at H
           simp only [Option.some.injEq, Prod.mk.injEq] at H
           obtain ⟨rfl, rfl, rfl⟩ := H
           obtain ⟨A6, cp6, e6, _⟩ := Kd.Q_slice HQ6.out
           subst e6
           obtain ⟨A7, cp7, e7, _⟩ := Kd.Q_slice HQ7.out
           subst e7
           obtain ⟨hcz1_0, hcz1_1, hfz1_0, hfz1_1⟩ := LL_b2 BK2.out
           go_wp2
           refine start_ (n := 17) (S := fun _ => True) (ds := []) (Sh.nm 17 0) (by kernel_rfl) rfl rfl trivial (fun hHeld => ?_)
           refine with_tabW impl_LeastLasso.tab8 impl_LeastLasso.bits8 (fun HT_ HW_ => ?_)
           refine Sh.qA 0 ?_; refine Sh.qA 1 ?_; refine Sh.qA 2 ?_ (v := .bool false) (hy := by intro w'; go_simp; first | done | exact List.eq_nil_of_length_eq_zero (by omega)); refine Sh.qA 3 ?_
           refine Sh.qU 4 ?_; refine Sh.qU 5 ?_; refine Sh.qU 6 ?_; refine Sh.qU 7 ?_; refine Sh.qU 8 ?_; refine Sh.qU 9 ?_; refine Sh.qU 10 ?_; refine Sh.qU 11 ?_; refine Sh.qU 12 ?_; refine Sh.qU 13 ?_; refine Sh.qU 14 ?_; refine Sh.qU 15 ?_; refine Sh.qA 16 ?_
           refine done_ (done_of HT_.out (by kernel_rfl)) ?_
           clear hHeld
           go_wp2
           refine bodyPost_ret (results_list (rs := [.cell 2 26, .tmp 3]) rfl (by simp) (.cell gb2 26 #[.slice A6 xs.length cp6, .slice A7 xl.length cp7] (0, 0) _ rfl (by refine Sh.pl ?_; refine blk_put (cs := #[.slice A6 xs.length cp6, .slice none 0 0]) ?_ 1 _ rfl; refine blk_put (cs := #[.slice none 0 0, .slice none 0 0]) ?_ 0 _ rfl; exact BK2.out) Try.underlying26 rfl (by kernel_rfl) (.tmp .nil))) rfl ?_
           exact ⟨_, _, rfl, LL_fin HQ6.out BK2.out _ _, LL_fin HQ7.out BK2.out _ _, below_drew1 (below_set (below_set HB.out GE2.out) GE2.out)⟩
       ·replace b5_ := Bool.eq_false_iff.mpr b5_
        subst b5_
        rw [Sh.nf] at H
        have H' := am_ H
        clear H
        go_wp2
        go_roundg k1
        case measure => have := HK1.out; omega
        case rel => exact ⟨_, rfl, H', ⟨by have := HK1.out; omega⟩, BK1, BK2, HB⟩
      ·rw [if_neg c6] at H
       exact absurd H (by simp)
     ·rw [if_neg c5] at H
      have hm0 : (Int.tmod (l0_1.length : Int) xp != 0) = true := bne_iff_ne.mpr c5
      have H' := am_ H
      clear H
      go_wp2
      refine start_ (n := 18) (S := fun w' => w'.cell? ⟨gb1, 0, none⟩ = some (.slice A0_0 l0_0.length c0_0) ∧ w'.cell? ⟨gb1, 1, none⟩ = some (.slice A0_1 l0_1.length c0_1)) (ds := []) (Sh.nm 18 0) (by kernel_rfl) rfl rfl ⟨(LL_b2 BK1.out).1, (LL_b2 BK1.out).2.1⟩ (fun hHeld => ?_)
      refine with_tabW impl_LeastLasso.tab5 impl_LeastLasso.bits5 (fun HT_ HW_ => ?_)
      refine Sh.qA 0 ?_; refine Sh.qA 1 ?_; refine Sh.qA 2 ?_ (v := .int .i64 (Int.tmod (l0_1.length : Int) xp)) (hy := by intro w'; go_simp; omega)
      refine Sh.qA 3 ?_ (v := .bool true) (hy := by intro w'; go_simp; first | done | simp [c5]); refine Sh.qA 4 ?_
      refine Sh.qU 5 ?_; refine Sh.qU 6 ?_; refine Sh.qU 7 ?_; refine Sh.qU 8 ?_; refine Sh.qU 9 ?_; refine Sh.qU 10 ?_; refine Sh.qU 11 ?_; refine Sh.qU 12 ?_; refine Sh.qU 13 ?_; refine Sh.qU 14 ?_; refine Sh.qU 15 ?_; refine Sh.qU 16 ?_; refine Sh.qA 17 ?_
      refine done_ (done_of HT_.out (by kernel_rfl)) ?_
      clear hHeld
      go_wp2
      go_roundg k1
      case measure => have := HK1.out; omega
      case rel => exact ⟨_, rfl, H', ⟨by have := HK1.out; omega⟩, am_ (blk_drew BK1.out), am_ (blk_drew BK2.out), am_ (Below.drew HB.out)⟩
    ·rw [if_neg c4] at H
     exact absurd H (by simp)
 ·replace b1_ := Bool.eq_false_iff.mpr b1_
  subst b1_
  rw [Sh.nf] at H
  simp only [Option.some.injEq, Prod.mk.injEq] at H
  obtain ⟨rfl, rfl, rfl⟩ := H
  go_enter Try.func7, Try.ntmps7
  go_wp2_with (first | ((with_reducible refine Sh.d 1 ?_); refine Sh.bz w (N := 1) (cs := #[.slice A0_0 l0_0.length c0_0, .slice A0_1 l0_1.length c0_1]) (t := 26) (h := ?_); clear HB; intro gb1 w4 BK1 GE1 HB) | ((with_reducible refine Sh.d 2 ?_); refine Sh.bx (N := 2) (cs := #[.slice none 0 0, .slice none 0 0]) (t := 26) (h := ?_); intro gb2 hg w5 hbox hb; have BK2 := am_ hbox; have GE2 := Sh.ag w hg; replace HB := Sh.hb hb; replace BK1 := Sh.ab BK1 hb; clear hb hbox hg; obtain ⟨hcz1_0, hcz1_1, hfz1_0, hfz1_1⟩ := LL_b2 BK1.out) | (go_at_call 17; (with_reducible refine (impl_GoodLasso.calls _ _ l0_0 _ _ l0_1 false _ (Sh.cB HR0.out) HC0.out (Sh.cB HR1.out) HC1.out A1_.out).mono ?_); rintro e w6 ⟨rfl, hb⟩; replace BK1 := Sh.ab BK1 hb; replace BK2 := Sh.ab BK2 hb; replace HB := Sh.hb hb; clear hb; clear hcz1_0 hcz1_1 hfz1_0 hfz1_1; obtain ⟨hcz1_0, hcz1_1, hfz1_0, hfz1_1⟩ := LL_b2 BK2.out))
  refine bodyPost_ret (results_list (rs := [.cell 2 26, .tmp 3]) rfl (by simp) (.cell gb2 26 #[.slice none 0 0, .slice none 0 0] (0, 0) _ rfl (by refine blk_put (cs := #[.slice none 0 0, .slice none 0 0]) ?_ 1 _ rfl; refine blk_put (cs := #[.slice none 0 0, .slice none 0 0]) ?_ 0 _ rfl; exact BK2.out) Try.underlying26 rfl (by kernel_rfl) (.tmp .nil))) rfl ?_
  exact ⟨_, _, rfl, Kd.Q_nil _ _ _ _ _, Kd.Q_nil _ _ _ _ _, below_set (below_set HB.out GE2.out) GE2.out⟩
end Go.Proofs.Ytdbdibkiehldpaa.P
