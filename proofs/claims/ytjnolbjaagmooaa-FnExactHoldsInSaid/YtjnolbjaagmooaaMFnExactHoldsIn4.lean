/- Go functions of this seat as Lean functions, and the proofs that the calls come to what these say; printed by a program of this session. No condition. -/
import Derived.Test.YtjnolbjaagmooaaP0
import Derived.Test.YtjnolbjaagmooaaMFnExactHoldsIn3
import Derived.Test.YtjnolbjaagmooaaMFnExactHoldsIn2
import Derived.Test.YtjnolbjaagmooaaMFnExactHoldsIn1
set_option linter.unusedVariables false
set_option linter.unusedSimpArgs false
namespace Go.Proofs.Ytjnolbjaagmooaa.P
open Go.RowKit Go.Proofs.YtjnolbjaagmooaaW.PrintWords Go.Proofs.YtjnolbjaagmooaaW.PrintLast Go.Proofs.YtjnolbjaagmooaaW.PrintMore Go.Proofs.Ytjnolbjaagmooaa.Hof
attribute [local go_sem] max2_int min2_int max_two min_two max_three min_three max_four min_four
def impl_Program_holds.f (k : Nat) (a0_0 : Int) (a0_1 : Int) (l0_2 : List (S80)) (l0_3 : List (S71)) (l1 : List (S80)) (l2 : List Int) : Option (Bool) := (impl_valueOf.f k a0_0 l1 l2).bind fun t419 => (some (t419 == 1))
theorem impl_Program_holds.mono : ∀ a0 a1 a2 a3 a4 a5 k, LeO (impl_Program_holds.f k a0 a1 a2 a3 a4 a5) (impl_Program_holds.f (k + 1) a0 a1 a2 a3 a4 a5) := by
 intro a0 a1 a2 a3 a4 a5 k
 unfold impl_Program_holds.f
 repeat' with_reducible first | apply impl_valueOf.mono | exact LeO.refl _ | exact LeO.none _ | apply LeO.ite | refine LeO.bind ?_ fun _ => ?_
set_option maxHeartbeats 8000000 in
set_option maxRecDepth 100000 in
theorem impl_Program_holds.calls (k : Nat) (a0_0 : Int) (a0_1 : Int) (A0_2 : Option Addr) (c0_2 : Nat) (l0_2 : List (S80)) (A0_3 : Option Addr) (c0_3 : Nat) (l0_3 : List (S71)) (A1 : Option Addr) (c1 : Nat) (l1 : List (S80)) (A2 : Option Addr) (c2 : Nat) (l2 : List Int) (r : Bool) (w : World) (hr0_2 : Kd.C k80 w A0_2 l0_2.length l0_2) (hc0_2 : l0_2.length ≤ c0_2) (hr0_3 : Kd.C k71 w A0_3 l0_3.length l0_3) (hc0_3 : l0_3.length ≤ c0_3) (hr1 : Kd.C k80 w A1 l1.length l1) (hc1 : l1.length ≤ c1) (hr2 : Kd.C (Kd.int .u64) w A2 l2.length l2) (hc2 : l2.length ≤ c2) (h : impl_Program_holds.f k a0_0 a0_1 l0_2 l0_3 l1 l2 = some r) :
  Calls Try.prog 38 #[.agg #[.int .i64 a0_0, .int .i64 a0_1, .slice A0_2 l0_2.length c0_2, .slice A0_3 l0_3.length c0_3], .slice A1 l1.length c1, .slice A2 l2.length c2] w fun e w' => e = .returned (.bool r) ∧ Below w.heap.size w w' := by
 have hu33 := Try.underlying33
 have HR0_2 := am_ hr0_2
 have HC0_2 := am_ hc0_2
 clear hr0_2 hc0_2
 have HR0_3 := am_ hr0_3
 have HC0_3 := am_ hc0_3
 clear hr0_3 hc0_3
 have HR1 := am_ hr1
 have HC1 := am_ hc1
 clear hr1 hc1
 have HR2 := am_ hr2
 have HC2 := am_ hc2
 clear hr2 hc2
 have HB := am_ (Below.refl w.heap.size w)
 have H := h
 clear h
 unfold impl_Program_holds.f at H
 obtain ⟨t419, A40, H⟩ := Sh.bd H
 have A4 := am_ A40
 clear A40
 obtain rfl := Option.some.inj H
 go_enter Try.func38, Try.ntmps38
 go_wp2_with (first | ((with_reducible refine gate_dst (N := 3) rfl ?_); refine Sh.bx (N := 3) (cs := #[.int .i64 a0_0, .int .i64 a0_1, .slice A0_2 l0_2.length c0_2, .slice A0_3 l0_3.length c0_3]) (t := 33) (h := ?_); intro gb418 hg w5 hbox hb; have BK418 := am_ hbox; have GW418 := am_ (Sh.gw (w := w) hg); have GE418 := am_ (Sh.gw (w := w) hg); replace HB := am_ (below_step Sh.bw hb); clear hb hbox hg; obtain ⟨hcz6_0, hcz6_1, hcz6_2, hcz6_3, hfz6_0, hfz6_1, hfz6_2, hfz6_3⟩ := Sh.b4 BK418.out) | ((with_reducible refine gate_callee (f := 67) rfl ?_); refine Sh.gL (some 11) Try.func67 #[.int .i64 a0_0, .slice A1 l1.length c1, .slice A2 l2.length c2] (h := ?_); (with_reducible refine (impl_valueOf.calls k a0_0 _ _ l1 _ _ l2 t419 _ (Sh.cB HR1.out) HC1.out (Sh.cB HR2.out) HC2.out A4.out).mono ?_); rintro e w7 ⟨rfl, hb⟩; refine ⟨_, rfl, ?_⟩; replace BK418 := am_ (Sh.bb BK418.out hb); replace HB := am_ (below_step Sh.bw hb); (try clear hb); (try clear hb2); (try clear hk); (try clear hi)))
 go_ret
 exact ⟨Sh.eR, Sh.bw⟩
def spec_l7Small.f (k : Nat) (a0_0 : Int) (a0_1 : Int) (l0_2 : List (S80)) (l0_3 : List (S71)) : Option (Bool) := (spec_GoodProgram.f k a0_0 a0_1 l0_2 l0_3).bind fun t433 => (if t433 = true then (some (decide ((wrap64 (a0_0 * a0_1)) ≤ 5))) else (some false))
theorem spec_l7Small.mono : ∀ a0 a1 a2 a3 k, LeO (spec_l7Small.f k a0 a1 a2 a3) (spec_l7Small.f (k + 1) a0 a1 a2 a3) := by
 intro a0 a1 a2 a3 k
 unfold spec_l7Small.f
 repeat' with_reducible first | apply spec_GoodProgram.mono | exact LeO.refl _ | exact LeO.none _ | apply LeO.ite | refine LeO.bind ?_ fun _ => ?_
set_option maxHeartbeats 8000000 in
set_option maxRecDepth 100000 in
theorem spec_l7Small.calls (k : Nat) (a0_0 : Int) (a0_1 : Int) (A0_2 : Option Addr) (c0_2 : Nat) (l0_2 : List (S80)) (A0_3 : Option Addr) (c0_3 : Nat) (l0_3 : List (S71)) (r : Bool) (w : World) (hr0_2 : Kd.C k80 w A0_2 l0_2.length l0_2) (hc0_2 : l0_2.length ≤ c0_2) (hr0_3 : Kd.C k71 w A0_3 l0_3.length l0_3) (hc0_3 : l0_3.length ≤ c0_3) (h : spec_l7Small.f k a0_0 a0_1 l0_2 l0_3 = some r) :
  Calls Try.prog 40 #[.agg #[.int .i64 a0_0, .int .i64 a0_1, .slice A0_2 l0_2.length c0_2, .slice A0_3 l0_3.length c0_3]] w fun e w' => e = .returned (.bool r) ∧ Below w.heap.size w w' := by
 have hu33 := Try.underlying33
 have HR0_2 := am_ hr0_2
 have HC0_2 := am_ hc0_2
 clear hr0_2 hc0_2
 have HR0_3 := am_ hr0_3
 have HC0_3 := am_ hc0_3
 clear hr0_3 hc0_3
 have HB := am_ (Below.refl w.heap.size w)
 have H := h
 clear h
 unfold spec_l7Small.f at H
 obtain ⟨t433, A20, H⟩ := Sh.bd H
 have A2 := am_ A20
 clear A20
 by_cases c3 : t433 = true
 ·subst c3
  rw [if_pos rfl] at H
  obtain rfl := Option.some.inj H
  go_enter Try.func40, Try.ntmps40
  go_wp2_with (first | ((with_reducible refine gate_dst (N := 1) rfl ?_); refine Sh.bx (N := 1) (cs := #[.int .i64 a0_0, .int .i64 a0_1, .slice A0_2 l0_2.length c0_2, .slice A0_3 l0_3.length c0_3]) (t := 33) (h := ?_); intro gb432 hg w4 hbox hb; have BK432 := am_ hbox; have GW432 := am_ (Sh.gw (w := w) hg); have GE432 := am_ (Sh.gw (w := w) hg); replace HB := am_ (below_step Sh.bw hb); clear hb hbox hg; obtain ⟨hcz5_0, hcz5_1, hcz5_2, hcz5_3, hfz5_0, hfz5_1, hfz5_2, hfz5_3⟩ := Sh.b4 BK432.out) | ((with_reducible refine gate_callee (f := 33) rfl ?_); refine Sh.gL (some 4) Try.func33 #[.agg #[.int .i64 a0_0, .int .i64 a0_1, .slice A0_2 l0_2.length c0_2, .slice A0_3 l0_3.length c0_3]] (h := ?_); (with_reducible refine (spec_GoodProgram.calls k a0_0 a0_1 _ _ l0_2 _ _ l0_3 true _ (Sh.cB HR0_2.out) HC0_2.out (Sh.cB HR0_3.out) HC0_3.out A2.out).mono ?_); rintro e w6 ⟨rfl, hb⟩; refine ⟨_, rfl, ?_⟩; replace BK432 := am_ (Sh.bb BK432.out hb); replace HB := am_ (below_step Sh.bw hb); (try clear hb); (try clear hb2); (try clear hk); (try clear hi); obtain ⟨hcz7_0, hcz7_1, hcz7_2, hcz7_3, hfz7_0, hfz7_1, hfz7_2, hfz7_3⟩ := Sh.b4 BK432.out))
  go_ret
  exact ⟨Sh.eR, Sh.bw⟩
 ·replace c3 := Bool.eq_false_iff.mpr c3
  subst c3
  rw [Sh.nf] at H
  obtain rfl := Option.some.inj H
  go_enter Try.func40, Try.ntmps40
  go_wp2_with (first | ((with_reducible refine gate_dst (N := 1) rfl ?_); refine Sh.bx (N := 1) (cs := #[.int .i64 a0_0, .int .i64 a0_1, .slice A0_2 l0_2.length c0_2, .slice A0_3 l0_3.length c0_3]) (t := 33) (h := ?_); intro gb432 hg w8 hbox hb; have BK432 := am_ hbox; have GW432 := am_ (Sh.gw (w := w) hg); have GE432 := am_ (Sh.gw (w := w) hg); replace HB := am_ (below_step Sh.bw hb); clear hb hbox hg; obtain ⟨hcz9_0, hcz9_1, hcz9_2, hcz9_3, hfz9_0, hfz9_1, hfz9_2, hfz9_3⟩ := Sh.b4 BK432.out) | ((with_reducible refine gate_callee (f := 33) rfl ?_); refine Sh.gL (some 4) Try.func33 #[.agg #[.int .i64 a0_0, .int .i64 a0_1, .slice A0_2 l0_2.length c0_2, .slice A0_3 l0_3.length c0_3]] (h := ?_); (with_reducible refine (spec_GoodProgram.calls k a0_0 a0_1 _ _ l0_2 _ _ l0_3 false _ (Sh.cB HR0_2.out) HC0_2.out (Sh.cB HR0_3.out) HC0_3.out A2.out).mono ?_); rintro e w10 ⟨rfl, hb⟩; refine ⟨_, rfl, ?_⟩; replace BK432 := am_ (Sh.bb BK432.out hb); replace HB := am_ (below_step Sh.bw hb); (try clear hb); (try clear hb2); (try clear hk); (try clear hi)))
  go_ret
  exact ⟨Sh.eR, Sh.bw⟩
def spec_l7Many.f (a0_0 : Int) (a0_1 : Int) (l0_2 : List (S80)) (l0_3 : List (S71)) : Option (Int) := if 0 ≤ (IntKind.u64.wrap (wrap64 (a0_0 * a0_1))) then (some (shl .i64 1 (IntKind.u64.wrap (wrap64 (a0_0 * a0_1))))) else (none)
set_option maxHeartbeats 8000000 in
set_option maxRecDepth 100000 in
theorem spec_l7Many.calls (a0_0 : Int) (a0_1 : Int) (A0_2 : Option Addr) (c0_2 : Nat) (l0_2 : List (S80)) (A0_3 : Option Addr) (c0_3 : Nat) (l0_3 : List (S71)) (r : Int) (w : World) (hr0_2 : Kd.C k80 w A0_2 l0_2.length l0_2) (hc0_2 : l0_2.length ≤ c0_2) (hr0_3 : Kd.C k71 w A0_3 l0_3.length l0_3) (hc0_3 : l0_3.length ≤ c0_3) (h : spec_l7Many.f a0_0 a0_1 l0_2 l0_3 = some r) :
  Calls Try.prog 69 #[.agg #[.int .i64 a0_0, .int .i64 a0_1, .slice A0_2 l0_2.length c0_2, .slice A0_3 l0_3.length c0_3]] w fun e w' => e = .returned (.int .i64 r) ∧ Below w.heap.size w w' := by
 have hu33 := Try.underlying33
 have HR0_2 := am_ hr0_2
 have HC0_2 := am_ hc0_2
 clear hr0_2 hc0_2
 have HR0_3 := am_ hr0_3
 have HC0_3 := am_ hc0_3
 clear hr0_3 hc0_3
 have HB := am_ (Below.refl w.heap.size w)
 have H := h
 clear h
 unfold spec_l7Many.f at H
 obtain ⟨ji2, hj1⟩ : ∃ j_ : Int, (IntKind.u64.wrap (wrap64 (a0_0 * a0_1))) = j_ := ⟨_, rfl⟩
 replace H : (if 0 ≤ (ji2) then (some (shl .i64 1 (ji2))) else (none)) = some r := by first | (rw [hj1] at H; exact H) | (simp only [hj1] at H ⊢; exact H)
 by_cases c3 : 0 ≤ (ji2)
 ·rw [if_pos c3] at H
  have c3b0 := eq_true c3
  have c3b1 : decide (0 ≤ (ji2)) = true := decide_eq_true c3
  clear c3
  obtain ⟨ji4, hj2⟩ : ∃ j_ : Int, (shl .i64 1 (ji2)) = j_ := ⟨_, rfl⟩
  replace H : (some ji4) = some r := by first | (rw [hj2] at H; exact H) | (simp only [hj2] at H ⊢; exact H)
  have hji4_ : (IntKind.i64.wrap (1 * 2 ^ min (ji2).toNat 64)) = ji4 := hj2
  have hji4z : (ji2) ≤ 64 → (IntKind.i64.wrap (1 * 2 ^ (ji2).toNat)) = ji4 := shl_small hj2
  have hji4u : (IntKind.i64.wrap (2 ^ min (ji2).toNat 64)) = ji4 := by have h_ := hji4_; rw [Int.one_mul] at h_; exact h_
  have hji4v : (ji2) ≤ 64 → (IntKind.i64.wrap (2 ^ (ji2).toNat)) = ji4 := fun hle_ => by have h_ := hji4z hle_; rw [Int.one_mul] at h_; exact h_
  have hji4y : (wrap64 (1 * 2 ^ min (ji2).toNat 64)) = ji4 := (i64_w _).symm.trans hji4_
  have hji4x : (ji2) ≤ 64 → (wrap64 (1 * 2 ^ (ji2).toNat)) = ji4 := fun h_ => (i64_w _).symm.trans (hji4z h_)
  obtain rfl := Option.some.inj H
  go_enter Try.func69, Try.ntmps69
  go_wp2_with (first | ((with_reducible refine gate_dst (N := 1) rfl ?_); refine Sh.bx (N := 1) (cs := #[.int .i64 a0_0, .int .i64 a0_1, .slice A0_2 l0_2.length c0_2, .slice A0_3 l0_3.length c0_3]) (t := 33) (h := ?_); intro gb434 hg w5 hbox hb; have BK434 := am_ hbox; have GW434 := am_ (Sh.gw (w := w) hg); have GE434 := am_ (Sh.gw (w := w) hg); replace HB := am_ (below_step Sh.bw hb); clear hb hbox hg; obtain ⟨hcz6_0, hcz6_1, hcz6_2, hcz6_3, hfz6_0, hfz6_1, hfz6_2, hfz6_3⟩ := Sh.b4 BK434.out))
  go_ret
  exact ⟨by first | rfl | (simp [errW_none, errW_some] <;> rfl) | (simp only [← hj1, ← hj2]; first | rfl | (simp [errW_none, errW_some] <;> rfl)) | (simp [*, errW_none, errW_some] <;> rfl), Sh.bw⟩
 ·rw [if_neg c3] at H
  exact absurd H (by simp)
def spec_l8Is.f (k : Nat) (a0_0 : Int) (a0_1 : Int) (l0_2 : List (S80)) (l0_3 : List (S71)) (a1 : Int) : Option (Bool) := (spec_l7Small.f k a0_0 a0_1 l0_2 l0_3).bind fun t436 => (if t436 = true then ((spec_l7Many.f a0_0 a0_1 l0_2 l0_3).bind fun t437 => ((spec_l1In.f a1 0 (wrap64 (t437 - 1))).bind fun t438 => (some t438))) else (some false))
theorem spec_l8Is.mono : ∀ a0 a1 a2 a3 a4 k, LeO (spec_l8Is.f k a0 a1 a2 a3 a4) (spec_l8Is.f (k + 1) a0 a1 a2 a3 a4) := by
 intro a0 a1 a2 a3 a4 k
 unfold spec_l8Is.f
 repeat' with_reducible first | apply spec_l7Small.mono | exact LeO.refl _ | exact LeO.none _ | apply LeO.ite | refine LeO.bind ?_ fun _ => ?_
set_option maxHeartbeats 8000000 in
set_option maxRecDepth 100000 in
theorem spec_l8Is.calls (k : Nat) (a0_0 : Int) (a0_1 : Int) (A0_2 : Option Addr) (c0_2 : Nat) (l0_2 : List (S80)) (A0_3 : Option Addr) (c0_3 : Nat) (l0_3 : List (S71)) (a1 : Int) (r : Bool) (w : World) (hr0_2 : Kd.C k80 w A0_2 l0_2.length l0_2) (hc0_2 : l0_2.length ≤ c0_2) (hr0_3 : Kd.C k71 w A0_3 l0_3.length l0_3) (hc0_3 : l0_3.length ≤ c0_3) (h : spec_l8Is.f k a0_0 a0_1 l0_2 l0_3 a1 = some r) :
  Calls Try.prog 51 #[.agg #[.int .i64 a0_0, .int .i64 a0_1, .slice A0_2 l0_2.length c0_2, .slice A0_3 l0_3.length c0_3], .int .i64 a1] w fun e w' => e = .returned (.bool r) ∧ Below w.heap.size w w' := by
 have hu33 := Try.underlying33
 have HR0_2 := am_ hr0_2
 have HC0_2 := am_ hc0_2
 clear hr0_2 hc0_2
 have HR0_3 := am_ hr0_3
 have HC0_3 := am_ hc0_3
 clear hr0_3 hc0_3
 have HB := am_ (Below.refl w.heap.size w)
 have H := h
 clear h
 unfold spec_l8Is.f at H
 obtain ⟨t436, A30, H⟩ := Sh.bd H
 have A3 := am_ A30
 clear A30
 by_cases c4 : t436 = true
 ·subst c4
  rw [if_pos rfl] at H
  obtain ⟨t437, A50, H⟩ := Sh.bd H
  have A5 := am_ A50
  clear A50
  obtain ⟨t438, A60, H⟩ := Sh.bd H
  have A6 := am_ A60
  clear A60
  obtain rfl := Option.some.inj H
  go_enter Try.func51, Try.ntmps51
  go_wp2_with (first | ((with_reducible refine gate_dst (N := 2) rfl ?_); refine Sh.bx (N := 2) (cs := #[.int .i64 a0_0, .int .i64 a0_1, .slice A0_2 l0_2.length c0_2, .slice A0_3 l0_3.length c0_3]) (t := 33) (h := ?_); intro gb435 hg w7 hbox hb; have BK435 := am_ hbox; have GW435 := am_ (Sh.gw (w := w) hg); have GE435 := am_ (Sh.gw (w := w) hg); replace HB := am_ (below_step Sh.bw hb); clear hb hbox hg; obtain ⟨hcz8_0, hcz8_1, hcz8_2, hcz8_3, hfz8_0, hfz8_1, hfz8_2, hfz8_3⟩ := Sh.b4 BK435.out) | ((with_reducible refine gate_callee (f := 40) rfl ?_); refine Sh.gL (some 6) Try.func40 #[.agg #[.int .i64 a0_0, .int .i64 a0_1, .slice A0_2 l0_2.length c0_2, .slice A0_3 l0_3.length c0_3]] (h := ?_); (with_reducible refine (spec_l7Small.calls k a0_0 a0_1 _ _ l0_2 _ _ l0_3 true _ (Sh.cB HR0_2.out) HC0_2.out (Sh.cB HR0_3.out) HC0_3.out A3.out).mono ?_); rintro e w9 ⟨rfl, hb⟩; refine ⟨_, rfl, ?_⟩; replace BK435 := am_ (Sh.bb BK435.out hb); replace HB := am_ (below_step Sh.bw hb); (try clear hb); (try clear hb2); (try clear hk); (try clear hi); obtain ⟨hcz10_0, hcz10_1, hcz10_2, hcz10_3, hfz10_0, hfz10_1, hfz10_2, hfz10_3⟩ := Sh.b4 BK435.out) | (go_at_call 69; (with_reducible refine (spec_l7Many.calls a0_0 a0_1 _ _ l0_2 _ _ l0_3 t437 _ (Sh.cB HR0_2.out) HC0_2.out (Sh.cB HR0_3.out) HC0_3.out A5.out).mono ?_); rintro e w11 ⟨rfl, hb⟩; replace BK435 := am_ (Sh.bb BK435.out hb); replace HB := am_ (below_step Sh.bw hb); (try clear hb); (try clear hb2); (try clear hk); (try clear hi)) | (go_at_call 60; (with_reducible refine (spec_l1In.calls a1 0 (wrap64 (t437 - 1)) t438 _ A6.out).mono ?_); rintro e w' ⟨rfl, ⟨nd, rfl⟩⟩))
  go_ret
  exact ⟨Sh.eR, Sh.bw⟩
 ·replace c4 := Bool.eq_false_iff.mpr c4
  subst c4
  rw [Sh.nf] at H
  obtain rfl := Option.some.inj H
  go_enter Try.func51, Try.ntmps51
  go_wp2_with (first | ((with_reducible refine gate_dst (N := 2) rfl ?_); refine Sh.bx (N := 2) (cs := #[.int .i64 a0_0, .int .i64 a0_1, .slice A0_2 l0_2.length c0_2, .slice A0_3 l0_3.length c0_3]) (t := 33) (h := ?_); intro gb435 hg w12 hbox hb; have BK435 := am_ hbox; have GW435 := am_ (Sh.gw (w := w) hg); have GE435 := am_ (Sh.gw (w := w) hg); replace HB := am_ (below_step Sh.bw hb); clear hb hbox hg; obtain ⟨hcz13_0, hcz13_1, hcz13_2, hcz13_3, hfz13_0, hfz13_1, hfz13_2, hfz13_3⟩ := Sh.b4 BK435.out) | ((with_reducible refine gate_callee (f := 40) rfl ?_); refine Sh.gL (some 6) Try.func40 #[.agg #[.int .i64 a0_0, .int .i64 a0_1, .slice A0_2 l0_2.length c0_2, .slice A0_3 l0_3.length c0_3]] (h := ?_); (with_reducible refine (spec_l7Small.calls k a0_0 a0_1 _ _ l0_2 _ _ l0_3 false _ (Sh.cB HR0_2.out) HC0_2.out (Sh.cB HR0_3.out) HC0_3.out A3.out).mono ?_); rintro e w14 ⟨rfl, hb⟩; refine ⟨_, rfl, ?_⟩; replace BK435 := am_ (Sh.bb BK435.out hb); replace HB := am_ (below_step Sh.bw hb); (try clear hb); (try clear hb2); (try clear hk); (try clear hi)))
  go_ret
  exact ⟨Sh.eR, Sh.bw⟩
def spec_l7Of.l0 : Nat → Int → List Int → Int → Int → Int → List (S80) → List (S71) → Option (List Int)
 | 0, _, _, _, _, _, _, _ => none
 | k + 1, x1, x5, x6, x440000, x440001, x440002, x440003 => if x6 < x440001 then (if 0 ≤ (IntKind.u64.wrap (wrap64 (x6 * x440000))) then (if 0 ≤ (IntKind.u64.wrap (x440000)) then (if x5.length < 17592186044416 then (spec_l7Of.l0 k x1 (x5 ++ [IntKind.u64.wrap (Go.bits .and .i64 (shr .i64 x1 (IntKind.u64.wrap (wrap64 (x6 * x440000)))) (wrap64 ((shl .i64 1 (IntKind.u64.wrap (x440000))) - 1)))]) (wrap64 (x6 + 1)) x440000 x440001 x440002 x440003) else (none)) else (none)) else (none)) else (some x5)
def spec_l7Of.f (k : Nat) (a0_0 : Int) (a0_1 : Int) (l0_2 : List (S80)) (l0_3 : List (S71)) (a1 : Int) : Option (List Int) := spec_l7Of.l0 k a1 ([] : List Int) 0 a0_0 a0_1 l0_2 l0_3
theorem spec_l7Of.mono_l : ∀ k, (∀ y0 y1 y2 y3 y4 y5 y6, LeO (spec_l7Of.l0 k y0 y1 y2 y3 y4 y5 y6) (spec_l7Of.l0 (k + 1) y0 y1 y2 y3 y4 y5 y6))
 | 0 => fun _ _ _ _ _ _ _ r h => by simp [spec_l7Of.l0] at h
 | k + 1 => by
  have ih0 := spec_l7Of.mono_l k
  ·intro y0 y1 y2 y3 y4 y5 y6
   unfold spec_l7Of.l0
   repeat' with_reducible first | apply ih0 | exact LeO.refl _ | exact LeO.none _ | apply LeO.ite | refine LeO.bind ?_ fun _ => ?_
theorem spec_l7Of.mono : ∀ a0 a1 a2 a3 a4 k, LeO (spec_l7Of.f k a0 a1 a2 a3 a4) (spec_l7Of.f (k + 1) a0 a1 a2 a3 a4) := by
 intro a0 a1 a2 a3 a4 k
 have ih0 := spec_l7Of.mono_l k
 unfold spec_l7Of.f
 repeat' with_reducible first | apply ih0 | exact LeO.refl _ | exact LeO.none _ | apply LeO.ite | refine LeO.bind ?_ fun _ => ?_
set_option maxHeartbeats 8000000 in
set_option maxRecDepth 100000 in
theorem spec_l7Of.calls (k : Nat) (a0_0 : Int) (a0_1 : Int) (A0_2 : Option Addr) (c0_2 : Nat) (l0_2 : List (S80)) (A0_3 : Option Addr) (c0_3 : Nat) (l0_3 : List (S71)) (a1 : Int) (r : List Int) (w : World) (hr0_2 : Kd.C k80 w A0_2 l0_2.length l0_2) (hc0_2 : l0_2.length ≤ c0_2) (hr0_3 : Kd.C k71 w A0_3 l0_3.length l0_3) (hc0_3 : l0_3.length ≤ c0_3) (h : spec_l7Of.f k a0_0 a0_1 l0_2 l0_3 a1 = some r) :
  Calls Try.prog 53 #[.agg #[.int .i64 a0_0, .int .i64 a0_1, .slice A0_2 l0_2.length c0_2, .slice A0_3 l0_3.length c0_3], .int .i64 a1] w fun e w' => ∃ v0_ : Value, e = .returned (v0_) ∧ Kd.R (Kd.int .u64) 61 w' w.heap.size (fun _ => True) v0_ r ∧ Below w.heap.size w w' := by
 have hu33 := Try.underlying33
 have HR0_2 := am_ hr0_2
 have HC0_2 := am_ hc0_2
 clear hr0_2 hc0_2
 have HR0_3 := am_ hr0_3
 have HC0_3 := am_ hc0_3
 clear hr0_3 hc0_3
 have HB := am_ (Below.refl w.heap.size w)
 have H := h
 clear h
 unfold spec_l7Of.f at H
 have H' := am_ H
 clear H
 go_enter Try.func53, Try.ntmps53
 go_wp2_with (first | ((with_reducible refine gate_dst (N := 2) rfl ?_); refine Sh.bx (N := 2) (cs := #[.int .i64 a0_0, .int .i64 a0_1, .slice A0_2 l0_2.length c0_2, .slice A0_3 l0_3.length c0_3]) (t := 33) (h := ?_); intro gb439 hg w3 hbox hb; have BK439 := am_ hbox; have GW439 := am_ (Sh.gw (w := w) hg); have GE439 := am_ (Sh.gw (w := w) hg); replace HB := am_ (below_step Sh.bw hb); clear hb hbox hg))
 go_loopg [5, 6] k (fun kq v5 v6 w' => ∃ (x5_1 : List Int) (x6_1 : Int), v6 = .int .i64 x6_1 ∧ Aside0 (spec_l7Of.l0 kq a1 x5_1 x6_1 a0_0 a0_1 l0_2 l0_3 = some r) ∧ Aside0 (kq ≤ k) ∧ Aside0 (Kd.R (Kd.int .u64) 61 w' w.heap.size (fun _ => True) v5 x5_1) ∧ Aside0 (w'.heap[gb439]? = some (.cells #[.int .i64 a0_0, .int .i64 a0_1, (.slice A0_2 l0_2.length c0_2), (.slice A0_3 l0_3.length c0_3)] 33 (0, 0))) ∧ Aside0 (Below w.heap.size w w'))
 case atStart => exact ⟨(([] : List Int)), (0), (Sh.es), H', ⟨Nat.le_refl _⟩, ⟨by first | exact Kd.R_nil _ _ _ _ _ | exact Kd.N_nil _ _ _ _ _ | exact Kd.V_nil _ _ _ _ _ | exact Kd.Q_nil _ _ _ _ _ | exact Kd.S_nil _ _ _ _ _⟩, ⟨by (with_reducible repeat (first | refine blk_drewN ?_ _ | refine blk_drew ?_ | refine blk_alloc ?_ _)); exact BK439.out⟩, ⟨Sh.bw⟩⟩
 case round =>
  clear H'
  try clear p2
  obtain ⟨x5_1, x6_1, rfl, HA, HK1, HO_5, BK439, HB⟩ := hrel
  cases gk with
  | zero => exact absurd HA.out (by simp [spec_l7Of.l0])
  | succ k1 =>
   have H := HA.out
   clear HA
   simp only [spec_l7Of.l0] at H
   by_cases c4 : x6_1 < a0_1
   ·rw [if_pos c4] at H
    have c4b0 : decide (x6_1 < a0_1) = true := decide_eq_true c4
    clear c4
    obtain ⟨ji5, hj1⟩ : ∃ j_ : Int, (IntKind.u64.wrap (wrap64 (x6_1 * a0_0))) = j_ := ⟨_, rfl⟩
    replace H : (if 0 ≤ (ji5) then (if 0 ≤ (IntKind.u64.wrap (a0_0)) then (if x5_1.length < 17592186044416 then (spec_l7Of.l0 k1 a1 (x5_1 ++ [IntKind.u64.wrap (Go.bits .and .i64 (shr .i64 a1 (ji5)) (wrap64 ((shl .i64 1 (IntKind.u64.wrap (a0_0))) - 1)))]) (wrap64 (x6_1 + 1)) a0_0 a0_1 l0_2 l0_3) else (none)) else (none)) else (none)) = some r := by first | (rw [hj1] at H; exact H) | (simp only [hj1] at H ⊢; exact H)
    by_cases c6 : 0 ≤ (ji5)
    ·rw [if_pos c6] at H
     have c6b0 := eq_true c6
     have c6b1 : decide (0 ≤ (ji5)) = true := decide_eq_true c6
     clear c6
     obtain ⟨ji7, hj2⟩ : ∃ j_ : Int, (shr .i64 a1 (ji5)) = j_ := ⟨_, rfl⟩
     replace H : (if 0 ≤ (IntKind.u64.wrap (a0_0)) then (if x5_1.length < 17592186044416 then (spec_l7Of.l0 k1 a1 (x5_1 ++ [IntKind.u64.wrap (Go.bits .and .i64 (ji7) (wrap64 ((shl .i64 1 (IntKind.u64.wrap (a0_0))) - 1)))]) (wrap64 (x6_1 + 1)) a0_0 a0_1 l0_2 l0_3) else (none)) else (none)) = some r := by first | (rw [hj2] at H; exact H) | (simp only [hj2] at H ⊢; exact H)
     have hji7_ : (a1 / 2 ^ min (ji5).toNat 64) = ji7 := hj2
     have hji7z : (ji5) ≤ 64 → (a1 / 2 ^ (ji5).toNat) = ji7 := shr_small hj2
     obtain ⟨ji8, hj3⟩ : ∃ j_ : Int, (IntKind.u64.wrap (a0_0)) = j_ := ⟨_, rfl⟩
     replace H : (if 0 ≤ (ji8) then (if x5_1.length < 17592186044416 then (spec_l7Of.l0 k1 a1 (x5_1 ++ [IntKind.u64.wrap (Go.bits .and .i64 (ji7) (wrap64 ((shl .i64 1 (ji8)) - 1)))]) (wrap64 (x6_1 + 1)) a0_0 a0_1 l0_2 l0_3) else (none)) else (none)) = some r := by first | (rw [hj3] at H; exact H) | (simp only [hj3] at H ⊢; exact H)
     by_cases c9 : 0 ≤ (ji8)
     ·rw [if_pos c9] at H
      have c9b0 := eq_true c9
      have c9b1 : decide (0 ≤ (ji8)) = true := decide_eq_true c9
      clear c9
      obtain ⟨ji10, hj4⟩ : ∃ j_ : Int, (shl .i64 1 (ji8)) = j_ := ⟨_, rfl⟩
      replace H : (if x5_1.length < 17592186044416 then (spec_l7Of.l0 k1 a1 (x5_1 ++ [IntKind.u64.wrap (Go.bits .and .i64 (ji7) (wrap64 ((ji10) - 1)))]) (wrap64 (x6_1 + 1)) a0_0 a0_1 l0_2 l0_3) else (none)) = some r := by first | (rw [hj4] at H; exact H) | (simp only [hj4] at H ⊢; exact H)
      have hji10_ : (IntKind.i64.wrap (1 * 2 ^ min (ji8).toNat 64)) = ji10 := hj4
      have hji10z : (ji8) ≤ 64 → (IntKind.i64.wrap (1 * 2 ^ (ji8).toNat)) = ji10 := shl_small hj4
      have hji10u : (IntKind.i64.wrap (2 ^ min (ji8).toNat 64)) = ji10 := by have h_ := hji10_; rw [Int.one_mul] at h_; exact h_
      have hji10v : (ji8) ≤ 64 → (IntKind.i64.wrap (2 ^ (ji8).toNat)) = ji10 := fun hle_ => by have h_ := hji10z hle_; rw [Int.one_mul] at h_; exact h_
      have hji10y : (wrap64 (1 * 2 ^ min (ji8).toNat 64)) = ji10 := (i64_w _).symm.trans hji10_
      have hji10x : (ji8) ≤ 64 → (wrap64 (1 * 2 ^ (ji8).toNat)) = ji10 := fun h_ => (i64_w _).symm.trans (hji10z h_)
      by_cases c11 : x5_1.length < 17592186044416
      ·rw [if_pos c11] at H
       have LMc11 := am_ c11
       clear c11
       obtain ⟨y440, hy440⟩ : ∃ y_ : List Int, y_ = (x5_1 ++ [IntKind.u64.wrap (Go.bits .and .i64 (ji7) (wrap64 ((ji10) - 1)))]) := ⟨_, rfl⟩
       replace H : (spec_l7Of.l0 k1 a1 y440 (wrap64 (x6_1 + 1)) a0_0 a0_1 l0_2 l0_3) = some r := by first | (rw [hy440]; with_reducible exact H) | (have H2_ := (Option.bind_some _ _).symm.trans H; rw [hy440]; with_reducible exact H2_) | (have H2_ := (Option.bind_some _ _).symm.trans H; with_reducible exact H2_) | with_reducible exact H | (rw [hy440]; exact H) | exact H
       have Ny440 := am_ hy440
       clear hy440
       have H' := am_ H
       clear H
       have hcz12_0 := Sh.bc BK439.out 0
       have hcz12_1 := Sh.bc BK439.out 1
       have hcz12_2 := Sh.bc BK439.out 2
       have hcz12_3 := Sh.bc BK439.out 3
       have hfz12_0 := blk_frozen BK439.out 0
       have hfz12_1 := blk_frozen BK439.out 1
       have hfz12_2 := blk_frozen BK439.out 2
       have hfz12_3 := blk_frozen BK439.out 3
       go_wp2_with (first | ((with_reducible refine gate_builtin (b := .append) (xs := #[.tmp 13, .tmp 28]) rfl ?_); at_builtin; refine Kd.R_append (Kd.int .u64) (w0 := w) w.heap.size rfl (.tmp 13) (.tmp 28) 26 61 (.int .u64 0) 8 rfl Try.underlying26 info61 rfl (by decide) (by omega) u5 x5_1 (IntKind.u64.wrap (Go.bits .and .i64 (ji7) (wrap64 ((ji10) - 1)))) [.int .u64 (IntKind.u64.wrap (Go.bits .and .i64 (ji7) (wrap64 ((ji10) - 1))))] (fun _ => True) (fun _ => False) rfl rfl ?aP (fun _ hk => hk.elim) ?aF ?aO ?aB ?aS ?aL ?_; (case aP => exact rfl); (case aB => exact Sh.bw); (case aF => exact (fun _ _ => trivial)); (case aO => exact (by (with_reducible repeat (first | apply Kd.R_alloc | apply Kd.R_drewN | apply Kd.R_drew)); exact HO_5.out)); (case aS => exact (below_size Sh.bw)); (case aL => have := LMc11.out; omega); intro v441 w13 ho hb hg hat; rw [← Ny440.out] at ho; have n0_ := am_ (blk_grown (g := gb439) (o := .cells #[.int .i64 a0_0, .int .i64 a0_1, .slice A0_2 l0_2.length c0_2, .slice A0_3 l0_3.length c0_3] 33 (0, 0)) (by (with_reducible repeat (first | refine blk_drewN ?_ _ | refine blk_drew ?_ | refine blk_alloc ?_ _)); exact BK439.out) hg (Kd.R_ne HO_5.out BK439.out (by decide))); have n1_ := am_ hb; have n2_ := am_ ho; clear BK439; clear HB; clear HO_5; have BK439 := n0_; have HB := n1_; have HO442 := n2_; clear n0_ n1_ n2_; clear ho hb hg hat))
       go_roundg k1
       case measure => have := HK1.out; omega
       case rel => exact ⟨(y440), (wrap64 (x6_1 + 1)), (Sh.es), H', ⟨by have := HK1.out; omega⟩, ⟨by (with_reducible repeat (first | apply Kd.R_alloc | apply Kd.R_drewN | apply Kd.R_drew)); exact HO442.out⟩, ⟨by (with_reducible repeat (first | refine blk_drewN ?_ _ | refine blk_drew ?_ | refine blk_alloc ?_ _)); exact BK439.out⟩, ⟨Sh.bw⟩⟩
      ·rw [if_neg c11] at H
       exact absurd H (by simp)
     ·rw [if_neg c9] at H
      exact absurd H (by simp)
    ·rw [if_neg c6] at H
     exact absurd H (by simp)
   ·rw [if_neg c4] at H
    have c4b0 : decide (x6_1 < a0_1) = false := decide_eq_false c4
    clear c4
    obtain rfl := Option.some.inj H
    have hcz14_0 := Sh.bc BK439.out 0
    have hcz14_1 := Sh.bc BK439.out 1
    have hcz14_2 := Sh.bc BK439.out 2
    have hcz14_3 := Sh.bc BK439.out 3
    have hfz14_0 := blk_frozen BK439.out 0
    have hfz14_1 := blk_frozen BK439.out 1
    have hfz14_2 := blk_frozen BK439.out 2
    have hfz14_3 := blk_frozen BK439.out 3
    go_wp2
    go_ret
    exact ⟨_, Sh.eR, by (with_reducible repeat (first | apply Kd.R_alloc | apply Kd.R_drewN | apply Kd.R_drew)); exact HO_5.out, Sh.bw⟩
def spec_HoldsIn.j0 : Nat → List (S80) → Int → Bool → Int → Int → List (S80) → List (S71) → Option (Bool × Bool)
 | 0, _, _, _, _, _, _, _ => none
 | k + 1, x1, x2, x17, x444000, x444001, x444002, x444003 => if x17 = true then (some (false, false)) else ((spec_l7Of.f k x444000 x444001 x444002 x444003 x2).bind fun t446 => ((spec_l7Holds.f k x444000 x444001 x444002 x444003 x1 t446).bind fun t449 => (some (t449, true))))
def spec_HoldsIn.f (k : Nat) (a0_0 : Int) (a0_1 : Int) (l0_2 : List (S80)) (l0_3 : List (S71)) (l1 : List (S80)) (a2 : Int) : Option (Bool × Bool) := (spec_l8Is.f k a0_0 a0_1 l0_2 l0_3 a2).bind fun t444 => (if t444 = true then ((spec_l7Asks.f k a0_0 a0_1 l0_2 l0_3 l1).bind fun t445 => (spec_HoldsIn.j0 k l1 a2 (!t445) a0_0 a0_1 l0_2 l0_3)) else (spec_HoldsIn.j0 k l1 a2 true a0_0 a0_1 l0_2 l0_3))
theorem spec_HoldsIn.mono_l : ∀ k, (∀ y0 y1 y2 y3 y4 y5 y6, LeO (spec_HoldsIn.j0 k y0 y1 y2 y3 y4 y5 y6) (spec_HoldsIn.j0 (k + 1) y0 y1 y2 y3 y4 y5 y6))
 | 0 => fun _ _ _ _ _ _ _ r h => by simp [spec_HoldsIn.j0] at h
 | k + 1 => by
  have ih0 := spec_HoldsIn.mono_l k
  ·intro y0 y1 y2 y3 y4 y5 y6
   unfold spec_HoldsIn.j0
   repeat' with_reducible first | apply ih0 | apply spec_l7Asks.mono | apply spec_l7Holds.mono | apply spec_l7Of.mono | apply spec_l8Is.mono | exact LeO.refl _ | exact LeO.none _ | apply LeO.ite | refine LeO.bind ?_ fun _ => ?_
theorem spec_HoldsIn.mono : ∀ a0 a1 a2 a3 a4 a5 k, LeO (spec_HoldsIn.f k a0 a1 a2 a3 a4 a5) (spec_HoldsIn.f (k + 1) a0 a1 a2 a3 a4 a5) := by
 intro a0 a1 a2 a3 a4 a5 k
 have ih0 := spec_HoldsIn.mono_l k
 unfold spec_HoldsIn.f
 repeat' with_reducible first | apply ih0 | apply spec_l7Asks.mono | apply spec_l7Holds.mono | apply spec_l7Of.mono | apply spec_l8Is.mono | exact LeO.refl _ | exact LeO.none _ | apply LeO.ite | refine LeO.bind ?_ fun _ => ?_
def spec_HoldsIn.T3 : Bool × List (List Nat × List Nat) := (true, [([], []), ([], []), ([], []), ([], []), ([2, 3], [2, 3]), ([0, 1, 4, 4], [0, 1, 4]), ([5, 5, 0, 1, 2, 3, 4, 5], [5]), ([6, 0, 1, 2, 3, 4, 5, 6], [])])
def spec_HoldsIn.B3 : List Nat := [0, 0, 0, 0, 12, 31, 63, 127]
theorem spec_HoldsIn.tab3 : rtab .any (opsOf Try.f28 3) = spec_HoldsIn.T3 := by kernel_rfl
theorem spec_HoldsIn.bits3 : waitsOk spec_HoldsIn.T3.2 spec_HoldsIn.B3 = true := by kernel_rfl
set_option maxHeartbeats 8000000 in
set_option maxRecDepth 100000 in
theorem spec_HoldsIn.calls (k : Nat) (a0_0 : Int) (a0_1 : Int) (A0_2 : Option Addr) (c0_2 : Nat) (l0_2 : List (S80)) (A0_3 : Option Addr) (c0_3 : Nat) (l0_3 : List (S71)) (A1 : Option Addr) (c1 : Nat) (l1 : List (S80)) (a2 : Int) (r1 : Bool) (r2 : Bool) (w : World) (hr0_2 : Kd.C k80 w A0_2 l0_2.length l0_2) (hc0_2 : l0_2.length ≤ c0_2) (hr0_3 : Kd.C k71 w A0_3 l0_3.length l0_3) (hc0_3 : l0_3.length ≤ c0_3) (hr1 : Kd.C k80 w A1 l1.length l1) (hc1 : l1.length ≤ c1) (h : spec_HoldsIn.f k a0_0 a0_1 l0_2 l0_3 l1 a2 = some (r1, r2)) :
  Calls Try.prog 28 #[.agg #[.int .i64 a0_0, .int .i64 a0_1, .slice A0_2 l0_2.length c0_2, .slice A0_3 l0_3.length c0_3], .slice A1 l1.length c1, .int .i64 a2] w fun e w' => e = .returned (.tuple #[.bool r1, .bool r2]) ∧ Below w.heap.size w w' := by
 have hu33 := Try.underlying33
 have HR0_2 := am_ hr0_2
 have HC0_2 := am_ hc0_2
 clear hr0_2 hc0_2
 have HR0_3 := am_ hr0_3
 have HC0_3 := am_ hc0_3
 clear hr0_3 hc0_3
 have HR1 := am_ hr1
 have HC1 := am_ hc1
 clear hr1 hc1
 have HB := am_ (Below.refl w.heap.size w)
 have H := h
 clear h
 unfold spec_HoldsIn.f at H
 have HC4 := am_ H
 clear H
 go_enter Try.func28, Try.ntmps28
 go_upto_region 1 with (first | ((with_reducible refine gate_dst (N := 3) rfl ?_); refine Sh.bx (N := 3) (cs := #[.int .i64 a0_0, .int .i64 a0_1, .slice A0_2 l0_2.length c0_2, .slice A0_3 l0_3.length c0_3]) (t := 33) (h := ?_); intro gb443 hg w5 hbox hb; have BK443 := am_ hbox; have GW443 := am_ (Sh.gw (w := w) hg); have GE443 := am_ (Sh.gw (w := w) hg); replace HB := am_ (below_step Sh.bw hb); clear hb hbox hg))
 (try simp only [Act.put, List.setIfInBounds_toArray, List.set_cons_zero, List.set_cons_succ])
 go_cut [17] (fun v17 wc => ∃ (kq : Nat) (x17_3 : Bool), v17 = .bool x17_3 ∧ Aside0 (spec_HoldsIn.j0 kq l1 a2 x17_3 a0_0 a0_1 l0_2 l0_3 = some (r1, r2)) ∧ Aside0 (kq ≤ k) ∧ Aside0 (wc.heap[gb443]? = some (.cells #[.int .i64 a0_0, .int .i64 a0_1, (.slice A0_2 l0_2.length c0_2), (.slice A0_3 l0_3.length c0_3)] 33 (0, 0))) ∧ Aside0 (Below w.heap.size w wc))
 case first =>
  have H := HC4.out
  clear HC4
  obtain ⟨t444, A60, H⟩ := Sh.bd H
  have A6 := am_ A60
  clear A60
  by_cases c7 : t444 = true
  ·subst c7
   rw [if_pos rfl] at H
   obtain ⟨t445, A80, H⟩ := Sh.bd H
   have A8 := am_ A80
   clear A80
   have H' := am_ H
   clear H
   have hcz9_0 := Sh.bc BK443.out 0
   have hcz9_1 := Sh.bc BK443.out 1
   have hcz9_2 := Sh.bc BK443.out 2
   have hcz9_3 := Sh.bc BK443.out 3
   have hfz9_0 := blk_frozen BK443.out 0
   have hfz9_1 := blk_frozen BK443.out 1
   have hfz9_2 := blk_frozen BK443.out 2
   have hfz9_3 := blk_frozen BK443.out 3
   go_wp2_with (first | ((with_reducible refine gate_callee (f := 51) rfl ?_); refine Sh.gL (some 10) Try.func51 #[.agg #[.int .i64 a0_0, .int .i64 a0_1, .slice A0_2 l0_2.length c0_2, .slice A0_3 l0_3.length c0_3], .int .i64 a2] (h := ?_); (with_reducible refine (spec_l8Is.calls k a0_0 a0_1 _ _ l0_2 _ _ l0_3 a2 true _ (Sh.cB HR0_2.out) HC0_2.out (Sh.cB HR0_3.out) HC0_3.out A6.out).mono ?_); rintro e w10 ⟨rfl, hb⟩; refine ⟨_, rfl, ?_⟩; replace BK443 := am_ (Sh.bb BK443.out hb); replace HB := am_ (below_step Sh.bw hb); (try clear hb); (try clear hb2); (try clear hk); (try clear hi); obtain ⟨hcz11_0, hcz11_1, hcz11_2, hcz11_3, hfz11_0, hfz11_1, hfz11_2, hfz11_3⟩ := Sh.b4 BK443.out) | (go_at_call 52; (with_reducible refine (spec_l7Asks.calls k a0_0 a0_1 _ _ l0_2 _ _ l0_3 _ _ l1 t445 _ (Sh.cB HR0_2.out) HC0_2.out (Sh.cB HR0_3.out) HC0_3.out (Sh.cB HR1.out) HC1.out A8.out).mono ?_); rintro e w12 ⟨rfl, hb⟩; replace BK443 := am_ (Sh.bb BK443.out hb); replace HB := am_ (below_step Sh.bw hb); (try clear hb); (try clear hb2); (try clear hk); (try clear hi)))
   go_meet
   case rel => exact ⟨_, (!t445), (Sh.es), H', ⟨Sh.om⟩, ⟨by (with_reducible repeat (first | refine blk_drewN ?_ _ | refine blk_drew ?_ | refine blk_alloc ?_ _)); exact BK443.out⟩, ⟨Sh.bw⟩⟩
  ·replace c7 := Bool.eq_false_iff.mpr c7
   subst c7
   rw [Sh.nf] at H
   have H' := am_ H
   clear H
   have hcz13_0 := Sh.bc BK443.out 0
   have hcz13_1 := Sh.bc BK443.out 1
   have hcz13_2 := Sh.bc BK443.out 2
   have hcz13_3 := Sh.bc BK443.out 3
   have hfz13_0 := blk_frozen BK443.out 0
   have hfz13_1 := blk_frozen BK443.out 1
   have hfz13_2 := blk_frozen BK443.out 2
   have hfz13_3 := blk_frozen BK443.out 3
   go_wp2_with (first | ((with_reducible refine gate_callee (f := 51) rfl ?_); refine Sh.gL (some 10) Try.func51 #[.agg #[.int .i64 a0_0, .int .i64 a0_1, .slice A0_2 l0_2.length c0_2, .slice A0_3 l0_3.length c0_3], .int .i64 a2] (h := ?_); (with_reducible refine (spec_l8Is.calls k a0_0 a0_1 _ _ l0_2 _ _ l0_3 a2 false _ (Sh.cB HR0_2.out) HC0_2.out (Sh.cB HR0_3.out) HC0_3.out A6.out).mono ?_); rintro e w14 ⟨rfl, hb⟩; refine ⟨_, rfl, ?_⟩; replace BK443 := am_ (Sh.bb BK443.out hb); replace HB := am_ (below_step Sh.bw hb); (try clear hb); (try clear hb2); (try clear hk); (try clear hi)))
   go_meet
   case rel => exact ⟨_, (true), (Sh.es), H', ⟨Sh.om⟩, ⟨by (with_reducible repeat (first | refine blk_drewN ?_ _ | refine blk_drew ?_ | refine blk_alloc ?_ _)); exact BK443.out⟩, ⟨Sh.bw⟩⟩
 case rest =>
  clear HC4
  try clear c1
  try clear c2
  try clear p2
  try clear c5
  try clear c7
  try clear hcz11_0
  try clear hcz11_1
  try clear hcz11_2
  try clear hcz11_3
  try clear hcz13_0
  try clear hcz13_1
  try clear hcz13_2
  try clear hcz13_3
  try clear hcz9_0
  try clear hcz9_1
  try clear hcz9_2
  try clear hcz9_3
  try clear hfz11_0
  try clear hfz11_1
  try clear hfz11_2
  try clear hfz11_3
  try clear hfz13_0
  try clear hfz13_1
  try clear hfz13_2
  try clear hfz13_3
  try clear hfz9_0
  try clear hfz9_1
  try clear hfz9_2
  try clear hfz9_3
  obtain ⟨kq, x17_3, rfl, HA, HJ3, BK443, HB⟩ := hcut
  cases kq with
  | zero => exact absurd HA.out (by simp [spec_HoldsIn.j0])
  | succ kj3 =>
   have H := HA.out
   clear HA
   simp only [spec_HoldsIn.j0] at H
   by_cases c15 : x17_3 = true
   ·subst c15
    rw [if_pos rfl] at H
    simp only [Option.some.injEq, Prod.mk.injEq] at H
    obtain ⟨rfl, rfl⟩ := H
    go_wp2
    go_ret2
    exact ⟨Sh.eR, Sh.bw⟩
   ·replace c15 := Bool.eq_false_iff.mpr c15
    subst c15
    rw [Sh.nf] at H
    obtain ⟨t446, A160, H⟩ := Sh.bd H
    have A16 := am_ A160
    clear A160
    obtain ⟨t449, A170, H⟩ := Sh.bd H
    have A17 := am_ A170
    clear A170
    simp only [Option.some.injEq, Prod.mk.injEq] at H
    obtain ⟨rfl, rfl⟩ := H
    try go_wp2
    replace BK443 := am_ (blk_drew BK443.out)
    replace HB := am_ (below_drew1 HB.out)
    refine start_ (n := 8) (S := fun w' => w'.cell? ⟨gb443, 0, none⟩ = some (.int .i64 a0_0) ∧ w'.cell? ⟨gb443, 1, none⟩ = some (.int .i64 a0_1) ∧ w'.cell? ⟨gb443, 2, none⟩ = some (.slice A0_2 l0_2.length c0_2) ∧ w'.cell? ⟨gb443, 3, none⟩ = some (.slice A0_3 l0_3.length c0_3)) (ds := []) (Sh.nm 8 0) (by kernel_rfl) rfl rfl Sh.cs (fun hHeld => ?_); refine with_tabW spec_HoldsIn.tab3 spec_HoldsIn.bits3 (fun HT_ HW_ => ?_)
    generalize wc.drew = w18 at BK443 HB hHeld ⊢
    refine Sh.qA 1 ?_; refine Sh.qA 3 ?_; refine Sh.qT 0 hHeld ?_; refine Sh.qT 2 hHeld ?_
    refine Sh.oC 4 Try.func53 #[.agg #[.int .i64 a0_0, .int .i64 a0_1, .slice A0_2 l0_2.length c0_2, .slice A0_3 l0_3.length c0_3], .int .i64 a2] fun K hK => ?_
    with_reducible refine (spec_l7Of.calls kj3 a0_0 a0_1 _ _ l0_2 _ _ l0_3 a2 t446 _ ?side1 ?side2 ?side3 ?side4 A16.out).mono ?_
    (case side1 => repeat (first | exact (Kd.C_below HR0_2.out HB.out) | (with_reducible first | refine Kd.C_alloc ?_ _ | refine Kd.C_drewN ?_ _ | refine Kd.C_drew ?_)))
    (case side2 => exact HC0_2.out)
    (case side3 => repeat (first | exact (Kd.C_below HR0_3.out HB.out) | (with_reducible first | refine Kd.C_alloc ?_ _ | refine Kd.C_drewN ?_ _ | refine Kd.C_drew ?_)))
    (case side4 => exact HC0_3.out)
    rintro e w19 ⟨v447, rfl, ho0, hb⟩
    refine ⟨_, rfl, ?_⟩
    have HO448 := am_ (Kd.R_lower ho0 (below_size Sh.bw))
    replace BK443 := am_ (Sh.bb BK443.out hb)
    replace HB := am_ (below_step Sh.bw hb)
    (try clear hb)
    (try clear hb2)
    (try clear hk)
    (try clear hi)
    (try clear ho0)
    obtain ⟨Ao20, co20, eo20⟩ := Kd.R_slice HO448.out
    (first | subst eo20 | (injection eo20 with f1_ f2_ f3_; have f4_ := f1_.symm; have f5_ := f3_.symm; clear f1_ f2_ f3_; subst f4_; subst f5_))
    refine Sh.kN hK Sh.cs fun hHeld => ?_
    clear hK K
    refine Sh.oC 5 Try.func35 #[.agg #[.int .i64 a0_0, .int .i64 a0_1, .slice A0_2 l0_2.length c0_2, .slice A0_3 l0_3.length c0_3], .slice A1 l1.length c1, .slice Ao20 t446.length co20] fun K hK => ?_
    with_reducible refine (spec_l7Holds.calls kj3 a0_0 a0_1 _ _ l0_2 _ _ l0_3 _ _ l1 _ _ t446 t449 _ ?side1 ?side2 ?side3 ?side4 ?side5 ?side6 ?side7 ?side8 A17.out).mono ?_
    (case side1 => repeat (first | exact (Kd.C_below HR0_2.out HB.out) | (with_reducible first | refine Kd.C_alloc ?_ _ | refine Kd.C_drewN ?_ _ | refine Kd.C_drew ?_)))
    (case side2 => exact HC0_2.out)
    (case side3 => repeat (first | exact (Kd.C_below HR0_3.out HB.out) | (with_reducible first | refine Kd.C_alloc ?_ _ | refine Kd.C_drewN ?_ _ | refine Kd.C_drew ?_)))
    (case side4 => exact HC0_3.out)
    (case side5 => repeat (first | exact (Kd.C_below HR1.out HB.out) | (with_reducible first | refine Kd.C_alloc ?_ _ | refine Kd.C_drewN ?_ _ | refine Kd.C_drew ?_)))
    (case side6 => exact HC1.out)
    (case side7 => repeat (first | exact (Kd.R_reads' HO448.out).2.2 | (with_reducible first | refine Kd.C_alloc ?_ _ | refine Kd.C_drewN ?_ _ | refine Kd.C_drew ?_)))
    (case side8 => exact (Kd.R_reads' HO448.out).2.1)
    rintro e w21 ⟨rfl, hb⟩
    refine ⟨_, rfl, ?_⟩
    replace HO448 := am_ (Kd.R_below (by (with_reducible repeat (first | apply Kd.R_alloc | apply Kd.R_drewN | apply Kd.R_drew)); exact HO448.out) hb)
    replace BK443 := am_ (Sh.bb BK443.out hb)
    replace HB := am_ (below_step Sh.bw hb)
    (try clear hb)
    (try clear hb2)
    (try clear hk)
    (try clear hi)
    refine Sh.kN hK Sh.cs fun hHeld => ?_
    clear hK K
    refine Sh.qA 6 ?_; refine Sh.qA 7 ?_
    refine done_ (done_of HT_.out (by kernel_rfl)) ?_
    try go_wp2
    go_ret2
    exact ⟨Sh.eR, Sh.bw⟩
def impl_isSmall.f (k : Nat) (a0_0 : Int) (a0_1 : Int) (l0_2 : List (S80)) (l0_3 : List (S71)) : Option (Bool) := (impl_GoodProgram.f k a0_0 a0_1 l0_2 l0_3).bind fun t451 => (if t451 = true then (some (decide ((wrap64 (a0_0 * a0_1)) ≤ 5))) else (some false))
theorem impl_isSmall.mono : ∀ a0 a1 a2 a3 k, LeO (impl_isSmall.f k a0 a1 a2 a3) (impl_isSmall.f (k + 1) a0 a1 a2 a3) := by
 intro a0 a1 a2 a3 k
 unfold impl_isSmall.f
 repeat' with_reducible first | apply impl_GoodProgram.mono | exact LeO.refl _ | exact LeO.none _ | apply LeO.ite | refine LeO.bind ?_ fun _ => ?_
set_option maxHeartbeats 8000000 in
set_option maxRecDepth 100000 in
theorem impl_isSmall.calls (k : Nat) (a0_0 : Int) (a0_1 : Int) (A0_2 : Option Addr) (c0_2 : Nat) (l0_2 : List (S80)) (A0_3 : Option Addr) (c0_3 : Nat) (l0_3 : List (S71)) (r : Bool) (w : World) (hr0_2 : Kd.C k80 w A0_2 l0_2.length l0_2) (hc0_2 : l0_2.length ≤ c0_2) (hr0_3 : Kd.C k71 w A0_3 l0_3.length l0_3) (hc0_3 : l0_3.length ≤ c0_3) (h : impl_isSmall.f k a0_0 a0_1 l0_2 l0_3 = some r) :
  Calls Try.prog 42 #[.agg #[.int .i64 a0_0, .int .i64 a0_1, .slice A0_2 l0_2.length c0_2, .slice A0_3 l0_3.length c0_3]] w fun e w' => e = .returned (.bool r) ∧ Below w.heap.size w w' := by
 have hu33 := Try.underlying33
 have HR0_2 := am_ hr0_2
 have HC0_2 := am_ hc0_2
 clear hr0_2 hc0_2
 have HR0_3 := am_ hr0_3
 have HC0_3 := am_ hc0_3
 clear hr0_3 hc0_3
 have HB := am_ (Below.refl w.heap.size w)
 have H := h
 clear h
 unfold impl_isSmall.f at H
 obtain ⟨t451, A20, H⟩ := Sh.bd H
 have A2 := am_ A20
 clear A20
 by_cases c3 : t451 = true
 ·subst c3
  rw [if_pos rfl] at H
  obtain rfl := Option.some.inj H
  go_enter Try.func42, Try.ntmps42
  go_wp2_with (first | ((with_reducible refine gate_dst (N := 1) rfl ?_); refine Sh.bx (N := 1) (cs := #[.int .i64 a0_0, .int .i64 a0_1, .slice A0_2 l0_2.length c0_2, .slice A0_3 l0_3.length c0_3]) (t := 33) (h := ?_); intro gb450 hg w4 hbox hb; have BK450 := am_ hbox; have GW450 := am_ (Sh.gw (w := w) hg); have GE450 := am_ (Sh.gw (w := w) hg); replace HB := am_ (below_step Sh.bw hb); clear hb hbox hg; obtain ⟨hcz5_0, hcz5_1, hcz5_2, hcz5_3, hfz5_0, hfz5_1, hfz5_2, hfz5_3⟩ := Sh.b4 BK450.out) | ((with_reducible refine gate_callee (f := 65) rfl ?_); refine Sh.gL (some 4) Try.func65 #[.agg #[.int .i64 a0_0, .int .i64 a0_1, .slice A0_2 l0_2.length c0_2, .slice A0_3 l0_3.length c0_3]] (h := ?_); (with_reducible refine (impl_GoodProgram.calls k a0_0 a0_1 _ _ l0_2 _ _ l0_3 true _ (Sh.cB HR0_2.out) HC0_2.out (Sh.cB HR0_3.out) HC0_3.out A2.out).mono ?_); rintro e w6 ⟨rfl, hb⟩; refine ⟨_, rfl, ?_⟩; replace BK450 := am_ (Sh.bb BK450.out hb); replace HB := am_ (below_step Sh.bw hb); (try clear hb); (try clear hb2); (try clear hk); (try clear hi); obtain ⟨hcz7_0, hcz7_1, hcz7_2, hcz7_3, hfz7_0, hfz7_1, hfz7_2, hfz7_3⟩ := Sh.b4 BK450.out))
  go_ret
  exact ⟨Sh.eR, Sh.bw⟩
 ·replace c3 := Bool.eq_false_iff.mpr c3
  subst c3
  rw [Sh.nf] at H
  obtain rfl := Option.some.inj H
  go_enter Try.func42, Try.ntmps42
  go_wp2_with (first | ((with_reducible refine gate_dst (N := 1) rfl ?_); refine Sh.bx (N := 1) (cs := #[.int .i64 a0_0, .int .i64 a0_1, .slice A0_2 l0_2.length c0_2, .slice A0_3 l0_3.length c0_3]) (t := 33) (h := ?_); intro gb450 hg w8 hbox hb; have BK450 := am_ hbox; have GW450 := am_ (Sh.gw (w := w) hg); have GE450 := am_ (Sh.gw (w := w) hg); replace HB := am_ (below_step Sh.bw hb); clear hb hbox hg; obtain ⟨hcz9_0, hcz9_1, hcz9_2, hcz9_3, hfz9_0, hfz9_1, hfz9_2, hfz9_3⟩ := Sh.b4 BK450.out) | ((with_reducible refine gate_callee (f := 65) rfl ?_); refine Sh.gL (some 4) Try.func65 #[.agg #[.int .i64 a0_0, .int .i64 a0_1, .slice A0_2 l0_2.length c0_2, .slice A0_3 l0_3.length c0_3]] (h := ?_); (with_reducible refine (impl_GoodProgram.calls k a0_0 a0_1 _ _ l0_2 _ _ l0_3 false _ (Sh.cB HR0_2.out) HC0_2.out (Sh.cB HR0_3.out) HC0_3.out A2.out).mono ?_); rintro e w10 ⟨rfl, hb⟩; refine ⟨_, rfl, ?_⟩; replace BK450 := am_ (Sh.bb BK450.out hb); replace HB := am_ (below_step Sh.bw hb); (try clear hb); (try clear hb2); (try clear hk); (try clear hi)))
  go_ret
  exact ⟨Sh.eR, Sh.bw⟩
def impl_Program_states.f (a0_0 : Int) (a0_1 : Int) (l0_2 : List (S80)) (l0_3 : List (S71)) : Option (Int) := if 0 ≤ (wrap64 (a0_0 * a0_1)) then (some (shl .i64 1 (wrap64 (a0_0 * a0_1)))) else (none)
set_option maxHeartbeats 8000000 in
set_option maxRecDepth 100000 in
theorem impl_Program_states.calls (a0_0 : Int) (a0_1 : Int) (A0_2 : Option Addr) (c0_2 : Nat) (l0_2 : List (S80)) (A0_3 : Option Addr) (c0_3 : Nat) (l0_3 : List (S71)) (r : Int) (w : World) (hr0_2 : Kd.C k80 w A0_2 l0_2.length l0_2) (hc0_2 : l0_2.length ≤ c0_2) (hr0_3 : Kd.C k71 w A0_3 l0_3.length l0_3) (hc0_3 : l0_3.length ≤ c0_3) (h : impl_Program_states.f a0_0 a0_1 l0_2 l0_3 = some r) :
  Calls Try.prog 70 #[.agg #[.int .i64 a0_0, .int .i64 a0_1, .slice A0_2 l0_2.length c0_2, .slice A0_3 l0_3.length c0_3]] w fun e w' => e = .returned (.int .i64 r) ∧ Below w.heap.size w w' := by
 have hu33 := Try.underlying33
 have HR0_2 := am_ hr0_2
 have HC0_2 := am_ hc0_2
 clear hr0_2 hc0_2
 have HR0_3 := am_ hr0_3
 have HC0_3 := am_ hc0_3
 clear hr0_3 hc0_3
 have HB := am_ (Below.refl w.heap.size w)
 have H := h
 clear h
 unfold impl_Program_states.f at H
 obtain ⟨ji2, hj1⟩ : ∃ j_ : Int, (wrap64 (a0_0 * a0_1)) = j_ := ⟨_, rfl⟩
 replace H : (if 0 ≤ (ji2) then (some (shl .i64 1 (ji2))) else (none)) = some r := by first | (rw [hj1] at H; exact H) | (simp only [hj1] at H ⊢; exact H)
 have hji2w : (IntKind.i64.wrap (a0_0 * a0_1)) = ji2 := (i64_w _).trans hj1
 by_cases c3 : 0 ≤ (ji2)
 ·rw [if_pos c3] at H
  have c3b0 := eq_true c3
  have c3b1 : decide (0 ≤ (ji2)) = true := decide_eq_true c3
  clear c3
  obtain ⟨ji4, hj2⟩ : ∃ j_ : Int, (shl .i64 1 (ji2)) = j_ := ⟨_, rfl⟩
  replace H : (some ji4) = some r := by first | (rw [hj2] at H; exact H) | (simp only [hj2] at H ⊢; exact H)
  have hji4_ : (IntKind.i64.wrap (1 * 2 ^ min (ji2).toNat 64)) = ji4 := hj2
  have hji4z : (ji2) ≤ 64 → (IntKind.i64.wrap (1 * 2 ^ (ji2).toNat)) = ji4 := shl_small hj2
  have hji4u : (IntKind.i64.wrap (2 ^ min (ji2).toNat 64)) = ji4 := by have h_ := hji4_; rw [Int.one_mul] at h_; exact h_
  have hji4v : (ji2) ≤ 64 → (IntKind.i64.wrap (2 ^ (ji2).toNat)) = ji4 := fun hle_ => by have h_ := hji4z hle_; rw [Int.one_mul] at h_; exact h_
  have hji4y : (wrap64 (1 * 2 ^ min (ji2).toNat 64)) = ji4 := (i64_w _).symm.trans hji4_
  have hji4x : (ji2) ≤ 64 → (wrap64 (1 * 2 ^ (ji2).toNat)) = ji4 := fun h_ => (i64_w _).symm.trans (hji4z h_)
  obtain rfl := Option.some.inj H
  go_enter Try.func70, Try.ntmps70
  go_wp2_with (first | ((with_reducible refine gate_dst (N := 1) rfl ?_); refine Sh.bx (N := 1) (cs := #[.int .i64 a0_0, .int .i64 a0_1, .slice A0_2 l0_2.length c0_2, .slice A0_3 l0_3.length c0_3]) (t := 33) (h := ?_); intro gb452 hg w5 hbox hb; have BK452 := am_ hbox; have GW452 := am_ (Sh.gw (w := w) hg); have GE452 := am_ (Sh.gw (w := w) hg); replace HB := am_ (below_step Sh.bw hb); clear hb hbox hg; obtain ⟨hcz6_0, hcz6_1, hcz6_2, hcz6_3, hfz6_0, hfz6_1, hfz6_2, hfz6_3⟩ := Sh.b4 BK452.out))
  go_ret
  exact ⟨by first | rfl | (simp [errW_none, errW_some] <;> rfl) | (simp only [← hj1, ← hj2]; first | rfl | (simp [errW_none, errW_some] <;> rfl)) | (simp [*, errW_none, errW_some] <;> rfl), Sh.bw⟩
 ·rw [if_neg c3] at H
  exact absurd H (by simp)
def impl_isNo.f (k : Nat) (a0_0 : Int) (a0_1 : Int) (l0_2 : List (S80)) (l0_3 : List (S71)) (a1 : Int) : Option (Bool) := (impl_isSmall.f k a0_0 a0_1 l0_2 l0_3).bind fun t454 => (if t454 = true then (if a1 ≥ 0 then ((impl_Program_states.f a0_0 a0_1 l0_2 l0_3).bind fun t455 => (some (decide (a1 < t455)))) else (some false)) else (some false))
theorem impl_isNo.mono : ∀ a0 a1 a2 a3 a4 k, LeO (impl_isNo.f k a0 a1 a2 a3 a4) (impl_isNo.f (k + 1) a0 a1 a2 a3 a4) := by
 intro a0 a1 a2 a3 a4 k
 unfold impl_isNo.f
 repeat' with_reducible first | apply impl_isSmall.mono | exact LeO.refl _ | exact LeO.none _ | apply LeO.ite | refine LeO.bind ?_ fun _ => ?_
set_option maxHeartbeats 8000000 in
set_option maxRecDepth 100000 in
theorem impl_isNo.calls (k : Nat) (a0_0 : Int) (a0_1 : Int) (A0_2 : Option Addr) (c0_2 : Nat) (l0_2 : List (S80)) (A0_3 : Option Addr) (c0_3 : Nat) (l0_3 : List (S71)) (a1 : Int) (r : Bool) (w : World) (hr0_2 : Kd.C k80 w A0_2 l0_2.length l0_2) (hc0_2 : l0_2.length ≤ c0_2) (hr0_3 : Kd.C k71 w A0_3 l0_3.length l0_3) (hc0_3 : l0_3.length ≤ c0_3) (h : impl_isNo.f k a0_0 a0_1 l0_2 l0_3 a1 = some r) :
  Calls Try.prog 55 #[.agg #[.int .i64 a0_0, .int .i64 a0_1, .slice A0_2 l0_2.length c0_2, .slice A0_3 l0_3.length c0_3], .int .i64 a1] w fun e w' => e = .returned (.bool r) ∧ Below w.heap.size w w' := by
 have hu33 := Try.underlying33
 have HR0_2 := am_ hr0_2
 have HC0_2 := am_ hc0_2
 clear hr0_2 hc0_2
 have HR0_3 := am_ hr0_3
 have HC0_3 := am_ hc0_3
 clear hr0_3 hc0_3
 have HB := am_ (Below.refl w.heap.size w)
 have H := h
 clear h
 unfold impl_isNo.f at H
 obtain ⟨t454, A30, H⟩ := Sh.bd H
 have A3 := am_ A30
 clear A30
 by_cases c4 : t454 = true
 ·subst c4
  rw [if_pos rfl] at H
  by_cases c5 : a1 ≥ 0
  ·rw [if_pos c5] at H
   have c5b0 : decide (0 ≤ a1) = true := decide_eq_true c5
   clear c5
   obtain ⟨t455, A60, H⟩ := Sh.bd H
   have A6 := am_ A60
   clear A60
   obtain rfl := Option.some.inj H
   go_enter Try.func55, Try.ntmps55
   go_wp2_with (first | ((with_reducible refine gate_dst (N := 2) rfl ?_); refine Sh.bx (N := 2) (cs := #[.int .i64 a0_0, .int .i64 a0_1, .slice A0_2 l0_2.length c0_2, .slice A0_3 l0_3.length c0_3]) (t := 33) (h := ?_); intro gb453 hg w7 hbox hb; have BK453 := am_ hbox; have GW453 := am_ (Sh.gw (w := w) hg); have GE453 := am_ (Sh.gw (w := w) hg); replace HB := am_ (below_step Sh.bw hb); clear hb hbox hg; obtain ⟨hcz8_0, hcz8_1, hcz8_2, hcz8_3, hfz8_0, hfz8_1, hfz8_2, hfz8_3⟩ := Sh.b4 BK453.out) | ((with_reducible refine gate_callee (f := 42) rfl ?_); refine Sh.gL (some 6) Try.func42 #[.agg #[.int .i64 a0_0, .int .i64 a0_1, .slice A0_2 l0_2.length c0_2, .slice A0_3 l0_3.length c0_3]] (h := ?_); (with_reducible refine (impl_isSmall.calls k a0_0 a0_1 _ _ l0_2 _ _ l0_3 true _ (Sh.cB HR0_2.out) HC0_2.out (Sh.cB HR0_3.out) HC0_3.out A3.out).mono ?_); rintro e w9 ⟨rfl, hb⟩; refine ⟨_, rfl, ?_⟩; replace BK453 := am_ (Sh.bb BK453.out hb); replace HB := am_ (below_step Sh.bw hb); (try clear hb); (try clear hb2); (try clear hk); (try clear hi); obtain ⟨hcz10_0, hcz10_1, hcz10_2, hcz10_3, hfz10_0, hfz10_1, hfz10_2, hfz10_3⟩ := Sh.b4 BK453.out) | (go_at_call 70; (with_reducible refine (impl_Program_states.calls a0_0 a0_1 _ _ l0_2 _ _ l0_3 t455 _ (Sh.cB HR0_2.out) HC0_2.out (Sh.cB HR0_3.out) HC0_3.out A6.out).mono ?_); rintro e w11 ⟨rfl, hb⟩; replace BK453 := am_ (Sh.bb BK453.out hb); replace HB := am_ (below_step Sh.bw hb); (try clear hb); (try clear hb2); (try clear hk); (try clear hi)))
   go_ret
   exact ⟨Sh.eR, Sh.bw⟩
  ·rw [if_neg c5] at H
   have c5b0 : decide (0 ≤ a1) = false := decide_eq_false c5
   clear c5
   obtain rfl := Option.some.inj H
   go_enter Try.func55, Try.ntmps55
   go_wp2_with (first | ((with_reducible refine gate_dst (N := 2) rfl ?_); refine Sh.bx (N := 2) (cs := #[.int .i64 a0_0, .int .i64 a0_1, .slice A0_2 l0_2.length c0_2, .slice A0_3 l0_3.length c0_3]) (t := 33) (h := ?_); intro gb453 hg w12 hbox hb; have BK453 := am_ hbox; have GW453 := am_ (Sh.gw (w := w) hg); have GE453 := am_ (Sh.gw (w := w) hg); replace HB := am_ (below_step Sh.bw hb); clear hb hbox hg; obtain ⟨hcz13_0, hcz13_1, hcz13_2, hcz13_3, hfz13_0, hfz13_1, hfz13_2, hfz13_3⟩ := Sh.b4 BK453.out) | ((with_reducible refine gate_callee (f := 42) rfl ?_); refine Sh.gL (some 6) Try.func42 #[.agg #[.int .i64 a0_0, .int .i64 a0_1, .slice A0_2 l0_2.length c0_2, .slice A0_3 l0_3.length c0_3]] (h := ?_); (with_reducible refine (impl_isSmall.calls k a0_0 a0_1 _ _ l0_2 _ _ l0_3 true _ (Sh.cB HR0_2.out) HC0_2.out (Sh.cB HR0_3.out) HC0_3.out A3.out).mono ?_); rintro e w14 ⟨rfl, hb⟩; refine ⟨_, rfl, ?_⟩; replace BK453 := am_ (Sh.bb BK453.out hb); replace HB := am_ (below_step Sh.bw hb); (try clear hb); (try clear hb2); (try clear hk); (try clear hi)))
   go_ret
   exact ⟨Sh.eR, Sh.bw⟩
 ·replace c4 := Bool.eq_false_iff.mpr c4
  subst c4
  rw [Sh.nf] at H
  obtain rfl := Option.some.inj H
  go_enter Try.func55, Try.ntmps55
  go_wp2_with (first | ((with_reducible refine gate_dst (N := 2) rfl ?_); refine Sh.bx (N := 2) (cs := #[.int .i64 a0_0, .int .i64 a0_1, .slice A0_2 l0_2.length c0_2, .slice A0_3 l0_3.length c0_3]) (t := 33) (h := ?_); intro gb453 hg w15 hbox hb; have BK453 := am_ hbox; have GW453 := am_ (Sh.gw (w := w) hg); have GE453 := am_ (Sh.gw (w := w) hg); replace HB := am_ (below_step Sh.bw hb); clear hb hbox hg; obtain ⟨hcz16_0, hcz16_1, hcz16_2, hcz16_3, hfz16_0, hfz16_1, hfz16_2, hfz16_3⟩ := Sh.b4 BK453.out) | ((with_reducible refine gate_callee (f := 42) rfl ?_); refine Sh.gL (some 6) Try.func42 #[.agg #[.int .i64 a0_0, .int .i64 a0_1, .slice A0_2 l0_2.length c0_2, .slice A0_3 l0_3.length c0_3]] (h := ?_); (with_reducible refine (impl_isSmall.calls k a0_0 a0_1 _ _ l0_2 _ _ l0_3 false _ (Sh.cB HR0_2.out) HC0_2.out (Sh.cB HR0_3.out) HC0_3.out A3.out).mono ?_); rintro e w17 ⟨rfl, hb⟩; refine ⟨_, rfl, ?_⟩; replace BK453 := am_ (Sh.bb BK453.out hb); replace HB := am_ (below_step Sh.bw hb); (try clear hb); (try clear hb2); (try clear hk); (try clear hi)))
  go_ret
  exact ⟨Sh.eR, Sh.bw⟩
def impl_Program_stateOf.l0 : Nat → Int → List Int → Int → Int → Int → Int → List (S80) → List (S71) → Option (List Int)
 | 0, _, _, _, _, _, _, _, _ => none
 | k + 1, x1, x5, x9, x10, x457000, x457001, x457002, x457003 => if x10 < x9 then (if 0 ≤ (wrap64 (x457000 * x10)) then ((impl_mask.f x457000).bind fun t460 => (if x5.length < 17592186044416 then (impl_Program_stateOf.l0 k x1 (x5 ++ [Go.bits .and .u64 (shr .u64 (IntKind.u64.wrap (x1)) (wrap64 (x457000 * x10))) t460]) x9 (wrap64 (x10 + 1)) x457000 x457001 x457002 x457003) else (none))) else (none)) else (some x5)
def impl_Program_stateOf.f (k : Nat) (a0_0 : Int) (a0_1 : Int) (l0_2 : List (S80)) (l0_3 : List (S71)) (a1 : Int) : Option (List Int) := impl_Program_stateOf.l0 k a1 (([] : List Int)) a0_1 0 a0_0 a0_1 l0_2 l0_3
theorem impl_Program_stateOf.mono_l : ∀ k, (∀ y0 y1 y2 y3 y4 y5 y6 y7, LeO (impl_Program_stateOf.l0 k y0 y1 y2 y3 y4 y5 y6 y7) (impl_Program_stateOf.l0 (k + 1) y0 y1 y2 y3 y4 y5 y6 y7))
 | 0 => fun _ _ _ _ _ _ _ _ r h => by simp [impl_Program_stateOf.l0] at h
 | k + 1 => by
  have ih0 := impl_Program_stateOf.mono_l k
  ·intro y0 y1 y2 y3 y4 y5 y6 y7
   unfold impl_Program_stateOf.l0
   repeat' with_reducible first | apply ih0 | exact LeO.refl _ | exact LeO.none _ | apply LeO.ite | refine LeO.bind ?_ fun _ => ?_
theorem impl_Program_stateOf.mono : ∀ a0 a1 a2 a3 a4 k, LeO (impl_Program_stateOf.f k a0 a1 a2 a3 a4) (impl_Program_stateOf.f (k + 1) a0 a1 a2 a3 a4) := by
 intro a0 a1 a2 a3 a4 k
 have ih0 := impl_Program_stateOf.mono_l k
 unfold impl_Program_stateOf.f
 repeat' with_reducible first | apply ih0 | exact LeO.refl _ | exact LeO.none _ | apply LeO.ite | refine LeO.bind ?_ fun _ => ?_
def impl_Program_stateOf.T5 : Bool × List (List Nat × List Nat) := (true, [([], []), ([], []), ([1], [1]), ([], []), ([3], [3]), ([], []), ([4, 5], [4, 5]), ([2, 6], [2, 6]), ([], []), ([8], [8]), ([9], [9]), ([7, 10], [7, 10]), ([11], [11]), ([0, 12, 10], [0, 12]), ([13, 13, 0, 1, 2, 3, 4, 5, 6, 7, 8, 9, 10, 11, 12, 13], [0, 13])])
def impl_Program_stateOf.B5 : List Nat := [0, 0, 2, 0, 8, 0, 56, 126, 0, 256, 768, 2046, 4094, 8191, 16383]
theorem impl_Program_stateOf.tab5 : rtab .any (opsOf Try.f57 5) = impl_Program_stateOf.T5 := by kernel_rfl
theorem impl_Program_stateOf.bits5 : waitsOk impl_Program_stateOf.T5.2 impl_Program_stateOf.B5 = true := by kernel_rfl
set_option maxHeartbeats 8000000 in
set_option maxRecDepth 100000 in
theorem impl_Program_stateOf.calls (k : Nat) (a0_0 : Int) (a0_1 : Int) (A0_2 : Option Addr) (c0_2 : Nat) (l0_2 : List (S80)) (A0_3 : Option Addr) (c0_3 : Nat) (l0_3 : List (S71)) (a1 : Int) (r : List Int) (w : World) (hr0_2 : Kd.C k80 w A0_2 l0_2.length l0_2) (hc0_2 : l0_2.length ≤ c0_2) (hr0_3 : Kd.C k71 w A0_3 l0_3.length l0_3) (hc0_3 : l0_3.length ≤ c0_3) (h : impl_Program_stateOf.f k a0_0 a0_1 l0_2 l0_3 a1 = some r) :
  Calls Try.prog 57 #[.agg #[.int .i64 a0_0, .int .i64 a0_1, .slice A0_2 l0_2.length c0_2, .slice A0_3 l0_3.length c0_3], .int .i64 a1] w fun e w' => ∃ v0_ : Value, e = .returned (v0_) ∧ Kd.R (Kd.int .u64) 61 w' w.heap.size (fun _ => True) v0_ r ∧ Below w.heap.size w w' := by
 have hu33 := Try.underlying33
 have HR0_2 := am_ hr0_2
 have HC0_2 := am_ hc0_2
 clear hr0_2 hc0_2
 have HR0_3 := am_ hr0_3
 have HC0_3 := am_ hc0_3
 clear hr0_3 hc0_3
 have HB := am_ (Below.refl w.heap.size w)
 have H := h
 clear h
 unfold impl_Program_stateOf.f at H
 obtain ⟨y457, hy457⟩ : ∃ y_ : List Int, y_ = (([] : List Int)) := ⟨_, rfl⟩
 replace H : (impl_Program_stateOf.l0 k a1 y457 a0_1 0 a0_0 a0_1 l0_2 l0_3) = some r := by first | (rw [hy457]; with_reducible exact H) | (have H2_ := (Option.bind_some _ _).symm.trans H; rw [hy457]; with_reducible exact H2_) | (have H2_ := (Option.bind_some _ _).symm.trans H; with_reducible exact H2_) | with_reducible exact H | (rw [hy457]; exact H) | exact H
 have Ny457 := am_ hy457
 clear hy457
 have H' := am_ H
 clear H
 go_enter Try.func57, Try.ntmps57
 go_wp2_with (first | ((with_reducible refine gate_dst (N := 2) rfl ?_); refine Sh.bx (N := 2) (cs := #[.int .i64 a0_0, .int .i64 a0_1, .slice A0_2 l0_2.length c0_2, .slice A0_3 l0_3.length c0_3]) (t := 33) (h := ?_); intro gb456 hg w3 hbox hb; have BK456 := am_ hbox; have GW456 := am_ (Sh.gw (w := w) hg); have GE456 := am_ (Sh.gw (w := w) hg); replace HB := am_ (below_step Sh.bw hb); clear hb hbox hg) | ((with_reducible refine gate_dst (N := 7) rfl ?_); refine Kd.R_lit (Kd.int .u64) _ 61 ?hg (N := 7) ?hd (xs := ([] : List Int)) (inner := []) (ok := fun _ => True) (okp := fun _ => True) ?hr ?hp (fun _ hk => hk) trivial (Below.refl _ _) (Nat.le_refl _) (by simp) ?_; (case hd => rfl); (case hg => rfl); (case hr => first | (go_simp; done) | (go_simp; rfl)); (case hp => exact (Reps.none _ _)); intro v458 w4 ho5 hb hg_ hnew_; clear hg_ hnew_; (first | rw [← Ny457.out] at ho5 | (simp only [Int.reduceToNat] at ho5; rw [← Ny457.out] at ho5)); have HO459 := am_ (Kd.R_lower ho5 (below_size Sh.bw)); replace BK456 := am_ (Sh.bb BK456.out hb); replace HB := am_ (below_step Sh.bw hb); clear hb ho5; obtain ⟨hcz6_0, hcz6_1, hcz6_2, hcz6_3, hfz6_0, hfz6_1, hfz6_2, hfz6_3⟩ := Sh.b4 BK456.out))
 go_loopg [5, 10] k (fun kq v5 v10 w' => ∃ (x5_1 : List Int) (x10_1 : Int), v10 = .int .i64 x10_1 ∧ Aside0 (impl_Program_stateOf.l0 kq a1 x5_1 a0_1 x10_1 a0_0 a0_1 l0_2 l0_3 = some r) ∧ Aside0 (kq ≤ k) ∧ Aside0 (Kd.R (Kd.int .u64) 61 w' w.heap.size (fun _ => True) v5 x5_1) ∧ Aside0 (w'.heap[gb456]? = some (.cells #[.int .i64 a0_0, .int .i64 a0_1, (.slice A0_2 l0_2.length c0_2), (.slice A0_3 l0_3.length c0_3)] 33 (0, 0))) ∧ Aside0 (Below w.heap.size w w'))
 case atStart => exact ⟨(y457), (0), (Sh.es), H', ⟨Nat.le_refl _⟩, ⟨by (with_reducible repeat (first | apply Kd.R_alloc | apply Kd.R_drewN | apply Kd.R_drew)); exact HO459.out⟩, ⟨by (with_reducible repeat (first | refine blk_drewN ?_ _ | refine blk_drew ?_ | refine blk_alloc ?_ _)); exact BK456.out⟩, ⟨Sh.bw⟩⟩
 case round =>
  clear H'
  try clear p2
  try clear c5
  try clear hcz6_0
  try clear hcz6_1
  try clear hcz6_2
  try clear hcz6_3
  try clear hfz6_0
  try clear hfz6_1
  try clear hfz6_2
  try clear hfz6_3
  obtain ⟨x5_1, x10_1, rfl, HA, HK1, HO_5, BK456, HB⟩ := hrel
  cases gk with
  | zero => exact absurd HA.out (by simp [impl_Program_stateOf.l0])
  | succ k1 =>
   have H := HA.out
   clear HA
   simp only [impl_Program_stateOf.l0] at H
   by_cases c7 : x10_1 < a0_1
   ·rw [if_pos c7] at H
    have c7b0 : decide (x10_1 < a0_1) = true := decide_eq_true c7
    clear c7
    obtain ⟨ji8, hj1⟩ : ∃ j_ : Int, (wrap64 (a0_0 * x10_1)) = j_ := ⟨_, rfl⟩
    replace H : (if 0 ≤ (ji8) then ((impl_mask.f a0_0).bind fun t460 => (if x5_1.length < 17592186044416 then (impl_Program_stateOf.l0 k1 a1 (x5_1 ++ [Go.bits .and .u64 (shr .u64 (IntKind.u64.wrap (a1)) (ji8)) t460]) a0_1 (wrap64 (x10_1 + 1)) a0_0 a0_1 l0_2 l0_3) else (none))) else (none)) = some r := by first | (rw [hj1] at H; exact H) | (simp only [hj1] at H ⊢; exact H)
    have hji8w : (IntKind.i64.wrap (a0_0 * x10_1)) = ji8 := (i64_w _).trans hj1
    by_cases c9 : 0 ≤ (ji8)
    ·rw [if_pos c9] at H
     have c9b0 := eq_true c9
     have c9b1 : decide (0 ≤ (ji8)) = true := decide_eq_true c9
     clear c9
     obtain ⟨ji10, hj2⟩ : ∃ j_ : Int, (shr .u64 (IntKind.u64.wrap (a1)) (ji8)) = j_ := ⟨_, rfl⟩
     have hj3 := hj1; (try rw [hj2] at hj3)
     replace H : ((impl_mask.f a0_0).bind fun t460 => (if x5_1.length < 17592186044416 then (impl_Program_stateOf.l0 k1 a1 (x5_1 ++ [Go.bits .and .u64 (ji10) t460]) a0_1 (wrap64 (x10_1 + 1)) a0_0 a0_1 l0_2 l0_3) else (none))) = some r := by first | (rw [hj2] at H; exact H) | (simp only [hj2] at H ⊢; exact H)
     have hji10_ : ((IntKind.u64.wrap (a1)) / 2 ^ min (ji8).toNat 64) = ji10 := hj2
     have hji10z : (ji8) ≤ 64 → ((IntKind.u64.wrap (a1)) / 2 ^ (ji8).toNat) = ji10 := shr_small hj2
     obtain ⟨t460, A110, H⟩ := Sh.bd H
     have A11 := am_ A110
     clear A110
     by_cases c12 : x5_1.length < 17592186044416
     ·rw [if_pos c12] at H
      have LMc12 := am_ c12
      clear c12
      obtain ⟨y461, hy461⟩ : ∃ y_ : List Int, y_ = (x5_1 ++ [Go.bits .and .u64 (ji10) t460]) := ⟨_, rfl⟩
      replace H : (impl_Program_stateOf.l0 k1 a1 y461 a0_1 (wrap64 (x10_1 + 1)) a0_0 a0_1 l0_2 l0_3) = some r := by first | (rw [hy461]; with_reducible exact H) | (have H2_ := (Option.bind_some _ _).symm.trans H; rw [hy461]; with_reducible exact H2_) | (have H2_ := (Option.bind_some _ _).symm.trans H; with_reducible exact H2_) | with_reducible exact H | (rw [hy461]; exact H) | exact H
      have Ny461 := am_ hy461
      clear hy461
      have H' := am_ H
      clear H
      try go_wp2
      replace HO_5 := am_ (Kd.R_drew HO_5.out)
      replace BK456 := am_ (blk_drew BK456.out)
      replace HB := am_ (below_drew1 HB.out)
      refine start_ (n := 15) (S := fun w' => w'.cell? ⟨gb456, 0, none⟩ = some (.int .i64 a0_0) ∧ w'.cell? ⟨gb456, 1, none⟩ = some (.int .i64 a0_1) ∧ w'.cell? ⟨gb456, 2, none⟩ = some (.slice A0_2 l0_2.length c0_2) ∧ w'.cell? ⟨gb456, 3, none⟩ = some (.slice A0_3 l0_3.length c0_3)) (ds := []) (Sh.nm 15 0) (by kernel_rfl) rfl rfl Sh.cs (fun hHeld => ?_); refine with_tabW impl_Program_stateOf.tab5 impl_Program_stateOf.bits5 (fun HT_ HW_ => ?_)
      generalize wr.drew = w13 at HO_5 BK456 HB hHeld ⊢
      refine Sh.qA 0 ?_; refine Sh.qA 1 ?_; refine Sh.qA 2 ?_; refine Sh.qA 3 ?_; refine Sh.qA 5 ?_; refine Sh.qA 8 ?_; refine Sh.qT 4 hHeld ?_; refine Sh.qA 6 ?_; refine Sh.qA 7 ?_; refine Sh.qT 9 hHeld ?_
      refine Sh.oC 10 Try.func75 #[.int .i64 a0_0] fun K hK => ?_
      with_reducible refine (impl_mask.calls a0_0 t460 _ A11.out).mono ?_
      rintro e w' ⟨rfl, ⟨nd, rfl⟩⟩
      refine ⟨_, rfl, ?_⟩
      refine Sh.kN hK Sh.cs fun hHeld => ?_
      clear hK K
      refine Sh.qA 11 ?_
      refine one_ (i := 12) (N := some 25) (Sh.nm 15 8191) rfl rfl (one_of HT_.out (by kernel_rfl)) (by decide) (fun K hK => ?_)
      refine value_ (w1 := ?_) (v := ?_) (by rfl) rfl ?_ ?_
      rotate_left 2
      ·go_simp
       constructor
       ·rfl
       ·rfl
      refine Sh.kN hK ⟨(blk_cell (blk_alloc BK456.out _) 0).trans rfl, (blk_cell (blk_alloc BK456.out _) 1).trans rfl, (blk_cell (blk_alloc BK456.out _) 2).trans rfl, (blk_cell (blk_alloc BK456.out _) 3).trans rfl⟩ fun hHeld => ?_
      clear hK K
      refine one_ (i := 13) (N := some 26) (Sh.nm 15 16383) rfl rfl (one_of HT_.out (by kernel_rfl)) (by decide) (fun K hK => ?_)
      refine Kd.R_append_step (Kd.int .u64) (w0 := w) w.heap.size (by rfl) (.tmp 13) (.tmp 25) 26 61 (.int .u64 0) 8 rfl Try.underlying26 info61 rfl (by decide) (by omega) u5 x5_1 (Go.bits .and .u64 (ji10) t460) [.int .u64 (Go.bits .and .u64 (ji10) t460)] (fun _ => True) (fun _ => False) rfl rfl ?aP (fun _ hk => hk.elim) ?aF ?aO ?aB ?aS ?aL ?_
      (case aP => exact rfl)
      (case aB => exact Sh.bw)
      (case aF => exact (fun _ _ => trivial))
      (case aO => exact (by (with_reducible repeat (first | apply Kd.R_alloc | apply Kd.R_drewN | apply Kd.R_drew)); exact HO_5.out))
      (case aS => exact (below_size Sh.bw))
      (case aL => have := LMc12.out; omega)
      intro v462 w14 ho hb hg hat
      rw [← Ny461.out] at ho
      have n0_ := am_ (blk_grown (g := gb456) (o := .cells #[.int .i64 a0_0, .int .i64 a0_1, .slice A0_2 l0_2.length c0_2, .slice A0_3 l0_3.length c0_3] 33 (0, 0)) (by (with_reducible repeat (first | refine blk_drewN ?_ _ | refine blk_drew ?_ | refine blk_alloc ?_ _)); exact BK456.out) hg (Kd.R_ne HO_5.out BK456.out (by decide)))
      have n1_ := am_ hb
      have n2_ := am_ ho
      clear BK456
      clear HB
      clear HO_5
      have BK456 := n0_
      have HB := n1_
      have HO463 := n2_
      clear n0_ n1_ n2_
      clear ho hb hg hat
      refine Sh.kN hK Sh.cs fun hHeld => ?_
      clear hK K
      refine Sh.qA 14 ?_
      refine done_ (done_of HT_.out (by kernel_rfl)) ?_
      try go_wp2
      go_roundg k1
      case measure => have := HK1.out; omega
      case rel => exact ⟨(y461), (wrap64 (x10_1 + 1)), (Sh.es), H', ⟨by have := HK1.out; omega⟩, ⟨by (with_reducible repeat (first | apply Kd.R_alloc | apply Kd.R_drewN | apply Kd.R_drew)); exact HO463.out⟩, ⟨by (with_reducible repeat (first | refine blk_drewN ?_ _ | refine blk_drew ?_ | refine blk_alloc ?_ _)); exact BK456.out⟩, ⟨Sh.bw⟩⟩
     ·rw [if_neg c12] at H
      exact absurd H (by simp)
    ·rw [if_neg c9] at H
     exact absurd H (by simp)
   ·rw [if_neg c7] at H
    have c7b0 : decide (x10_1 < a0_1) = false := decide_eq_false c7
    clear c7
    obtain rfl := Option.some.inj H
    go_wp2
    go_ret
    exact ⟨_, Sh.eR, by (with_reducible repeat (first | apply Kd.R_alloc | apply Kd.R_drewN | apply Kd.R_drew)); exact HO_5.out, Sh.bw⟩
def impl_HoldsIn.j0 : Nat → List (S80) → Int → Bool → Int → Int → List (S80) → List (S71) → Option (Bool × Bool)
 | 0, _, _, _, _, _, _, _ => none
 | k + 1, x1, x2, x17, x465000, x465001, x465002, x465003 => if x17 = true then (some (false, false)) else ((impl_Program_stateOf.f k x465000 x465001 x465002 x465003 x2).bind fun t467 => ((impl_Program_holds.f k x465000 x465001 x465002 x465003 x1 t467).bind fun t470 => (some (t470, true))))
def impl_HoldsIn.f (k : Nat) (a0_0 : Int) (a0_1 : Int) (l0_2 : List (S80)) (l0_3 : List (S71)) (l1 : List (S80)) (a2 : Int) : Option (Bool × Bool) := (impl_isNo.f k a0_0 a0_1 l0_2 l0_3 a2).bind fun t465 => (if t465 = true then ((impl_Program_isCondition.f k a0_0 a0_1 l0_2 l0_3 l1).bind fun t466 => (impl_HoldsIn.j0 k l1 a2 (!t466) a0_0 a0_1 l0_2 l0_3)) else (impl_HoldsIn.j0 k l1 a2 true a0_0 a0_1 l0_2 l0_3))
theorem impl_HoldsIn.mono_l : ∀ k, (∀ y0 y1 y2 y3 y4 y5 y6, LeO (impl_HoldsIn.j0 k y0 y1 y2 y3 y4 y5 y6) (impl_HoldsIn.j0 (k + 1) y0 y1 y2 y3 y4 y5 y6))
 | 0 => fun _ _ _ _ _ _ _ r h => by simp [impl_HoldsIn.j0] at h
 | k + 1 => by
  have ih0 := impl_HoldsIn.mono_l k
  ·intro y0 y1 y2 y3 y4 y5 y6
   unfold impl_HoldsIn.j0
   repeat' with_reducible first | apply ih0 | apply impl_Program_holds.mono | apply impl_Program_isCondition.mono | apply impl_Program_stateOf.mono | apply impl_isNo.mono | exact LeO.refl _ | exact LeO.none _ | apply LeO.ite | refine LeO.bind ?_ fun _ => ?_
theorem impl_HoldsIn.mono : ∀ a0 a1 a2 a3 a4 a5 k, LeO (impl_HoldsIn.f k a0 a1 a2 a3 a4 a5) (impl_HoldsIn.f (k + 1) a0 a1 a2 a3 a4 a5) := by
 intro a0 a1 a2 a3 a4 a5 k
 have ih0 := impl_HoldsIn.mono_l k
 unfold impl_HoldsIn.f
 repeat' with_reducible first | apply ih0 | apply impl_Program_holds.mono | apply impl_Program_isCondition.mono | apply impl_Program_stateOf.mono | apply impl_isNo.mono | exact LeO.refl _ | exact LeO.none _ | apply LeO.ite | refine LeO.bind ?_ fun _ => ?_
def impl_HoldsIn.T3 : Bool × List (List Nat × List Nat) := (true, [([], []), ([], []), ([], []), ([], []), ([2, 3], [2, 3]), ([0, 1, 4, 4], [0, 1, 4]), ([5, 5, 0, 1, 2, 3, 4, 5], [5]), ([6, 0, 1, 2, 3, 4, 5, 6], [])])
def impl_HoldsIn.B3 : List Nat := [0, 0, 0, 0, 12, 31, 63, 127]
theorem impl_HoldsIn.tab3 : rtab .any (opsOf Try.f30 3) = impl_HoldsIn.T3 := by kernel_rfl
theorem impl_HoldsIn.bits3 : waitsOk impl_HoldsIn.T3.2 impl_HoldsIn.B3 = true := by kernel_rfl
set_option maxHeartbeats 8000000 in
set_option maxRecDepth 100000 in
theorem impl_HoldsIn.calls (k : Nat) (a0_0 : Int) (a0_1 : Int) (A0_2 : Option Addr) (c0_2 : Nat) (l0_2 : List (S80)) (A0_3 : Option Addr) (c0_3 : Nat) (l0_3 : List (S71)) (A1 : Option Addr) (c1 : Nat) (l1 : List (S80)) (a2 : Int) (r1 : Bool) (r2 : Bool) (w : World) (hr0_2 : Kd.C k80 w A0_2 l0_2.length l0_2) (hc0_2 : l0_2.length ≤ c0_2) (hr0_3 : Kd.C k71 w A0_3 l0_3.length l0_3) (hc0_3 : l0_3.length ≤ c0_3) (hr1 : Kd.C k80 w A1 l1.length l1) (hc1 : l1.length ≤ c1) (h : impl_HoldsIn.f k a0_0 a0_1 l0_2 l0_3 l1 a2 = some (r1, r2)) :
  Calls Try.prog 30 #[.agg #[.int .i64 a0_0, .int .i64 a0_1, .slice A0_2 l0_2.length c0_2, .slice A0_3 l0_3.length c0_3], .slice A1 l1.length c1, .int .i64 a2] w fun e w' => e = .returned (.tuple #[.bool r1, .bool r2]) ∧ Below w.heap.size w w' := by
 have hu33 := Try.underlying33
 have HR0_2 := am_ hr0_2
 have HC0_2 := am_ hc0_2
 clear hr0_2 hc0_2
 have HR0_3 := am_ hr0_3
 have HC0_3 := am_ hc0_3
 clear hr0_3 hc0_3
 have HR1 := am_ hr1
 have HC1 := am_ hc1
 clear hr1 hc1
 have HB := am_ (Below.refl w.heap.size w)
 have H := h
 clear h
 unfold impl_HoldsIn.f at H
 have HC4 := am_ H
 clear H
 go_enter Try.func30, Try.ntmps30
 go_upto_region 1 with (first | ((with_reducible refine gate_dst (N := 3) rfl ?_); refine Sh.bx (N := 3) (cs := #[.int .i64 a0_0, .int .i64 a0_1, .slice A0_2 l0_2.length c0_2, .slice A0_3 l0_3.length c0_3]) (t := 33) (h := ?_); intro gb464 hg w5 hbox hb; have BK464 := am_ hbox; have GW464 := am_ (Sh.gw (w := w) hg); have GE464 := am_ (Sh.gw (w := w) hg); replace HB := am_ (below_step Sh.bw hb); clear hb hbox hg))
 (try simp only [Act.put, List.setIfInBounds_toArray, List.set_cons_zero, List.set_cons_succ])
 go_cut [17] (fun v17 wc => ∃ (kq : Nat) (x17_3 : Bool), v17 = .bool x17_3 ∧ Aside0 (impl_HoldsIn.j0 kq l1 a2 x17_3 a0_0 a0_1 l0_2 l0_3 = some (r1, r2)) ∧ Aside0 (kq ≤ k) ∧ Aside0 (wc.heap[gb464]? = some (.cells #[.int .i64 a0_0, .int .i64 a0_1, (.slice A0_2 l0_2.length c0_2), (.slice A0_3 l0_3.length c0_3)] 33 (0, 0))) ∧ Aside0 (Below w.heap.size w wc))
 case first =>
  have H := HC4.out
  clear HC4
  obtain ⟨t465, A60, H⟩ := Sh.bd H
  have A6 := am_ A60
  clear A60
  by_cases c7 : t465 = true
  ·subst c7
   rw [if_pos rfl] at H
   obtain ⟨t466, A80, H⟩ := Sh.bd H
   have A8 := am_ A80
   clear A80
   have H' := am_ H
   clear H
   have hcz9_0 := Sh.bc BK464.out 0
   have hcz9_1 := Sh.bc BK464.out 1
   have hcz9_2 := Sh.bc BK464.out 2
   have hcz9_3 := Sh.bc BK464.out 3
   have hfz9_0 := blk_frozen BK464.out 0
   have hfz9_1 := blk_frozen BK464.out 1
   have hfz9_2 := blk_frozen BK464.out 2
   have hfz9_3 := blk_frozen BK464.out 3
   go_wp2_with (first | ((with_reducible refine gate_callee (f := 55) rfl ?_); refine Sh.gL (some 10) Try.func55 #[.agg #[.int .i64 a0_0, .int .i64 a0_1, .slice A0_2 l0_2.length c0_2, .slice A0_3 l0_3.length c0_3], .int .i64 a2] (h := ?_); (with_reducible refine (impl_isNo.calls k a0_0 a0_1 _ _ l0_2 _ _ l0_3 a2 true _ (Sh.cB HR0_2.out) HC0_2.out (Sh.cB HR0_3.out) HC0_3.out A6.out).mono ?_); rintro e w10 ⟨rfl, hb⟩; refine ⟨_, rfl, ?_⟩; replace BK464 := am_ (Sh.bb BK464.out hb); replace HB := am_ (below_step Sh.bw hb); (try clear hb); (try clear hb2); (try clear hk); (try clear hi); obtain ⟨hcz11_0, hcz11_1, hcz11_2, hcz11_3, hfz11_0, hfz11_1, hfz11_2, hfz11_3⟩ := Sh.b4 BK464.out) | (go_at_call 56; (with_reducible refine (impl_Program_isCondition.calls k a0_0 a0_1 _ _ l0_2 _ _ l0_3 _ _ l1 t466 _ (Sh.cB HR0_2.out) HC0_2.out (Sh.cB HR0_3.out) HC0_3.out (Sh.cB HR1.out) HC1.out A8.out).mono ?_); rintro e w12 ⟨rfl, hb⟩; replace BK464 := am_ (Sh.bb BK464.out hb); replace HB := am_ (below_step Sh.bw hb); (try clear hb); (try clear hb2); (try clear hk); (try clear hi)))
   go_meet
   case rel => exact ⟨_, (!t466), (Sh.es), H', ⟨Sh.om⟩, ⟨by (with_reducible repeat (first | refine blk_drewN ?_ _ | refine blk_drew ?_ | refine blk_alloc ?_ _)); exact BK464.out⟩, ⟨Sh.bw⟩⟩
  ·replace c7 := Bool.eq_false_iff.mpr c7
   subst c7
   rw [Sh.nf] at H
   have H' := am_ H
   clear H
   have hcz13_0 := Sh.bc BK464.out 0
   have hcz13_1 := Sh.bc BK464.out 1
   have hcz13_2 := Sh.bc BK464.out 2
   have hcz13_3 := Sh.bc BK464.out 3
   have hfz13_0 := blk_frozen BK464.out 0
   have hfz13_1 := blk_frozen BK464.out 1
   have hfz13_2 := blk_frozen BK464.out 2
   have hfz13_3 := blk_frozen BK464.out 3
   go_wp2_with (first | ((with_reducible refine gate_callee (f := 55) rfl ?_); refine Sh.gL (some 10) Try.func55 #[.agg #[.int .i64 a0_0, .int .i64 a0_1, .slice A0_2 l0_2.length c0_2, .slice A0_3 l0_3.length c0_3], .int .i64 a2] (h := ?_); (with_reducible refine (impl_isNo.calls k a0_0 a0_1 _ _ l0_2 _ _ l0_3 a2 false _ (Sh.cB HR0_2.out) HC0_2.out (Sh.cB HR0_3.out) HC0_3.out A6.out).mono ?_); rintro e w14 ⟨rfl, hb⟩; refine ⟨_, rfl, ?_⟩; replace BK464 := am_ (Sh.bb BK464.out hb); replace HB := am_ (below_step Sh.bw hb); (try clear hb); (try clear hb2); (try clear hk); (try clear hi)))
   go_meet
   case rel => exact ⟨_, (true), (Sh.es), H', ⟨Sh.om⟩, ⟨by (with_reducible repeat (first | refine blk_drewN ?_ _ | refine blk_drew ?_ | refine blk_alloc ?_ _)); exact BK464.out⟩, ⟨Sh.bw⟩⟩
 case rest =>
  clear HC4
  try clear c1
  try clear p2
  try clear c3
  try clear c5
  try clear c7
  try clear hcz11_0
  try clear hcz11_1
  try clear hcz11_2
  try clear hcz11_3
  try clear hcz13_0
  try clear hcz13_1
  try clear hcz13_2
  try clear hcz13_3
  try clear hcz9_0
  try clear hcz9_1
  try clear hcz9_2
  try clear hcz9_3
  try clear hfz11_0
  try clear hfz11_1
  try clear hfz11_2
  try clear hfz11_3
  try clear hfz13_0
  try clear hfz13_1
  try clear hfz13_2
  try clear hfz13_3
  try clear hfz9_0
  try clear hfz9_1
  try clear hfz9_2
  try clear hfz9_3
  obtain ⟨kq, x17_3, rfl, HA, HJ3, BK464, HB⟩ := hcut
  cases kq with
  | zero => exact absurd HA.out (by simp [impl_HoldsIn.j0])
  | succ kj3 =>
   have H := HA.out
   clear HA
   simp only [impl_HoldsIn.j0] at H
   by_cases c15 : x17_3 = true
   ·subst c15
    rw [if_pos rfl] at H
    simp only [Option.some.injEq, Prod.mk.injEq] at H
    obtain ⟨rfl, rfl⟩ := H
    go_wp2
    go_ret2
    exact ⟨Sh.eR, Sh.bw⟩
   ·replace c15 := Bool.eq_false_iff.mpr c15
    subst c15
    rw [Sh.nf] at H
    obtain ⟨t467, A160, H⟩ := Sh.bd H
    have A16 := am_ A160
    clear A160
    obtain ⟨t470, A170, H⟩ := Sh.bd H
    have A17 := am_ A170
    clear A170
    simp only [Option.some.injEq, Prod.mk.injEq] at H
    obtain ⟨rfl, rfl⟩ := H
    try go_wp2
    replace BK464 := am_ (blk_drew BK464.out)
    replace HB := am_ (below_drew1 HB.out)
    refine start_ (n := 8) (S := fun w' => w'.cell? ⟨gb464, 0, none⟩ = some (.int .i64 a0_0) ∧ w'.cell? ⟨gb464, 1, none⟩ = some (.int .i64 a0_1) ∧ w'.cell? ⟨gb464, 2, none⟩ = some (.slice A0_2 l0_2.length c0_2) ∧ w'.cell? ⟨gb464, 3, none⟩ = some (.slice A0_3 l0_3.length c0_3)) (ds := []) (Sh.nm 8 0) (by kernel_rfl) rfl rfl Sh.cs (fun hHeld => ?_); refine with_tabW impl_HoldsIn.tab3 impl_HoldsIn.bits3 (fun HT_ HW_ => ?_)
    generalize wc.drew = w18 at BK464 HB hHeld ⊢
    refine Sh.qA 1 ?_; refine Sh.qA 3 ?_; refine Sh.qT 0 hHeld ?_; refine Sh.qT 2 hHeld ?_
    refine Sh.oC 4 Try.func57 #[.agg #[.int .i64 a0_0, .int .i64 a0_1, .slice A0_2 l0_2.length c0_2, .slice A0_3 l0_3.length c0_3], .int .i64 a2] fun K hK => ?_
    with_reducible refine (impl_Program_stateOf.calls kj3 a0_0 a0_1 _ _ l0_2 _ _ l0_3 a2 t467 _ ?side1 ?side2 ?side3 ?side4 A16.out).mono ?_
    (case side1 => repeat (first | exact (Kd.C_below HR0_2.out HB.out) | (with_reducible first | refine Kd.C_alloc ?_ _ | refine Kd.C_drewN ?_ _ | refine Kd.C_drew ?_)))
    (case side2 => exact HC0_2.out)
    (case side3 => repeat (first | exact (Kd.C_below HR0_3.out HB.out) | (with_reducible first | refine Kd.C_alloc ?_ _ | refine Kd.C_drewN ?_ _ | refine Kd.C_drew ?_)))
    (case side4 => exact HC0_3.out)
    rintro e w19 ⟨v468, rfl, ho0, hb⟩
    refine ⟨_, rfl, ?_⟩
    have HO469 := am_ (Kd.R_lower ho0 (below_size Sh.bw))
    replace BK464 := am_ (Sh.bb BK464.out hb)
    replace HB := am_ (below_step Sh.bw hb)
    (try clear hb)
    (try clear hb2)
    (try clear hk)
    (try clear hi)
    (try clear ho0)
    obtain ⟨Ao20, co20, eo20⟩ := Kd.R_slice HO469.out
    (first | subst eo20 | (injection eo20 with f1_ f2_ f3_; have f4_ := f1_.symm; have f5_ := f3_.symm; clear f1_ f2_ f3_; subst f4_; subst f5_))
    refine Sh.kN hK Sh.cs fun hHeld => ?_
    clear hK K
    refine Sh.oC 5 Try.func38 #[.agg #[.int .i64 a0_0, .int .i64 a0_1, .slice A0_2 l0_2.length c0_2, .slice A0_3 l0_3.length c0_3], .slice A1 l1.length c1, .slice Ao20 t467.length co20] fun K hK => ?_
    with_reducible refine (impl_Program_holds.calls kj3 a0_0 a0_1 _ _ l0_2 _ _ l0_3 _ _ l1 _ _ t467 t470 _ ?side1 ?side2 ?side3 ?side4 ?side5 ?side6 ?side7 ?side8 A17.out).mono ?_
    (case side1 => repeat (first | exact (Kd.C_below HR0_2.out HB.out) | (with_reducible first | refine Kd.C_alloc ?_ _ | refine Kd.C_drewN ?_ _ | refine Kd.C_drew ?_)))
    (case side2 => exact HC0_2.out)
    (case side3 => repeat (first | exact (Kd.C_below HR0_3.out HB.out) | (with_reducible first | refine Kd.C_alloc ?_ _ | refine Kd.C_drewN ?_ _ | refine Kd.C_drew ?_)))
    (case side4 => exact HC0_3.out)
    (case side5 => repeat (first | exact (Kd.C_below HR1.out HB.out) | (with_reducible first | refine Kd.C_alloc ?_ _ | refine Kd.C_drewN ?_ _ | refine Kd.C_drew ?_)))
    (case side6 => exact HC1.out)
    (case side7 => repeat (first | exact (Kd.R_reads' HO469.out).2.2 | (with_reducible first | refine Kd.C_alloc ?_ _ | refine Kd.C_drewN ?_ _ | refine Kd.C_drew ?_)))
    (case side8 => exact (Kd.R_reads' HO469.out).2.1)
    rintro e w21 ⟨rfl, hb⟩
    refine ⟨_, rfl, ?_⟩
    replace HO469 := am_ (Kd.R_below (by (with_reducible repeat (first | apply Kd.R_alloc | apply Kd.R_drewN | apply Kd.R_drew)); exact HO469.out) hb)
    replace BK464 := am_ (Sh.bb BK464.out hb)
    replace HB := am_ (below_step Sh.bw hb)
    (try clear hb)
    (try clear hb2)
    (try clear hk)
    (try clear hi)
    refine Sh.kN hK Sh.cs fun hHeld => ?_
    clear hK K
    refine Sh.qA 6 ?_; refine Sh.qA 7 ?_
    refine done_ (done_of HT_.out (by kernel_rfl)) ?_
    try go_wp2
    go_ret2
    exact ⟨Sh.eR, Sh.bw⟩
open Go.Proofs.Ytjnolbjaagmooaa.Lw
def laws_FnExactHoldsIn.Holds (k : Nat) (a0_0 : Int) (a0_1 : Int) (l0_2 : List (S82)) (l0_3 : List (S89)) (l1 : List (S82)) (a2 : Int) : Prop :=
 ∃ s6 : Int, laws_szProgram.f k a0_0 a0_1 l0_2 l0_3 1048576 = some s6 ∧ ((s6 < 0) ∨ (¬ (s6 < 0)) ∧ (∃ s8 : Int, laws_szNodeS.f l1 s6 = some s8 ∧ ((s8 < 0) ∨ (¬ (s8 < 0)) ∧ (∃ (y11 : List (S80)) (y12 : List (S71)) (y26 : List (S80)) (y36 : Bool) (y37 : Bool), laws_toProgram.f k a0_0 a0_1 l0_2 l0_3 = some (a0_0, a0_1, y11, y12) ∧ laws_toNodeS.f k l1 = some y26 ∧ spec_HoldsIn.f k a0_0 a0_1 y11 y12 y26 a2 = some (y36, y37) ∧ impl_HoldsIn.f k a0_0 a0_1 y11 y12 y26 a2 = some (y36, y37) ∧ laws_eqProgram.f k a0_0 a0_1 y11 y12 a0_0 a0_1 y11 y12 = some true ∧ laws_eqNodeS.f k y26 y26 = some true))))
set_option maxHeartbeats 40000000 in
set_option maxRecDepth 100000 in
theorem laws_FnExactHoldsIn.calls (k : Nat) (a0_0 : Int) (a0_1 : Int) (A0_2 : Option Addr) (c0_2 : Nat) (l0_2 : List (S82)) (A0_3 : Option Addr) (c0_3 : Nat) (l0_3 : List (S89)) (A1 : Option Addr) (c1 : Nat) (l1 : List (S82)) (a2 : Int) (w : World) (hr0_2 : Kd.C k82 w A0_2 l0_2.length l0_2) (hc0_2 : l0_2.length ≤ c0_2) (hr0_3 : Kd.C k89 w A0_3 l0_3.length l0_3) (hc0_3 : l0_3.length ≤ c0_3) (hr1 : Kd.C k82 w A1 l1.length l1) (hc1 : l1.length ≤ c1) (h : laws_FnExactHoldsIn.Holds k a0_0 a0_1 l0_2 l0_3 l1 a2) :
  Calls Try.prog 7 #[.agg #[.int .i64 a0_0, .int .i64 a0_1, .slice A0_2 l0_2.length c0_2, .slice A0_3 l0_3.length c0_3], .slice A1 l1.length c1, .int .i64 a2] w fun e w' => e = .returned (.bool true) ∧ Below w.heap.size w w' := by
 have hu25 := Try.underlying25
 have hu33 := Try.underlying33
 have HR0_2 := am_ hr0_2
 have HC0_2 := am_ hc0_2
 clear hr0_2 hc0_2
 have HR0_3 := am_ hr0_3
 have HC0_3 := am_ hc0_3
 clear hr0_3 hc0_3
 have HR1 := am_ hr1
 have HC1 := am_ hc1
 clear hr1 hc1
 have HB := am_ (Below.refl w.heap.size w)
 have NW : 0 ≤ w.heap.size := Nat.zero_le _
 obtain ⟨s6, ESs6, h⟩ := h
 replace ESs6 := am_ ESs6
 rcases h with c | ⟨c, h⟩
 ·have cb : decide (s6 < 0) = true := decide_eq_true c
  clear c
  go_enter Try.func7, Try.ntmps7
  go_wp2_with (first | ((with_reducible refine gate_dst (N := 3) rfl ?_); refine Sh.bx (N := 3) (cs := #[.int .i64 a0_0, .int .i64 a0_1, .slice A0_2 l0_2.length c0_2, .slice A0_3 l0_3.length c0_3]) (t := 25) (h := ?_); intro g1 hg w3 hbox hb; have BK2 := box_new (w := w) (W := w) HB.out hg hbox; have oa4 := new_g (W := w) hg NW; replace HB := am_ (below_step HB.out hb); replace NW := Nat.le_trans NW hb.size; replace NW := BK2.lt; clear hb hbox hg; have hczq5_0 : w3.cell? ⟨g1, 0, none⟩ = some (.int .i64 a0_0) := (blk_cell BK2.b 0).trans rfl; have hfzq5_0 := blk_frozen BK2.b 0; have hczq5_1 : w3.cell? ⟨g1, 1, none⟩ = some (.int .i64 a0_1) := (blk_cell BK2.b 1).trans rfl; have hfzq5_1 := blk_frozen BK2.b 1; have hczq5_2 : w3.cell? ⟨g1, 2, none⟩ = some (.slice A0_2 l0_2.length c0_2) := (blk_cell BK2.b 2).trans rfl; have hfzq5_2 := blk_frozen BK2.b 2; have hczq5_3 : w3.cell? ⟨g1, 3, none⟩ = some (.slice A0_3 l0_3.length c0_3) := (blk_cell BK2.b 3).trans rfl; have hfzq5_3 := blk_frozen BK2.b 3) | ((with_reducible refine gate_callee (f := 8) rfl ?_); refine Sh.gL (some 16) Try.func8 #[.agg #[.int .i64 a0_0, .int .i64 a0_1, .slice A0_2 l0_2.length c0_2, .slice A0_3 l0_3.length c0_3], .int .i64 1048576] (h := ?_); (with_reducible refine (laws_szProgram.calls k a0_0 a0_1 _ _ l0_2 _ _ l0_3 1048576 s6 _ (Kd.C_below HR0_2.out HB.out) HC0_2.out (Kd.C_below HR0_3.out HB.out) HC0_3.out ESs6.out).mono ?_); rintro e w7 ⟨rfl, hb⟩; refine ⟨_, rfl, ?_⟩; replace BK2 := BK2.same hb; replace HB := am_ (below_step HB.out hb); replace NW := Nat.le_trans NW hb.size; clear hb))
  go_ret
  exact ⟨rfl, HB.out⟩
 have cb0 : decide (s6 < 0) = false := decide_eq_false c
 clear c
 obtain ⟨s8, ESs8, h⟩ := h
 replace ESs8 := am_ ESs8
 rcases h with c | ⟨c, h⟩
 ·have cb : decide (s8 < 0) = true := decide_eq_true c
  clear c
  go_enter Try.func7, Try.ntmps7
  go_wp2_with (first | ((with_reducible refine gate_dst (N := 3) rfl ?_); refine Sh.bx (N := 3) (cs := #[.int .i64 a0_0, .int .i64 a0_1, .slice A0_2 l0_2.length c0_2, .slice A0_3 l0_3.length c0_3]) (t := 25) (h := ?_); intro g1 hg w3 hbox hb; have BK2 := box_new (w := w) (W := w) HB.out hg hbox; have oa4 := new_g (W := w) hg NW; replace HB := am_ (below_step HB.out hb); replace NW := Nat.le_trans NW hb.size; replace NW := BK2.lt; clear hb hbox hg; have hczq5_0 : w3.cell? ⟨g1, 0, none⟩ = some (.int .i64 a0_0) := (blk_cell BK2.b 0).trans rfl; have hfzq5_0 := blk_frozen BK2.b 0; have hczq5_1 : w3.cell? ⟨g1, 1, none⟩ = some (.int .i64 a0_1) := (blk_cell BK2.b 1).trans rfl; have hfzq5_1 := blk_frozen BK2.b 1; have hczq5_2 : w3.cell? ⟨g1, 2, none⟩ = some (.slice A0_2 l0_2.length c0_2) := (blk_cell BK2.b 2).trans rfl; have hfzq5_2 := blk_frozen BK2.b 2; have hczq5_3 : w3.cell? ⟨g1, 3, none⟩ = some (.slice A0_3 l0_3.length c0_3) := (blk_cell BK2.b 3).trans rfl; have hfzq5_3 := blk_frozen BK2.b 3) | ((with_reducible refine gate_callee (f := 8) rfl ?_); refine Sh.gL (some 16) Try.func8 #[.agg #[.int .i64 a0_0, .int .i64 a0_1, .slice A0_2 l0_2.length c0_2, .slice A0_3 l0_3.length c0_3], .int .i64 1048576] (h := ?_); (with_reducible refine (laws_szProgram.calls k a0_0 a0_1 _ _ l0_2 _ _ l0_3 1048576 s6 _ (Kd.C_below HR0_2.out HB.out) HC0_2.out (Kd.C_below HR0_3.out HB.out) HC0_3.out ESs6.out).mono ?_); rintro e w7 ⟨rfl, hb⟩; refine ⟨_, rfl, ?_⟩; replace BK2 := BK2.same hb; replace HB := am_ (below_step HB.out hb); replace NW := Nat.le_trans NW hb.size; clear hb) | ((with_reducible refine gate_callee (f := 27) rfl ?_); refine Sh.gL (some 21) Try.func27 #[.slice A1 l1.length c1, .int .i64 s6] (h := ?_); (with_reducible refine (laws_szNodeS.calls _ _ l1 s6 s8 _ (Kd.C_below HR1.out HB.out) HC1.out ESs8.out).mono ?_); rintro e w9 ⟨rfl, hb⟩; refine ⟨_, rfl, ?_⟩; replace hb := hb.below; replace BK2 := BK2.same hb; replace HB := am_ (below_step HB.out hb); replace NW := Nat.le_trans NW hb.size; clear hb; have hczq10_0 : w9.cell? ⟨g1, 0, none⟩ = some (.int .i64 a0_0) := (blk_cell BK2.b 0).trans rfl; have hfzq10_0 := blk_frozen BK2.b 0; have hczq10_1 : w9.cell? ⟨g1, 1, none⟩ = some (.int .i64 a0_1) := (blk_cell BK2.b 1).trans rfl; have hfzq10_1 := blk_frozen BK2.b 1; have hczq10_2 : w9.cell? ⟨g1, 2, none⟩ = some (.slice A0_2 l0_2.length c0_2) := (blk_cell BK2.b 2).trans rfl; have hfzq10_2 := blk_frozen BK2.b 2; have hczq10_3 : w9.cell? ⟨g1, 3, none⟩ = some (.slice A0_3 l0_3.length c0_3) := (blk_cell BK2.b 3).trans rfl; have hfzq10_3 := blk_frozen BK2.b 3))
  go_ret
  exact ⟨rfl, HB.out⟩
 have cb1 : decide (s8 < 0) = false := decide_eq_false c
 clear c
 obtain ⟨y11, y12, y26, y36, y37, E1, E2, E3, E4, E5, E6⟩ := h
 replace E1 := am_ E1
 replace E2 := am_ E2
 replace E3 := am_ E3
 replace E4 := am_ E4
 replace E5 := am_ E5
 replace E6 := am_ E6
 have cr0 : (y36 != y36) = false := bne_self_eq_false _
 have cr1 : (y37 != y37) = false := bne_self_eq_false _
 go_enter Try.func7, Try.ntmps7
 go_upto_region 14 with (first | ((with_reducible refine gate_dst (N := 3) rfl ?_); refine Sh.bx (N := 3) (cs := #[.int .i64 a0_0, .int .i64 a0_1, .slice A0_2 l0_2.length c0_2, .slice A0_3 l0_3.length c0_3]) (t := 25) (h := ?_); intro g1 hg w3 hbox hb; have BK2 := box_new (w := w) (W := w) HB.out hg hbox; have oa4 := new_g (W := w) hg NW; replace HB := am_ (below_step HB.out hb); replace NW := Nat.le_trans NW hb.size; replace NW := BK2.lt; clear hb hbox hg; have hczq5_0 : w3.cell? ⟨g1, 0, none⟩ = some (.int .i64 a0_0) := (blk_cell BK2.b 0).trans rfl; have hfzq5_0 := blk_frozen BK2.b 0; have hczq5_1 : w3.cell? ⟨g1, 1, none⟩ = some (.int .i64 a0_1) := (blk_cell BK2.b 1).trans rfl; have hfzq5_1 := blk_frozen BK2.b 1; have hczq5_2 : w3.cell? ⟨g1, 2, none⟩ = some (.slice A0_2 l0_2.length c0_2) := (blk_cell BK2.b 2).trans rfl; have hfzq5_2 := blk_frozen BK2.b 2; have hczq5_3 : w3.cell? ⟨g1, 3, none⟩ = some (.slice A0_3 l0_3.length c0_3) := (blk_cell BK2.b 3).trans rfl; have hfzq5_3 := blk_frozen BK2.b 3) | ((with_reducible refine gate_callee (f := 8) rfl ?_); refine Sh.gL (some 16) Try.func8 #[.agg #[.int .i64 a0_0, .int .i64 a0_1, .slice A0_2 l0_2.length c0_2, .slice A0_3 l0_3.length c0_3], .int .i64 1048576] (h := ?_); (with_reducible refine (laws_szProgram.calls k a0_0 a0_1 _ _ l0_2 _ _ l0_3 1048576 s6 _ (Kd.C_below HR0_2.out HB.out) HC0_2.out (Kd.C_below HR0_3.out HB.out) HC0_3.out ESs6.out).mono ?_); rintro e w7 ⟨rfl, hb⟩; refine ⟨_, rfl, ?_⟩; replace BK2 := BK2.same hb; replace HB := am_ (below_step HB.out hb); replace NW := Nat.le_trans NW hb.size; clear hb) | ((with_reducible refine gate_callee (f := 27) rfl ?_); refine Sh.gL (some 21) Try.func27 #[.slice A1 l1.length c1, .int .i64 s6] (h := ?_); (with_reducible refine (laws_szNodeS.calls _ _ l1 s6 s8 _ (Kd.C_below HR1.out HB.out) HC1.out ESs8.out).mono ?_); rintro e w9 ⟨rfl, hb⟩; refine ⟨_, rfl, ?_⟩; replace hb := hb.below; replace BK2 := BK2.same hb; replace HB := am_ (below_step HB.out hb); replace NW := Nat.le_trans NW hb.size; clear hb; have hczq10_0 : w9.cell? ⟨g1, 0, none⟩ = some (.int .i64 a0_0) := (blk_cell BK2.b 0).trans rfl; have hfzq10_0 := blk_frozen BK2.b 0; have hczq10_1 : w9.cell? ⟨g1, 1, none⟩ = some (.int .i64 a0_1) := (blk_cell BK2.b 1).trans rfl; have hfzq10_1 := blk_frozen BK2.b 1; have hczq10_2 : w9.cell? ⟨g1, 2, none⟩ = some (.slice A0_2 l0_2.length c0_2) := (blk_cell BK2.b 2).trans rfl; have hfzq10_2 := blk_frozen BK2.b 2; have hczq10_3 : w9.cell? ⟨g1, 3, none⟩ = some (.slice A0_3 l0_3.length c0_3) := (blk_cell BK2.b 3).trans rfl; have hfzq10_3 := blk_frozen BK2.b 3) | ((with_reducible refine gate_callee (f := 10) rfl ?_); refine Sh.gL (some 26) Try.func10 #[.agg #[.int .i64 a0_0, .int .i64 a0_1, .slice A0_2 l0_2.length c0_2, .slice A0_3 l0_3.length c0_3]] (h := ?_); (with_reducible refine (laws_toProgram.calls k a0_0 a0_1 _ _ l0_2 _ _ l0_3 a0_0 a0_1 y11 y12 _ (Kd.C_below HR0_2.out HB.out) HC0_2.out (Kd.C_below HR0_3.out HB.out) HC0_3.out E1.out).mono ?_); rintro e w13 ⟨v2_, v3_, rfl, ho0, ho1, hb⟩; refine ⟨_, rfl, ?_⟩; obtain ⟨lo16, hi17, ⟨HO14, HO15⟩, oa18, ob19, NW2⟩ := new1 (F := fun lo_ hi_ => Held k80 80 w13 w.heap.size lo_ hi_ v2_ y11 ∧ Held k71 71 w13 w.heap.size lo_ hi_ v3_ y12) ⟨held_new ho0 hb HB.out, held_new ho1 hb HB.out⟩ hb NW; replace BK2 := BK2.same hb; replace HB := am_ (below_step HB.out hb); replace NW := Nat.le_trans NW hb.size; replace NW := NW2; skip; obtain ⟨A20, c21, e22⟩ := HO14.slice; subst e22; obtain ⟨A23, c24, e25⟩ := HO15.slice; subst e25; clear hb ho0 ho1) | ((with_reducible refine gate_callee (f := 29) rfl ?_); refine Sh.gL (some 28) Try.func29 #[.slice A1 l1.length c1] (h := ?_); (with_reducible refine (laws_toNodeS.calls k _ _ l1 y26 _ (Kd.C_below HR1.out HB.out) HC1.out E2.out).mono ?_); rintro e w27 ⟨v0_, rfl, ho0, hb⟩; refine ⟨_, rfl, ?_⟩; obtain ⟨lo29, hi30, HO28, oa31, ob32, NW2⟩ := new1 (F := fun lo_ hi_ => Held k80 80 w27 w.heap.size lo_ hi_ v0_ y26) (held_new ho0 hb HB.out) hb NW; replace BK2 := BK2.same hb; replace HO14 := HO14.same hb; replace HO15 := HO15.same hb; replace HB := am_ (below_step HB.out hb); replace NW := Nat.le_trans NW hb.size; replace NW := NW2; skip; obtain ⟨A33, c34, e35⟩ := HO28.slice; subst e35; clear hb ho0) | ((with_reducible refine gate_callee (f := 28) rfl ?_); refine Sh.gL (some 30) Try.func28 #[.agg #[.int .i64 a0_0, .int .i64 a0_1, .slice A20 y11.length c21, .slice A23 y12.length c24], .slice A33 y26.length c34, .int .i64 a2] (h := ?_); (with_reducible refine (spec_HoldsIn.calls k a0_0 a0_1 _ _ y11 _ _ y12 _ _ y26 a2 y36 y37 _ HO14.C HO14.c HO15.C HO15.c HO28.C HO28.c E3.out).mono ?_); rintro e w38 ⟨rfl, hb⟩; refine ⟨_, rfl, ?_⟩; replace BK2 := BK2.same hb; replace HO14 := HO14.same hb; replace HO15 := HO15.same hb; replace HO28 := HO28.same hb; replace HB := am_ (below_step HB.out hb); replace NW := Nat.le_trans NW hb.size; clear hb; have hczq39_0 : w38.cell? ⟨g1, 0, none⟩ = some (.int .i64 a0_0) := (blk_cell BK2.b 0).trans rfl; have hfzq39_0 := blk_frozen BK2.b 0; have hczq39_1 : w38.cell? ⟨g1, 1, none⟩ = some (.int .i64 a0_1) := (blk_cell BK2.b 1).trans rfl; have hfzq39_1 := blk_frozen BK2.b 1; have hczq39_2 : w38.cell? ⟨g1, 2, none⟩ = some (.slice A0_2 l0_2.length c0_2) := (blk_cell BK2.b 2).trans rfl; have hfzq39_2 := blk_frozen BK2.b 2; have hczq39_3 : w38.cell? ⟨g1, 3, none⟩ = some (.slice A0_3 l0_3.length c0_3) := (blk_cell BK2.b 3).trans rfl; have hfzq39_3 := blk_frozen BK2.b 3) | ((with_reducible refine gate_callee (f := 10) rfl ?_); refine Sh.gL (some 34) Try.func10 #[.agg #[.int .i64 a0_0, .int .i64 a0_1, .slice A0_2 l0_2.length c0_2, .slice A0_3 l0_3.length c0_3]] (h := ?_); (with_reducible refine (laws_toProgram.calls k a0_0 a0_1 _ _ l0_2 _ _ l0_3 a0_0 a0_1 y11 y12 _ (Kd.C_below HR0_2.out HB.out) HC0_2.out (Kd.C_below HR0_3.out HB.out) HC0_3.out E1.out).mono ?_); rintro e w40 ⟨v2_, v3_, rfl, ho0, ho1, hb⟩; refine ⟨_, rfl, ?_⟩; obtain ⟨lo43, hi44, ⟨HO41, HO42⟩, oa45, ob46, NW2⟩ := new1 (F := fun lo_ hi_ => Held k80 80 w40 w.heap.size lo_ hi_ v2_ y11 ∧ Held k71 71 w40 w.heap.size lo_ hi_ v3_ y12) ⟨held_new ho0 hb HB.out, held_new ho1 hb HB.out⟩ hb NW; replace BK2 := BK2.same hb; replace HO14 := HO14.same hb; replace HO15 := HO15.same hb; replace HO28 := HO28.same hb; replace HB := am_ (below_step HB.out hb); replace NW := Nat.le_trans NW hb.size; replace NW := NW2; skip; obtain ⟨A47, c48, e49⟩ := HO41.slice; subst e49; obtain ⟨A50, c51, e52⟩ := HO42.slice; subst e52; clear hb ho0 ho1) | ((with_reducible refine gate_dst (N := 10) rfl ?_); refine Sh.bx (N := 10) (cs := #[.int .i64 0, .int .i64 0, .slice none 0 0, .slice none 0 0]) (t := 33) (h := ?_); intro g53 hg w55 hbox hb; have BK54 := box_new (w := w) (W := w40) HB.out hg hbox; have oa56 := new_g (W := w40) hg NW; replace BK2 := BK2.same hb; replace HO14 := HO14.same hb; replace HO15 := HO15.same hb; replace HO28 := HO28.same hb; replace HO41 := HO41.same hb; replace HO42 := HO42.same hb; replace HB := am_ (below_step HB.out hb); replace NW := Nat.le_trans NW hb.size; replace NW := BK54.lt; clear hb hbox hg) | ((with_reducible refine gate_ (.store 33 (.tmp 10) (.tmp 34)) rfl ?_); refine store_event 10 (.tmp 34) rfl rfl rfl BK54 rfl [.int .i64 a0_0, .int .i64 a0_1, .slice A47 y11.length c48, .slice A50 y12.length c51] rfl rfl ?hs rfl ?h1 ?_; (case hs => kernel_rfl); (case h1 => (simp only [List.mem_cons, List.not_mem_nil, or_false]; intro q_ h_; rcases h_ with h_ | h_ | h_ | h_ <;> (subst h_; rfl))); intro w57 hbx hb hk; replace BK2 := BK2.move hk (by omega); replace HO14 := HO14.move hk (by omega); replace HO15 := HO15.move hk (by omega); replace HO28 := HO28.move hk (by omega); replace HO41 := HO41.move hk (by omega); replace HO42 := HO42.move hk (by omega); replace BK54 := hbx; replace NW := Nat.le_trans NW hk.1; replace HB := am_ (HB.out.trans hb); clear hk hb) | ((with_reducible refine gate_callee (f := 29) rfl ?_); refine Sh.gL (some 36) Try.func29 #[.slice A1 l1.length c1] (h := ?_); (with_reducible refine (laws_toNodeS.calls k _ _ l1 y26 _ (Kd.C_below HR1.out HB.out) HC1.out E2.out).mono ?_); rintro e w58 ⟨v0_, rfl, ho0, hb⟩; refine ⟨_, rfl, ?_⟩; obtain ⟨lo60, hi61, HO59, oa62, ob63, NW2⟩ := new1 (F := fun lo_ hi_ => Held k80 80 w58 w.heap.size lo_ hi_ v0_ y26) (held_new ho0 hb HB.out) hb NW; replace BK2 := BK2.same hb; replace HO14 := HO14.same hb; replace HO15 := HO15.same hb; replace HO28 := HO28.same hb; replace HO41 := HO41.same hb; replace HO42 := HO42.same hb; replace BK54 := BK54.same hb; replace HB := am_ (below_step HB.out hb); replace NW := Nat.le_trans NW hb.size; replace NW := NW2; skip; obtain ⟨A64, c65, e66⟩ := HO59.slice; subst e66; clear hb ho0; have hczq67_0 : w58.cell? ⟨g53, 0, none⟩ = some (.int .i64 a0_0) := (blk_cell BK54.b 0).trans rfl; have hfzq67_0 := blk_frozen BK54.b 0; have hczq67_1 : w58.cell? ⟨g53, 1, none⟩ = some (.int .i64 a0_1) := (blk_cell BK54.b 1).trans rfl; have hfzq67_1 := blk_frozen BK54.b 1; have hczq67_2 : w58.cell? ⟨g53, 2, none⟩ = some (.slice A47 y11.length c48) := (blk_cell BK54.b 2).trans rfl; have hfzq67_2 := blk_frozen BK54.b 2; have hczq67_3 : w58.cell? ⟨g53, 3, none⟩ = some (.slice A50 y12.length c51) := (blk_cell BK54.b 3).trans rfl; have hfzq67_3 := blk_frozen BK54.b 3) | ((with_reducible refine gate_callee (f := 30) rfl ?_); refine Sh.gL (some 41) Try.func30 #[.agg #[.int .i64 a0_0, .int .i64 a0_1, .slice A47 y11.length c48, .slice A50 y12.length c51], .slice A64 y26.length c65, .int .i64 a2] (h := ?_); (with_reducible refine (impl_HoldsIn.calls k a0_0 a0_1 _ _ y11 _ _ y12 _ _ y26 a2 y36 y37 _ HO41.C HO41.c HO42.C HO42.c HO59.C HO59.c E4.out).mono ?_); rintro e w68 ⟨rfl, hb⟩; refine ⟨_, rfl, ?_⟩; replace BK2 := BK2.same hb; replace HO14 := HO14.same hb; replace HO15 := HO15.same hb; replace HO28 := HO28.same hb; replace HO41 := HO41.same hb; replace HO42 := HO42.same hb; replace BK54 := BK54.same hb; replace HO59 := HO59.same hb; replace HB := am_ (below_step HB.out hb); replace NW := Nat.le_trans NW hb.size; clear hb))
 (try simp only [Act.put, List.setIfInBounds_toArray, List.set_cons_zero, List.set_cons_succ])
 try go_wp2
 have hb : Below w68.heap.size w68 w68.drew := below_drew (Below.refl _ _)
 replace BK2 := BK2.same hb
 replace HO14 := HO14.same hb
 replace HO15 := HO15.same hb
 replace HO28 := HO28.same hb
 replace HO41 := HO41.same hb
 replace HO42 := HO42.same hb
 replace BK54 := BK54.same hb
 replace HO59 := HO59.same hb
 replace HB := am_ (below_step HB.out hb)
 replace NW := Nat.le_trans NW hb.size
 clear hb
 have hL_ : 0 ≤ 0 := Nat.le_refl 0
 refine start_ (n := 5) (S := fun w' => w'.cell? ⟨g53, 0, none⟩ = some (.int .i64 a0_0) ∧ w'.cell? ⟨g53, 1, none⟩ = some (.int .i64 a0_1) ∧ w'.cell? ⟨g53, 2, none⟩ = some (.slice A47 y11.length c48) ∧ w'.cell? ⟨g53, 3, none⟩ = some (.slice A50 y12.length c51) ∧ w'.cell? ⟨g1, 0, none⟩ = some (.int .i64 a0_0) ∧ w'.cell? ⟨g1, 1, none⟩ = some (.int .i64 a0_1) ∧ w'.cell? ⟨g1, 2, none⟩ = some (.slice A0_2 l0_2.length c0_2) ∧ w'.cell? ⟨g1, 3, none⟩ = some (.slice A0_3 l0_3.length c0_3)) (ds := []) (Sh.nm 5 0) (by kernel_rfl) rfl rfl ⟨(blk_cell BK54.b 0).trans rfl, (blk_cell BK54.b 1).trans rfl, (blk_cell BK54.b 2).trans rfl, (blk_cell BK54.b 3).trans rfl, (blk_cell BK2.b 0).trans rfl, (blk_cell BK2.b 1).trans rfl, (blk_cell BK2.b 2).trans rfl, (blk_cell BK2.b 3).trans rfl⟩ (fun hHeld => ?_)
 generalize w68.drew = w69 at BK2 HO14 HO15 HO28 HO41 HO42 BK54 HO59 HB NW hHeld ⊢
 clear hL_
 refine Sh.tA 0 52 (Sh.nm 5 1) (by kernel_rfl) hHeld ?_ (hy := by rintro w' ⟨s0, s1, s2, s3, s4, s5, s6, s7⟩; go_simp; with_reducible rfl)
 refine Sh.tA 1 53 (Sh.nm 5 3) (by kernel_rfl) hHeld ?_ (hy := by rintro w' ⟨s0, s1, s2, s3, s4, s5, s6, s7⟩; go_simp; with_reducible rfl)
 refine one_ (i := 2) (N := some 54) (Sh.nm 5 7) rfl rfl (by kernel_rfl) (by decide) (fun K hK => ?_)
 refine goes_ Try.func10 (by kernel_rfl) rfl #[.agg #[.int .i64 a0_0, .int .i64 a0_1, .slice A0_2 l0_2.length c0_2, .slice A0_3 l0_3.length c0_3]] (by rfl) rfl rfl (by (try simp only [List.map_toArray, List.map_cons, List.map_nil]); first | done | rfl | (simp only [List.length_drop, List.length_take]; rfl)) ?_
 with_reducible refine (laws_toProgram.calls k a0_0 a0_1 _ _ l0_2 _ _ l0_3 a0_0 a0_1 y11 y12 _ (Kd.C_below HR0_2.out HB.out) HC0_2.out (Kd.C_below HR0_3.out HB.out) HC0_3.out E1.out).mono ?_
 rintro e w70 ⟨v2_, v3_, rfl, ho0, ho1, hb⟩
 refine ⟨_, rfl, ?_⟩
 obtain ⟨lo73, hi74, ⟨HO71, HO72⟩, oa75, ob76, NW2⟩ := new1 (F := fun lo_ hi_ => Held k80 80 w70 w.heap.size lo_ hi_ v2_ y11 ∧ Held k71 71 w70 w.heap.size lo_ hi_ v3_ y12) ⟨held_new ho0 hb HB.out, held_new ho1 hb HB.out⟩ hb NW
 replace BK2 := BK2.same hb
 replace HO14 := HO14.same hb
 replace HO15 := HO15.same hb
 replace HO28 := HO28.same hb
 replace HO41 := HO41.same hb
 replace HO42 := HO42.same hb
 replace BK54 := BK54.same hb
 replace HO59 := HO59.same hb
 replace HB := am_ (below_step HB.out hb)
 replace NW := Nat.le_trans NW hb.size
 replace NW := NW2
 skip
 obtain ⟨A77, c78, e79⟩ := HO71.slice
 subst e79
 obtain ⟨A80, c81, e82⟩ := HO72.slice
 subst e82
 clear hb ho0 ho1
 refine Sh.kN hK ⟨(blk_cell BK54.b 0).trans rfl, (blk_cell BK54.b 1).trans rfl, (blk_cell BK54.b 2).trans rfl, (blk_cell BK54.b 3).trans rfl, (blk_cell BK2.b 0).trans rfl, (blk_cell BK2.b 1).trans rfl, (blk_cell BK2.b 2).trans rfl, (blk_cell BK2.b 3).trans rfl⟩ fun hHeld => ?_
 clear hK K
 refine one_ (i := 3) (N := some 55) (Sh.nm 5 15) rfl rfl (by kernel_rfl) (by decide) (fun K hK => ?_)
 refine goes_ Try.func13 (by kernel_rfl) rfl #[.agg #[.int .i64 a0_0, .int .i64 a0_1, .slice A47 y11.length c48, .slice A50 y12.length c51], .agg #[.int .i64 a0_0, .int .i64 a0_1, .slice A77 y11.length c78, .slice A80 y12.length c81]] (by rfl) rfl rfl (by (try simp only [List.map_toArray, List.map_cons, List.map_nil]); first | done | rfl | (simp only [List.length_drop, List.length_take]; rfl)) ?_
 with_reducible refine (laws_eqProgram.calls k a0_0 a0_1 _ _ y11 _ _ y12 a0_0 a0_1 _ _ y11 _ _ y12 true _ HO41.C HO41.c HO42.C HO42.c HO71.C HO71.c HO72.C HO72.c E5.out).mono ?_
 rintro e w83 ⟨rfl, hb⟩
 refine ⟨_, rfl, ?_⟩
 replace BK2 := BK2.same hb
 replace HO14 := HO14.same hb
 replace HO15 := HO15.same hb
 replace HO28 := HO28.same hb
 replace HO41 := HO41.same hb
 replace HO42 := HO42.same hb
 replace BK54 := BK54.same hb
 replace HO59 := HO59.same hb
 replace HO71 := HO71.same hb
 replace HO72 := HO72.same hb
 replace HB := am_ (below_step HB.out hb)
 replace NW := Nat.le_trans NW hb.size
 clear hb
 refine Sh.kN hK ⟨(blk_cell BK54.b 0).trans rfl, (blk_cell BK54.b 1).trans rfl, (blk_cell BK54.b 2).trans rfl, (blk_cell BK54.b 3).trans rfl, (blk_cell BK2.b 0).trans rfl, (blk_cell BK2.b 1).trans rfl, (blk_cell BK2.b 2).trans rfl, (blk_cell BK2.b 3).trans rfl⟩ fun hHeld => ?_
 clear hK K
 refine Sh.pA 4 56 (Sh.nm 5 31) (by kernel_rfl) ?_
 refine done_ (by kernel_rfl) ?_
 go_wp2_with (first | ((with_reducible refine gate_callee (f := 29) rfl ?_); refine Sh.gL (some 59) Try.func29 #[.slice A1 l1.length c1] (h := ?_); (with_reducible refine (laws_toNodeS.calls k _ _ l1 y26 _ (Kd.C_below HR1.out HB.out) HC1.out E2.out).mono ?_); rintro e w84 ⟨v0_, rfl, ho0, hb⟩; refine ⟨_, rfl, ?_⟩; obtain ⟨lo86, hi87, HO85, oa88, ob89, NW2⟩ := new1 (F := fun lo_ hi_ => Held k80 80 w84 w.heap.size lo_ hi_ v0_ y26) (held_new ho0 hb HB.out) hb NW; replace BK2 := BK2.same hb; replace HO14 := HO14.same hb; replace HO15 := HO15.same hb; replace HO28 := HO28.same hb; replace HO41 := HO41.same hb; replace HO42 := HO42.same hb; replace BK54 := BK54.same hb; replace HO59 := HO59.same hb; replace HO71 := HO71.same hb; replace HO72 := HO72.same hb; replace HB := am_ (below_step HB.out hb); replace NW := Nat.le_trans NW hb.size; replace NW := NW2; skip; obtain ⟨A90, c91, e92⟩ := HO85.slice; subst e92; clear hb ho0) | ((with_reducible refine gate_callee (f := 31) rfl ?_); refine Sh.gL (some 60) Try.func31 #[.slice A64 y26.length c65, .slice A90 y26.length c91] (h := ?_); (with_reducible refine (laws_eqNodeS.calls k _ _ y26 _ _ y26 true _ HO59.C HO59.c HO85.C HO85.c E6.out).mono ?_); rintro e w93 ⟨rfl, hb⟩; refine ⟨_, rfl, ?_⟩; replace BK2 := BK2.same hb; replace HO14 := HO14.same hb; replace HO15 := HO15.same hb; replace HO28 := HO28.same hb; replace HO41 := HO41.same hb; replace HO42 := HO42.same hb; replace BK54 := BK54.same hb; replace HO59 := HO59.same hb; replace HO71 := HO71.same hb; replace HO72 := HO72.same hb; replace HO85 := HO85.same hb; replace HB := am_ (below_step HB.out hb); replace NW := Nat.le_trans NW hb.size; clear hb))
 go_ret
 exact ⟨rfl, HB.out⟩
end Go.Proofs.Ytjnolbjaagmooaa.P
