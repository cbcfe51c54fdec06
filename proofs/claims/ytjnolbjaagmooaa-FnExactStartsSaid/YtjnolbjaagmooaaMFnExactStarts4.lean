/- Go functions of this seat as Lean functions, and the proofs that the calls come to what these say; printed by a program of this session. No condition. -/
import Derived.Test.YtjnolbjaagmooaaP0
import Derived.Test.YtjnolbjaagmooaaMFnExactStarts3
import Derived.Test.YtjnolbjaagmooaaMFnExactStarts2
import Derived.Test.YtjnolbjaagmooaaMFnExactStarts1
set_option linter.unusedVariables false
set_option linter.unusedSimpArgs false
namespace Go.Proofs.Ytjnolbjaagmooaa.P
open Go.RowKit Go.Proofs.YtjnolbjaagmooaaW.PrintWords Go.Proofs.YtjnolbjaagmooaaW.PrintLast Go.Proofs.YtjnolbjaagmooaaW.PrintMore Go.Proofs.Ytjnolbjaagmooaa.Hof
attribute [local go_sem] max2_int min2_int max_two min_two max_three min_three max_four min_four
def impl_Program_holds.f (k : Nat) (a0_0 : Int) (a0_1 : Int) (l0_2 : List (S80)) (l0_3 : List (S71)) (l1 : List (S80)) (l2 : List Int) : Option (Bool) := (impl_valueOf.f k a0_0 l1 l2).bind fun t419 => (some (t419 == 1))
theorem impl_Program_holds.mono : ∀ a0 a1 a2 a3 a4 a5 k, LeO (impl_Program_holds.f k a0 a1 a2 a3 a4 a5) (impl_Program_holds.f (k + 1) a0 a1 a2 a3 a4 a5) := by
 intro a0 a1 a2 a3 a4 a5 k
 unfold impl_Program_holds.f
 repeat' with_reducible first | apply impl_valueOf.mono | exact LeO.refl _ | exact LeO.none _ | apply LeO.ite | refine LeO.bind ?_ fun _ => ?_
set_option maxHeartbeats 8000000 in
set_option maxRecDepth 100000 in
theorem impl_Program_holds.calls (k : Nat) (a0_0 : Int) (a0_1 : Int) (A0_2 : Option Addr) (c0_2 : Nat) (l0_2 : List (S80)) (A0_3 : Option Addr) (c0_3 : Nat) (l0_3 : List (S71)) (A1 : Option Addr) (c1 : Nat) (l1 : List (S80)) (A2 : Option Addr) (c2 : Nat) (l2 : List Int) (r : Bool) (w : World) (hr0_2 : Kd.C k80 w A0_2 l0_2.length l0_2) (hc0_2 : l0_2.length ≤ c0_2) (hr0_3 : Kd.C k71 w A0_3 l0_3.length l0_3) (hc0_3 : l0_3.length ≤ c0_3) (hr1 : Kd.C k80 w A1 l1.length l1) (hc1 : l1.length ≤ c1) (hr2 : Kd.C (Kd.int .u64) w A2 l2.length l2) (hc2 : l2.length ≤ c2) (h : impl_Program_holds.f k a0_0 a0_1 l0_2 l0_3 l1 l2 = some r) :
  Calls Try.prog 38 #[.agg #[.int .i64 a0_0, .int .i64 a0_1, .slice A0_2 l0_2.length c0_2, .slice A0_3 l0_3.length c0_3], .slice A1 l1.length c1, .slice A2 l2.length c2] w fun e w' => e = .returned (.bool r) ∧ Below w.heap.size w w' := by
 have hu33 := Try.underlying33
 have HR0_2 := am_ hr0_2
 have HC0_2 := am_ hc0_2
 clear hr0_2 hc0_2
 have HR0_3 := am_ hr0_3
 have HC0_3 := am_ hc0_3
 clear hr0_3 hc0_3
 have HR1 := am_ hr1
 have HC1 := am_ hc1
 clear hr1 hc1
 have HR2 := am_ hr2
 have HC2 := am_ hc2
 clear hr2 hc2
 have HB := am_ (Below.refl w.heap.size w)
 have H := h
 clear h
 unfold impl_Program_holds.f at H
 obtain ⟨t419, A40, H⟩ := Sh.bd H
 have A4 := am_ A40
 clear A40
 obtain rfl := Option.some.inj H
 go_enter Try.func38, Try.ntmps38
 go_wp2_with (first | ((with_reducible refine gate_dst (N := 3) rfl ?_); refine Sh.bx (N := 3) (cs := #[.int .i64 a0_0, .int .i64 a0_1, .slice A0_2 l0_2.length c0_2, .slice A0_3 l0_3.length c0_3]) (t := 33) (h := ?_); intro gb418 hg w5 hbox hb; have BK418 := am_ hbox; have GW418 := am_ (Sh.gw (w := w) hg); have GE418 := am_ (Sh.gw (w := w) hg); replace HB := am_ (below_step Sh.bw hb); clear hb hbox hg; obtain ⟨hcz6_0, hcz6_1, hcz6_2, hcz6_3, hfz6_0, hfz6_1, hfz6_2, hfz6_3⟩ := Sh.b4 BK418.out) | ((with_reducible refine gate_callee (f := 67) rfl ?_); refine Sh.gL (some 11) Try.func67 #[.int .i64 a0_0, .slice A1 l1.length c1, .slice A2 l2.length c2] (h := ?_); (with_reducible refine (impl_valueOf.calls k a0_0 _ _ l1 _ _ l2 t419 _ (Sh.cB HR1.out) HC1.out (Sh.cB HR2.out) HC2.out A4.out).mono ?_); rintro e w7 ⟨rfl, hb⟩; refine ⟨_, rfl, ?_⟩; replace BK418 := am_ (Sh.bb BK418.out hb); replace HB := am_ (below_step Sh.bw hb); (try clear hb); (try clear hb2); (try clear hk); (try clear hi)))
 go_ret
 exact ⟨Sh.eR, Sh.bw⟩
def spec_l7Small.f (k : Nat) (a0_0 : Int) (a0_1 : Int) (l0_2 : List (S80)) (l0_3 : List (S71)) : Option (Bool) := (spec_GoodProgram.f k a0_0 a0_1 l0_2 l0_3).bind fun t433 => (if t433 = true then (some (decide ((wrap64 (a0_0 * a0_1)) ≤ 5))) else (some false))
theorem spec_l7Small.mono : ∀ a0 a1 a2 a3 k, LeO (spec_l7Small.f k a0 a1 a2 a3) (spec_l7Small.f (k + 1) a0 a1 a2 a3) := by
 intro a0 a1 a2 a3 k
 unfold spec_l7Small.f
 repeat' with_reducible first | apply spec_GoodProgram.mono | exact LeO.refl _ | exact LeO.none _ | apply LeO.ite | refine LeO.bind ?_ fun _ => ?_
set_option maxHeartbeats 8000000 in
set_option maxRecDepth 100000 in
theorem spec_l7Small.calls (k : Nat) (a0_0 : Int) (a0_1 : Int) (A0_2 : Option Addr) (c0_2 : Nat) (l0_2 : List (S80)) (A0_3 : Option Addr) (c0_3 : Nat) (l0_3 : List (S71)) (r : Bool) (w : World) (hr0_2 : Kd.C k80 w A0_2 l0_2.length l0_2) (hc0_2 : l0_2.length ≤ c0_2) (hr0_3 : Kd.C k71 w A0_3 l0_3.length l0_3) (hc0_3 : l0_3.length ≤ c0_3) (h : spec_l7Small.f k a0_0 a0_1 l0_2 l0_3 = some r) :
  Calls Try.prog 40 #[.agg #[.int .i64 a0_0, .int .i64 a0_1, .slice A0_2 l0_2.length c0_2, .slice A0_3 l0_3.length c0_3]] w fun e w' => e = .returned (.bool r) ∧ Below w.heap.size w w' := by
 have hu33 := Try.underlying33
 have HR0_2 := am_ hr0_2
 have HC0_2 := am_ hc0_2
 clear hr0_2 hc0_2
 have HR0_3 := am_ hr0_3
 have HC0_3 := am_ hc0_3
 clear hr0_3 hc0_3
 have HB := am_ (Below.refl w.heap.size w)
 have H := h
 clear h
 unfold spec_l7Small.f at H
 obtain ⟨t433, A20, H⟩ := Sh.bd H
 have A2 := am_ A20
 clear A20
 by_cases c3 : t433 = true
 ·subst c3
  rw [if_pos rfl] at H
  obtain rfl := Option.some.inj H
  go_enter Try.func40, Try.ntmps40
  go_wp2_with (first | ((with_reducible refine gate_dst (N := 1) rfl ?_); refine Sh.bx (N := 1) (cs := #[.int .i64 a0_0, .int .i64 a0_1, .slice A0_2 l0_2.length c0_2, .slice A0_3 l0_3.length c0_3]) (t := 33) (h := ?_); intro gb432 hg w4 hbox hb; have BK432 := am_ hbox; have GW432 := am_ (Sh.gw (w := w) hg); have GE432 := am_ (Sh.gw (w := w) hg); replace HB := am_ (below_step Sh.bw hb); clear hb hbox hg; obtain ⟨hcz5_0, hcz5_1, hcz5_2, hcz5_3, hfz5_0, hfz5_1, hfz5_2, hfz5_3⟩ := Sh.b4 BK432.out) | ((with_reducible refine gate_callee (f := 33) rfl ?_); refine Sh.gL (some 4) Try.func33 #[.agg #[.int .i64 a0_0, .int .i64 a0_1, .slice A0_2 l0_2.length c0_2, .slice A0_3 l0_3.length c0_3]] (h := ?_); (with_reducible refine (spec_GoodProgram.calls k a0_0 a0_1 _ _ l0_2 _ _ l0_3 true _ (Sh.cB HR0_2.out) HC0_2.out (Sh.cB HR0_3.out) HC0_3.out A2.out).mono ?_); rintro e w6 ⟨rfl, hb⟩; refine ⟨_, rfl, ?_⟩; replace BK432 := am_ (Sh.bb BK432.out hb); replace HB := am_ (below_step Sh.bw hb); (try clear hb); (try clear hb2); (try clear hk); (try clear hi); obtain ⟨hcz7_0, hcz7_1, hcz7_2, hcz7_3, hfz7_0, hfz7_1, hfz7_2, hfz7_3⟩ := Sh.b4 BK432.out))
  go_ret
  exact ⟨Sh.eR, Sh.bw⟩
 ·replace c3 := Bool.eq_false_iff.mpr c3
  subst c3
  rw [Sh.nf] at H
  obtain rfl := Option.some.inj H
  go_enter Try.func40, Try.ntmps40
  go_wp2_with (first | ((with_reducible refine gate_dst (N := 1) rfl ?_); refine Sh.bx (N := 1) (cs := #[.int .i64 a0_0, .int .i64 a0_1, .slice A0_2 l0_2.length c0_2, .slice A0_3 l0_3.length c0_3]) (t := 33) (h := ?_); intro gb432 hg w8 hbox hb; have BK432 := am_ hbox; have GW432 := am_ (Sh.gw (w := w) hg); have GE432 := am_ (Sh.gw (w := w) hg); replace HB := am_ (below_step Sh.bw hb); clear hb hbox hg; obtain ⟨hcz9_0, hcz9_1, hcz9_2, hcz9_3, hfz9_0, hfz9_1, hfz9_2, hfz9_3⟩ := Sh.b4 BK432.out) | ((with_reducible refine gate_callee (f := 33) rfl ?_); refine Sh.gL (some 4) Try.func33 #[.agg #[.int .i64 a0_0, .int .i64 a0_1, .slice A0_2 l0_2.length c0_2, .slice A0_3 l0_3.length c0_3]] (h := ?_); (with_reducible refine (spec_GoodProgram.calls k a0_0 a0_1 _ _ l0_2 _ _ l0_3 false _ (Sh.cB HR0_2.out) HC0_2.out (Sh.cB HR0_3.out) HC0_3.out A2.out).mono ?_); rintro e w10 ⟨rfl, hb⟩; refine ⟨_, rfl, ?_⟩; replace BK432 := am_ (Sh.bb BK432.out hb); replace HB := am_ (below_step Sh.bw hb); (try clear hb); (try clear hb2); (try clear hk); (try clear hi)))
  go_ret
  exact ⟨Sh.eR, Sh.bw⟩
def spec_l7Many.f (a0_0 : Int) (a0_1 : Int) (l0_2 : List (S80)) (l0_3 : List (S71)) : Option (Int) := if 0 ≤ (IntKind.u64.wrap (wrap64 (a0_0 * a0_1))) then (some (shl .i64 1 (IntKind.u64.wrap (wrap64 (a0_0 * a0_1))))) else (none)
set_option maxHeartbeats 8000000 in
set_option maxRecDepth 100000 in
theorem spec_l7Many.calls (a0_0 : Int) (a0_1 : Int) (A0_2 : Option Addr) (c0_2 : Nat) (l0_2 : List (S80)) (A0_3 : Option Addr) (c0_3 : Nat) (l0_3 : List (S71)) (r : Int) (w : World) (hr0_2 : Kd.C k80 w A0_2 l0_2.length l0_2) (hc0_2 : l0_2.length ≤ c0_2) (hr0_3 : Kd.C k71 w A0_3 l0_3.length l0_3) (hc0_3 : l0_3.length ≤ c0_3) (h : spec_l7Many.f a0_0 a0_1 l0_2 l0_3 = some r) :
  Calls Try.prog 69 #[.agg #[.int .i64 a0_0, .int .i64 a0_1, .slice A0_2 l0_2.length c0_2, .slice A0_3 l0_3.length c0_3]] w fun e w' => e = .returned (.int .i64 r) ∧ Below w.heap.size w w' := by
 have hu33 := Try.underlying33
 have HR0_2 := am_ hr0_2
 have HC0_2 := am_ hc0_2
 clear hr0_2 hc0_2
 have HR0_3 := am_ hr0_3
 have HC0_3 := am_ hc0_3
 clear hr0_3 hc0_3
 have HB := am_ (Below.refl w.heap.size w)
 have H := h
 clear h
 unfold spec_l7Many.f at H
 obtain ⟨ji2, hj1⟩ : ∃ j_ : Int, (IntKind.u64.wrap (wrap64 (a0_0 * a0_1))) = j_ := ⟨_, rfl⟩
 replace H : (if 0 ≤ (ji2) then (some (shl .i64 1 (ji2))) else (none)) = some r := by first | (rw [hj1] at H; exact H) | (simp only [hj1] at H ⊢; exact H)
 by_cases c3 : 0 ≤ (ji2)
 ·rw [if_pos c3] at H
  have c3b0 := eq_true c3
  have c3b1 : decide (0 ≤ (ji2)) = true := decide_eq_true c3
  clear c3
  obtain ⟨ji4, hj2⟩ : ∃ j_ : Int, (shl .i64 1 (ji2)) = j_ := ⟨_, rfl⟩
  replace H : (some ji4) = some r := by first | (rw [hj2] at H; exact H) | (simp only [hj2] at H ⊢; exact H)
  have hji4_ : (IntKind.i64.wrap (1 * 2 ^ min (ji2).toNat 64)) = ji4 := hj2
  have hji4z : (ji2) ≤ 64 → (IntKind.i64.wrap (1 * 2 ^ (ji2).toNat)) = ji4 := shl_small hj2
  have hji4u : (IntKind.i64.wrap (2 ^ min (ji2).toNat 64)) = ji4 := by have h_ := hji4_; rw [Int.one_mul] at h_; exact h_
  have hji4v : (ji2) ≤ 64 → (IntKind.i64.wrap (2 ^ (ji2).toNat)) = ji4 := fun hle_ => by have h_ := hji4z hle_; rw [Int.one_mul] at h_; exact h_
  have hji4y : (wrap64 (1 * 2 ^ min (ji2).toNat 64)) = ji4 := (i64_w _).symm.trans hji4_
  have hji4x : (ji2) ≤ 64 → (wrap64 (1 * 2 ^ (ji2).toNat)) = ji4 := fun h_ => (i64_w _).symm.trans (hji4z h_)
  obtain rfl := Option.some.inj H
  go_enter Try.func69, Try.ntmps69
  go_wp2_with (first | ((with_reducible refine gate_dst (N := 1) rfl ?_); refine Sh.bx (N := 1) (cs := #[.int .i64 a0_0, .int .i64 a0_1, .slice A0_2 l0_2.length c0_2, .slice A0_3 l0_3.length c0_3]) (t := 33) (h := ?_); intro gb434 hg w5 hbox hb; have BK434 := am_ hbox; have GW434 := am_ (Sh.gw (w := w) hg); have GE434 := am_ (Sh.gw (w := w) hg); replace HB := am_ (below_step Sh.bw hb); clear hb hbox hg; obtain ⟨hcz6_0, hcz6_1, hcz6_2, hcz6_3, hfz6_0, hfz6_1, hfz6_2, hfz6_3⟩ := Sh.b4 BK434.out))
  go_ret
  exact ⟨by first | rfl | (simp [errW_none, errW_some] <;> rfl) | (simp only [← hj1, ← hj2]; first | rfl | (simp [errW_none, errW_some] <;> rfl)) | (simp [*, errW_none, errW_some] <;> rfl), Sh.bw⟩
 ·rw [if_neg c3] at H
  exact absurd H (by simp)
def spec_l7Of.l0 : Nat → Int → List Int → Int → Int → Int → List (S80) → List (S71) → Option (List Int)
 | 0, _, _, _, _, _, _, _ => none
 | k + 1, x1, x5, x6, x440000, x440001, x440002, x440003 => if x6 < x440001 then (if 0 ≤ (IntKind.u64.wrap (wrap64 (x6 * x440000))) then (if 0 ≤ (IntKind.u64.wrap (x440000)) then (if x5.length < 17592186044416 then (spec_l7Of.l0 k x1 (x5 ++ [IntKind.u64.wrap (Go.bits .and .i64 (shr .i64 x1 (IntKind.u64.wrap (wrap64 (x6 * x440000)))) (wrap64 ((shl .i64 1 (IntKind.u64.wrap (x440000))) - 1)))]) (wrap64 (x6 + 1)) x440000 x440001 x440002 x440003) else (none)) else (none)) else (none)) else (some x5)
def spec_l7Of.f (k : Nat) (a0_0 : Int) (a0_1 : Int) (l0_2 : List (S80)) (l0_3 : List (S71)) (a1 : Int) : Option (List Int) := spec_l7Of.l0 k a1 ([] : List Int) 0 a0_0 a0_1 l0_2 l0_3
theorem spec_l7Of.mono_l : ∀ k, (∀ y0 y1 y2 y3 y4 y5 y6, LeO (spec_l7Of.l0 k y0 y1 y2 y3 y4 y5 y6) (spec_l7Of.l0 (k + 1) y0 y1 y2 y3 y4 y5 y6))
 | 0 => fun _ _ _ _ _ _ _ r h => by simp [spec_l7Of.l0] at h
 | k + 1 => by
  have ih0 := spec_l7Of.mono_l k
  ·intro y0 y1 y2 y3 y4 y5 y6
   unfold spec_l7Of.l0
   repeat' with_reducible first | apply ih0 | exact LeO.refl _ | exact LeO.none _ | apply LeO.ite | refine LeO.bind ?_ fun _ => ?_
theorem spec_l7Of.mono : ∀ a0 a1 a2 a3 a4 k, LeO (spec_l7Of.f k a0 a1 a2 a3 a4) (spec_l7Of.f (k + 1) a0 a1 a2 a3 a4) := by
 intro a0 a1 a2 a3 a4 k
 have ih0 := spec_l7Of.mono_l k
 unfold spec_l7Of.f
 repeat' with_reducible first | apply ih0 | exact LeO.refl _ | exact LeO.none _ | apply LeO.ite | refine LeO.bind ?_ fun _ => ?_
set_option maxHeartbeats 8000000 in
set_option maxRecDepth 100000 in
theorem spec_l7Of.calls (k : Nat) (a0_0 : Int) (a0_1 : Int) (A0_2 : Option Addr) (c0_2 : Nat) (l0_2 : List (S80)) (A0_3 : Option Addr) (c0_3 : Nat) (l0_3 : List (S71)) (a1 : Int) (r : List Int) (w : World) (hr0_2 : Kd.C k80 w A0_2 l0_2.length l0_2) (hc0_2 : l0_2.length ≤ c0_2) (hr0_3 : Kd.C k71 w A0_3 l0_3.length l0_3) (hc0_3 : l0_3.length ≤ c0_3) (h : spec_l7Of.f k a0_0 a0_1 l0_2 l0_3 a1 = some r) :
  Calls Try.prog 53 #[.agg #[.int .i64 a0_0, .int .i64 a0_1, .slice A0_2 l0_2.length c0_2, .slice A0_3 l0_3.length c0_3], .int .i64 a1] w fun e w' => ∃ v0_ : Value, e = .returned (v0_) ∧ Kd.R (Kd.int .u64) 61 w' w.heap.size (fun _ => True) v0_ r ∧ Below w.heap.size w w' := by
 have hu33 := Try.underlying33
 have HR0_2 := am_ hr0_2
 have HC0_2 := am_ hc0_2
 clear hr0_2 hc0_2
 have HR0_3 := am_ hr0_3
 have HC0_3 := am_ hc0_3
 clear hr0_3 hc0_3
 have HB := am_ (Below.refl w.heap.size w)
 have H := h
 clear h
 unfold spec_l7Of.f at H
 have H' := am_ H
 clear H
 go_enter Try.func53, Try.ntmps53
 go_wp2_with (first | ((with_reducible refine gate_dst (N := 2) rfl ?_); refine Sh.bx (N := 2) (cs := #[.int .i64 a0_0, .int .i64 a0_1, .slice A0_2 l0_2.length c0_2, .slice A0_3 l0_3.length c0_3]) (t := 33) (h := ?_); intro gb439 hg w3 hbox hb; have BK439 := am_ hbox; have GW439 := am_ (Sh.gw (w := w) hg); have GE439 := am_ (Sh.gw (w := w) hg); replace HB := am_ (below_step Sh.bw hb); clear hb hbox hg))
 go_loopg [5, 6] k (fun kq v5 v6 w' => ∃ (x5_1 : List Int) (x6_1 : Int), v6 = .int .i64 x6_1 ∧ Aside0 (spec_l7Of.l0 kq a1 x5_1 x6_1 a0_0 a0_1 l0_2 l0_3 = some r) ∧ Aside0 (kq ≤ k) ∧ Aside0 (Kd.R (Kd.int .u64) 61 w' w.heap.size (fun _ => True) v5 x5_1) ∧ Aside0 (w'.heap[gb439]? = some (.cells #[.int .i64 a0_0, .int .i64 a0_1, (.slice A0_2 l0_2.length c0_2), (.slice A0_3 l0_3.length c0_3)] 33 (0, 0))) ∧ Aside0 (Below w.heap.size w w'))
 case atStart => exact ⟨(([] : List Int)), (0), (Sh.es), H', ⟨Nat.le_refl _⟩, ⟨by first | exact Kd.R_nil _ _ _ _ _ | exact Kd.N_nil _ _ _ _ _ | exact Kd.V_nil _ _ _ _ _ | exact Kd.Q_nil _ _ _ _ _ | exact Kd.S_nil _ _ _ _ _⟩, ⟨by (with_reducible repeat (first | refine blk_drewN ?_ _ | refine blk_drew ?_ | refine blk_alloc ?_ _)); exact BK439.out⟩, ⟨Sh.bw⟩⟩
 case round =>
  clear H'
  try clear p2
  obtain ⟨x5_1, x6_1, rfl, HA, HK1, HO_5, BK439, HB⟩ := hrel
  cases gk with
  | zero => exact absurd HA.out (by simp [spec_l7Of.l0])
  | succ k1 =>
   have H := HA.out
   clear HA
   simp only [spec_l7Of.l0] at H
   by_cases c4 : x6_1 < a0_1
   ·rw [if_pos c4] at H
    have c4b0 : decide (x6_1 < a0_1) = true := decide_eq_true c4
    clear c4
    obtain ⟨ji5, hj1⟩ : ∃ j_ : Int, (IntKind.u64.wrap (wrap64 (x6_1 * a0_0))) = j_ := ⟨_, rfl⟩
    replace H : (if 0 ≤ (ji5) then (if 0 ≤ (IntKind.u64.wrap (a0_0)) then (if x5_1.length < 17592186044416 then (spec_l7Of.l0 k1 a1 (x5_1 ++ [IntKind.u64.wrap (Go.bits .and .i64 (shr .i64 a1 (ji5)) (wrap64 ((shl .i64 1 (IntKind.u64.wrap (a0_0))) - 1)))]) (wrap64 (x6_1 + 1)) a0_0 a0_1 l0_2 l0_3) else (none)) else (none)) else (none)) = some r := by first | (rw [hj1] at H; exact H) | (simp only [hj1] at H ⊢; exact H)
    by_cases c6 : 0 ≤ (ji5)
    ·rw [if_pos c6] at H
     have c6b0 := eq_true c6
     have c6b1 : decide (0 ≤ (ji5)) = true := decide_eq_true c6
     clear c6
     obtain ⟨ji7, hj2⟩ : ∃ j_ : Int, (shr .i64 a1 (ji5)) = j_ := ⟨_, rfl⟩
     replace H : (if 0 ≤ (IntKind.u64.wrap (a0_0)) then (if x5_1.length < 17592186044416 then (spec_l7Of.l0 k1 a1 (x5_1 ++ [IntKind.u64.wrap (Go.bits .and .i64 (ji7) (wrap64 ((shl .i64 1 (IntKind.u64.wrap (a0_0))) - 1)))]) (wrap64 (x6_1 + 1)) a0_0 a0_1 l0_2 l0_3) else (none)) else (none)) = some r := by first | (rw [hj2] at H; exact H) | (simp only [hj2] at H ⊢; exact H)
     have hji7_ : (a1 / 2 ^ min (ji5).toNat 64) = ji7 := hj2
     have hji7z : (ji5) ≤ 64 → (a1 / 2 ^ (ji5).toNat) = ji7 := shr_small hj2
     obtain ⟨ji8, hj3⟩ : ∃ j_ : Int, (IntKind.u64.wrap (a0_0)) = j_ := ⟨_, rfl⟩
     replace H : (if 0 ≤ (ji8) then (if x5_1.length < 17592186044416 then (spec_l7Of.l0 k1 a1 (x5_1 ++ [IntKind.u64.wrap (Go.bits .and .i64 (ji7) (wrap64 ((shl .i64 1 (ji8)) - 1)))]) (wrap64 (x6_1 + 1)) a0_0 a0_1 l0_2 l0_3) else (none)) else (none)) = some r := by first | (rw [hj3] at H; exact H) | (simp only [hj3] at H ⊢; exact H)
     by_cases c9 : 0 ≤ (ji8)
     ·rw [if_pos c9] at H
      have c9b0 := eq_true c9
      have c9b1 : decide (0 ≤ (ji8)) = true := decide_eq_true c9
      clear c9
      obtain ⟨ji10, hj4⟩ : ∃ j_ : Int, (shl .i64 1 (ji8)) = j_ := ⟨_, rfl⟩
      replace H : (if x5_1.length < 17592186044416 then (spec_l7Of.l0 k1 a1 (x5_1 ++ [IntKind.u64.wrap (Go.bits .and .i64 (ji7) (wrap64 ((ji10) - 1)))]) (wrap64 (x6_1 + 1)) a0_0 a0_1 l0_2 l0_3) else (none)) = some r := by first | (rw [hj4] at H; exact H) | (simp only [hj4] at H ⊢; exact H)
      have hji10_ : (IntKind.i64.wrap (1 * 2 ^ min (ji8).toNat 64)) = ji10 := hj4
      have hji10z : (ji8) ≤ 64 → (IntKind.i64.wrap (1 * 2 ^ (ji8).toNat)) = ji10 := shl_small hj4
      have hji10u : (IntKind.i64.wrap (2 ^ min (ji8).toNat 64)) = ji10 := by have h_ := hji10_; rw [Int.one_mul] at h_; exact h_
      have hji10v : (ji8) ≤ 64 → (IntKind.i64.wrap (2 ^ (ji8).toNat)) = ji10 := fun hle_ => by have h_ := hji10z hle_; rw [Int.one_mul] at h_; exact h_
      have hji10y : (wrap64 (1 * 2 ^ min (ji8).toNat 64)) = ji10 := (i64_w _).symm.trans hji10_
      have hji10x : (ji8) ≤ 64 → (wrap64 (1 * 2 ^ (ji8).toNat)) = ji10 := fun h_ => (i64_w _).symm.trans (hji10z h_)
      by_cases c11 : x5_1.length < 17592186044416
      ·rw [if_pos c11] at H
       have LMc11 := am_ c11
       clear c11
       obtain ⟨y440, hy440⟩ : ∃ y_ : List Int, y_ = (x5_1 ++ [IntKind.u64.wrap (Go.bits .and .i64 (ji7) (wrap64 ((ji10) - 1)))]) := ⟨_, rfl⟩
       replace H : (spec_l7Of.l0 k1 a1 y440 (wrap64 (x6_1 + 1)) a0_0 a0_1 l0_2 l0_3) = some r := by first | (rw [hy440]; with_reducible exact H) | (have H2_ := (Option.bind_some _ _).symm.trans H; rw [hy440]; with_reducible exact H2_) | (have H2_ := (Option.bind_some _ _).symm.trans H; with_reducible exact H2_) | with_reducible exact H | (rw [hy440]; exact H) | exact H
       have Ny440 := am_ hy440
       clear hy440
       have H' := am_ H
       clear H
       have hcz12_0 := Sh.bc BK439.out 0
       have hcz12_1 := Sh.bc BK439.out 1
       have hcz12_2 := Sh.bc BK439.out 2
       have hcz12_3 := Sh.bc BK439.out 3
       have hfz12_0 := blk_frozen BK439.out 0
       have hfz12_1 := blk_frozen BK439.out 1
       have hfz12_2 := blk_frozen BK439.out 2
       have hfz12_3 := blk_frozen BK439.out 3
       go_wp2_with (first | ((with_reducible refine gate_builtin (b := .append) (xs := #[.tmp 13, .tmp 28]) rfl ?_); at_builtin; refine Kd.R_append (Kd.int .u64) (w0 := w) w.heap.size rfl (.tmp 13) (.tmp 28) 26 61 (.int .u64 0) 8 rfl Try.underlying26 info61 rfl (by decide) (by omega) u5 x5_1 (IntKind.u64.wrap (Go.bits .and .i64 (ji7) (wrap64 ((ji10) - 1)))) [.int .u64 (IntKind.u64.wrap (Go.bits .and .i64 (ji7) (wrap64 ((ji10) - 1))))] (fun _ => True) (fun _ => False) rfl rfl ?aP (fun _ hk => hk.elim) ?aF ?aO ?aB ?aS ?aL ?_; (case aP => exact rfl); (case aB => exact Sh.bw); (case aF => exact (fun _ _ => trivial)); (case aO => exact (by (with_reducible repeat (first | apply Kd.R_alloc | apply Kd.R_drewN | apply Kd.R_drew)); exact HO_5.out)); (case aS => exact (below_size Sh.bw)); (case aL => have := LMc11.out; omega); intro v441 w13 ho hb hg hat; rw [← Ny440.out] at ho; have n0_ := am_ (blk_grown (g := gb439) (o := .cells #[.int .i64 a0_0, .int .i64 a0_1, .slice A0_2 l0_2.length c0_2, .slice A0_3 l0_3.length c0_3] 33 (0, 0)) (by (with_reducible repeat (first | refine blk_drewN ?_ _ | refine blk_drew ?_ | refine blk_alloc ?_ _)); exact BK439.out) hg (Kd.R_ne HO_5.out BK439.out (by decide))); have n1_ := am_ hb; have n2_ := am_ ho; clear BK439; clear HB; clear HO_5; have BK439 := n0_; have HB := n1_; have HO442 := n2_; clear n0_ n1_ n2_; clear ho hb hg hat))
       go_roundg k1
       case measure => have := HK1.out; omega
       case rel => exact ⟨(y440), (wrap64 (x6_1 + 1)), (Sh.es), H', ⟨by have := HK1.out; omega⟩, ⟨by (with_reducible repeat (first | apply Kd.R_alloc | apply Kd.R_drewN | apply Kd.R_drew)); exact HO442.out⟩, ⟨by (with_reducible repeat (first | refine blk_drewN ?_ _ | refine blk_drew ?_ | refine blk_alloc ?_ _)); exact BK439.out⟩, ⟨Sh.bw⟩⟩
      ·rw [if_neg c11] at H
       exact absurd H (by simp)
     ·rw [if_neg c9] at H
      exact absurd H (by simp)
    ·rw [if_neg c6] at H
     exact absurd H (by simp)
   ·rw [if_neg c4] at H
    have c4b0 : decide (x6_1 < a0_1) = false := decide_eq_false c4
    clear c4
    obtain rfl := Option.some.inj H
    have hcz14_0 := Sh.bc BK439.out 0
    have hcz14_1 := Sh.bc BK439.out 1
    have hcz14_2 := Sh.bc BK439.out 2
    have hcz14_3 := Sh.bc BK439.out 3
    have hfz14_0 := blk_frozen BK439.out 0
    have hfz14_1 := blk_frozen BK439.out 1
    have hfz14_2 := blk_frozen BK439.out 2
    have hfz14_3 := blk_frozen BK439.out 3
    go_wp2
    go_ret
    exact ⟨_, Sh.eR, by (with_reducible repeat (first | apply Kd.R_alloc | apply Kd.R_drewN | apply Kd.R_drew)); exact HO_5.out, Sh.bw⟩
def impl_isSmall.f (k : Nat) (a0_0 : Int) (a0_1 : Int) (l0_2 : List (S80)) (l0_3 : List (S71)) : Option (Bool) := (impl_GoodProgram.f k a0_0 a0_1 l0_2 l0_3).bind fun t451 => (if t451 = true then (some (decide ((wrap64 (a0_0 * a0_1)) ≤ 5))) else (some false))
theorem impl_isSmall.mono : ∀ a0 a1 a2 a3 k, LeO (impl_isSmall.f k a0 a1 a2 a3) (impl_isSmall.f (k + 1) a0 a1 a2 a3) := by
 intro a0 a1 a2 a3 k
 unfold impl_isSmall.f
 repeat' with_reducible first | apply impl_GoodProgram.mono | exact LeO.refl _ | exact LeO.none _ | apply LeO.ite | refine LeO.bind ?_ fun _ => ?_
set_option maxHeartbeats 8000000 in
set_option maxRecDepth 100000 in
theorem impl_isSmall.calls (k : Nat) (a0_0 : Int) (a0_1 : Int) (A0_2 : Option Addr) (c0_2 : Nat) (l0_2 : List (S80)) (A0_3 : Option Addr) (c0_3 : Nat) (l0_3 : List (S71)) (r : Bool) (w : World) (hr0_2 : Kd.C k80 w A0_2 l0_2.length l0_2) (hc0_2 : l0_2.length ≤ c0_2) (hr0_3 : Kd.C k71 w A0_3 l0_3.length l0_3) (hc0_3 : l0_3.length ≤ c0_3) (h : impl_isSmall.f k a0_0 a0_1 l0_2 l0_3 = some r) :
  Calls Try.prog 42 #[.agg #[.int .i64 a0_0, .int .i64 a0_1, .slice A0_2 l0_2.length c0_2, .slice A0_3 l0_3.length c0_3]] w fun e w' => e = .returned (.bool r) ∧ Below w.heap.size w w' := by
 have hu33 := Try.underlying33
 have HR0_2 := am_ hr0_2
 have HC0_2 := am_ hc0_2
 clear hr0_2 hc0_2
 have HR0_3 := am_ hr0_3
 have HC0_3 := am_ hc0_3
 clear hr0_3 hc0_3
 have HB := am_ (Below.refl w.heap.size w)
 have H := h
 clear h
 unfold impl_isSmall.f at H
 obtain ⟨t451, A20, H⟩ := Sh.bd H
 have A2 := am_ A20
 clear A20
 by_cases c3 : t451 = true
 ·subst c3
  rw [if_pos rfl] at H
  obtain rfl := Option.some.inj H
  go_enter Try.func42, Try.ntmps42
  go_wp2_with (first | ((with_reducible refine gate_dst (N := 1) rfl ?_); refine Sh.bx (N := 1) (cs := #[.int .i64 a0_0, .int .i64 a0_1, .slice A0_2 l0_2.length c0_2, .slice A0_3 l0_3.length c0_3]) (t := 33) (h := ?_); intro gb450 hg w4 hbox hb; have BK450 := am_ hbox; have GW450 := am_ (Sh.gw (w := w) hg); have GE450 := am_ (Sh.gw (w := w) hg); replace HB := am_ (below_step Sh.bw hb); clear hb hbox hg; obtain ⟨hcz5_0, hcz5_1, hcz5_2, hcz5_3, hfz5_0, hfz5_1, hfz5_2, hfz5_3⟩ := Sh.b4 BK450.out) | ((with_reducible refine gate_callee (f := 65) rfl ?_); refine Sh.gL (some 4) Try.func65 #[.agg #[.int .i64 a0_0, .int .i64 a0_1, .slice A0_2 l0_2.length c0_2, .slice A0_3 l0_3.length c0_3]] (h := ?_); (with_reducible refine (impl_GoodProgram.calls k a0_0 a0_1 _ _ l0_2 _ _ l0_3 true _ (Sh.cB HR0_2.out) HC0_2.out (Sh.cB HR0_3.out) HC0_3.out A2.out).mono ?_); rintro e w6 ⟨rfl, hb⟩; refine ⟨_, rfl, ?_⟩; replace BK450 := am_ (Sh.bb BK450.out hb); replace HB := am_ (below_step Sh.bw hb); (try clear hb); (try clear hb2); (try clear hk); (try clear hi); obtain ⟨hcz7_0, hcz7_1, hcz7_2, hcz7_3, hfz7_0, hfz7_1, hfz7_2, hfz7_3⟩ := Sh.b4 BK450.out))
  go_ret
  exact ⟨Sh.eR, Sh.bw⟩
 ·replace c3 := Bool.eq_false_iff.mpr c3
  subst c3
  rw [Sh.nf] at H
  obtain rfl := Option.some.inj H
  go_enter Try.func42, Try.ntmps42
  go_wp2_with (first | ((with_reducible refine gate_dst (N := 1) rfl ?_); refine Sh.bx (N := 1) (cs := #[.int .i64 a0_0, .int .i64 a0_1, .slice A0_2 l0_2.length c0_2, .slice A0_3 l0_3.length c0_3]) (t := 33) (h := ?_); intro gb450 hg w8 hbox hb; have BK450 := am_ hbox; have GW450 := am_ (Sh.gw (w := w) hg); have GE450 := am_ (Sh.gw (w := w) hg); replace HB := am_ (below_step Sh.bw hb); clear hb hbox hg; obtain ⟨hcz9_0, hcz9_1, hcz9_2, hcz9_3, hfz9_0, hfz9_1, hfz9_2, hfz9_3⟩ := Sh.b4 BK450.out) | ((with_reducible refine gate_callee (f := 65) rfl ?_); refine Sh.gL (some 4) Try.func65 #[.agg #[.int .i64 a0_0, .int .i64 a0_1, .slice A0_2 l0_2.length c0_2, .slice A0_3 l0_3.length c0_3]] (h := ?_); (with_reducible refine (impl_GoodProgram.calls k a0_0 a0_1 _ _ l0_2 _ _ l0_3 false _ (Sh.cB HR0_2.out) HC0_2.out (Sh.cB HR0_3.out) HC0_3.out A2.out).mono ?_); rintro e w10 ⟨rfl, hb⟩; refine ⟨_, rfl, ?_⟩; replace BK450 := am_ (Sh.bb BK450.out hb); replace HB := am_ (below_step Sh.bw hb); (try clear hb); (try clear hb2); (try clear hk); (try clear hi)))
  go_ret
  exact ⟨Sh.eR, Sh.bw⟩
def impl_Program_states.f (a0_0 : Int) (a0_1 : Int) (l0_2 : List (S80)) (l0_3 : List (S71)) : Option (Int) := if 0 ≤ (wrap64 (a0_0 * a0_1)) then (some (shl .i64 1 (wrap64 (a0_0 * a0_1)))) else (none)
set_option maxHeartbeats 8000000 in
set_option maxRecDepth 100000 in
theorem impl_Program_states.calls (a0_0 : Int) (a0_1 : Int) (A0_2 : Option Addr) (c0_2 : Nat) (l0_2 : List (S80)) (A0_3 : Option Addr) (c0_3 : Nat) (l0_3 : List (S71)) (r : Int) (w : World) (hr0_2 : Kd.C k80 w A0_2 l0_2.length l0_2) (hc0_2 : l0_2.length ≤ c0_2) (hr0_3 : Kd.C k71 w A0_3 l0_3.length l0_3) (hc0_3 : l0_3.length ≤ c0_3) (h : impl_Program_states.f a0_0 a0_1 l0_2 l0_3 = some r) :
  Calls Try.prog 70 #[.agg #[.int .i64 a0_0, .int .i64 a0_1, .slice A0_2 l0_2.length c0_2, .slice A0_3 l0_3.length c0_3]] w fun e w' => e = .returned (.int .i64 r) ∧ Below w.heap.size w w' := by
 have hu33 := Try.underlying33
 have HR0_2 := am_ hr0_2
 have HC0_2 := am_ hc0_2
 clear hr0_2 hc0_2
 have HR0_3 := am_ hr0_3
 have HC0_3 := am_ hc0_3
 clear hr0_3 hc0_3
 have HB := am_ (Below.refl w.heap.size w)
 have H := h
 clear h
 unfold impl_Program_states.f at H
 obtain ⟨ji2, hj1⟩ : ∃ j_ : Int, (wrap64 (a0_0 * a0_1)) = j_ := ⟨_, rfl⟩
 replace H : (if 0 ≤ (ji2) then (some (shl .i64 1 (ji2))) else (none)) = some r := by first | (rw [hj1] at H; exact H) | (simp only [hj1] at H ⊢; exact H)
 have hji2w : (IntKind.i64.wrap (a0_0 * a0_1)) = ji2 := (i64_w _).trans hj1
 by_cases c3 : 0 ≤ (ji2)
 ·rw [if_pos c3] at H
  have c3b0 := eq_true c3
  have c3b1 : decide (0 ≤ (ji2)) = true := decide_eq_true c3
  clear c3
  obtain ⟨ji4, hj2⟩ : ∃ j_ : Int, (shl .i64 1 (ji2)) = j_ := ⟨_, rfl⟩
  replace H : (some ji4) = some r := by first | (rw [hj2] at H; exact H) | (simp only [hj2] at H ⊢; exact H)
  have hji4_ : (IntKind.i64.wrap (1 * 2 ^ min (ji2).toNat 64)) = ji4 := hj2
  have hji4z : (ji2) ≤ 64 → (IntKind.i64.wrap (1 * 2 ^ (ji2).toNat)) = ji4 := shl_small hj2
  have hji4u : (IntKind.i64.wrap (2 ^ min (ji2).toNat 64)) = ji4 := by have h_ := hji4_; rw [Int.one_mul] at h_; exact h_
  have hji4v : (ji2) ≤ 64 → (IntKind.i64.wrap (2 ^ (ji2).toNat)) = ji4 := fun hle_ => by have h_ := hji4z hle_; rw [Int.one_mul] at h_; exact h_
  have hji4y : (wrap64 (1 * 2 ^ min (ji2).toNat 64)) = ji4 := (i64_w _).symm.trans hji4_
  have hji4x : (ji2) ≤ 64 → (wrap64 (1 * 2 ^ (ji2).toNat)) = ji4 := fun h_ => (i64_w _).symm.trans (hji4z h_)
  obtain rfl := Option.some.inj H
  go_enter Try.func70, Try.ntmps70
  go_wp2_with (first | ((with_reducible refine gate_dst (N := 1) rfl ?_); refine Sh.bx (N := 1) (cs := #[.int .i64 a0_0, .int .i64 a0_1, .slice A0_2 l0_2.length c0_2, .slice A0_3 l0_3.length c0_3]) (t := 33) (h := ?_); intro gb452 hg w5 hbox hb; have BK452 := am_ hbox; have GW452 := am_ (Sh.gw (w := w) hg); have GE452 := am_ (Sh.gw (w := w) hg); replace HB := am_ (below_step Sh.bw hb); clear hb hbox hg; obtain ⟨hcz6_0, hcz6_1, hcz6_2, hcz6_3, hfz6_0, hfz6_1, hfz6_2, hfz6_3⟩ := Sh.b4 BK452.out))
  go_ret
  exact ⟨by first | rfl | (simp [errW_none, errW_some] <;> rfl) | (simp only [← hj1, ← hj2]; first | rfl | (simp [errW_none, errW_some] <;> rfl)) | (simp [*, errW_none, errW_some] <;> rfl), Sh.bw⟩
 ·rw [if_neg c3] at H
  exact absurd H (by simp)
def impl_Program_stateOf.l0 : Nat → Int → List Int → Int → Int → Int → Int → List (S80) → List (S71) → Option (List Int)
 | 0, _, _, _, _, _, _, _, _ => none
 | k + 1, x1, x5, x9, x10, x457000, x457001, x457002, x457003 => if x10 < x9 then (if 0 ≤ (wrap64 (x457000 * x10)) then ((impl_mask.f x457000).bind fun t460 => (if x5.length < 17592186044416 then (impl_Program_stateOf.l0 k x1 (x5 ++ [Go.bits .and .u64 (shr .u64 (IntKind.u64.wrap (x1)) (wrap64 (x457000 * x10))) t460]) x9 (wrap64 (x10 + 1)) x457000 x457001 x457002 x457003) else (none))) else (none)) else (some x5)
def impl_Program_stateOf.f (k : Nat) (a0_0 : Int) (a0_1 : Int) (l0_2 : List (S80)) (l0_3 : List (S71)) (a1 : Int) : Option (List Int) := impl_Program_stateOf.l0 k a1 (([] : List Int)) a0_1 0 a0_0 a0_1 l0_2 l0_3
theorem impl_Program_stateOf.mono_l : ∀ k, (∀ y0 y1 y2 y3 y4 y5 y6 y7, LeO (impl_Program_stateOf.l0 k y0 y1 y2 y3 y4 y5 y6 y7) (impl_Program_stateOf.l0 (k + 1) y0 y1 y2 y3 y4 y5 y6 y7))
 | 0 => fun _ _ _ _ _ _ _ _ r h => by simp [impl_Program_stateOf.l0] at h
 | k + 1 => by
  have ih0 := impl_Program_stateOf.mono_l k
  ·intro y0 y1 y2 y3 y4 y5 y6 y7
   unfold impl_Program_stateOf.l0
   repeat' with_reducible first | apply ih0 | exact LeO.refl _ | exact LeO.none _ | apply LeO.ite | refine LeO.bind ?_ fun _ => ?_
theorem impl_Program_stateOf.mono : ∀ a0 a1 a2 a3 a4 k, LeO (impl_Program_stateOf.f k a0 a1 a2 a3 a4) (impl_Program_stateOf.f (k + 1) a0 a1 a2 a3 a4) := by
 intro a0 a1 a2 a3 a4 k
 have ih0 := impl_Program_stateOf.mono_l k
 unfold impl_Program_stateOf.f
 repeat' with_reducible first | apply ih0 | exact LeO.refl _ | exact LeO.none _ | apply LeO.ite | refine LeO.bind ?_ fun _ => ?_
def impl_Program_stateOf.T5 : Bool × List (List Nat × List Nat) := (true, [([], []), ([], []), ([1], [1]), ([], []), ([3], [3]), ([], []), ([4, 5], [4, 5]), ([2, 6], [2, 6]), ([], []), ([8], [8]), ([9], [9]), ([7, 10], [7, 10]), ([11], [11]), ([0, 12, 10], [0, 12]), ([13, 13, 0, 1, 2, 3, 4, 5, 6, 7, 8, 9, 10, 11, 12, 13], [0, 13])])
def impl_Program_stateOf.B5 : List Nat := [0, 0, 2, 0, 8, 0, 56, 126, 0, 256, 768, 2046, 4094, 8191, 16383]
theorem impl_Program_stateOf.tab5 : rtab .any (opsOf Try.f57 5) = impl_Program_stateOf.T5 := by kernel_rfl
theorem impl_Program_stateOf.bits5 : waitsOk impl_Program_stateOf.T5.2 impl_Program_stateOf.B5 = true := by kernel_rfl
set_option maxHeartbeats 8000000 in
set_option maxRecDepth 100000 in
theorem impl_Program_stateOf.calls (k : Nat) (a0_0 : Int) (a0_1 : Int) (A0_2 : Option Addr) (c0_2 : Nat) (l0_2 : List (S80)) (A0_3 : Option Addr) (c0_3 : Nat) (l0_3 : List (S71)) (a1 : Int) (r : List Int) (w : World) (hr0_2 : Kd.C k80 w A0_2 l0_2.length l0_2) (hc0_2 : l0_2.length ≤ c0_2) (hr0_3 : Kd.C k71 w A0_3 l0_3.length l0_3) (hc0_3 : l0_3.length ≤ c0_3) (h : impl_Program_stateOf.f k a0_0 a0_1 l0_2 l0_3 a1 = some r) :
  Calls Try.prog 57 #[.agg #[.int .i64 a0_0, .int .i64 a0_1, .slice A0_2 l0_2.length c0_2, .slice A0_3 l0_3.length c0_3], .int .i64 a1] w fun e w' => ∃ v0_ : Value, e = .returned (v0_) ∧ Kd.R (Kd.int .u64) 61 w' w.heap.size (fun _ => True) v0_ r ∧ Below w.heap.size w w' := by
 have hu33 := Try.underlying33
 have HR0_2 := am_ hr0_2
 have HC0_2 := am_ hc0_2
 clear hr0_2 hc0_2
 have HR0_3 := am_ hr0_3
 have HC0_3 := am_ hc0_3
 clear hr0_3 hc0_3
 have HB := am_ (Below.refl w.heap.size w)
 have H := h
 clear h
 unfold impl_Program_stateOf.f at H
 obtain ⟨y457, hy457⟩ : ∃ y_ : List Int, y_ = (([] : List Int)) := ⟨_, rfl⟩
 replace H : (impl_Program_stateOf.l0 k a1 y457 a0_1 0 a0_0 a0_1 l0_2 l0_3) = some r := by first | (rw [hy457]; with_reducible exact H) | (have H2_ := (Option.bind_some _ _).symm.trans H; rw [hy457]; with_reducible exact H2_) | (have H2_ := (Option.bind_some _ _).symm.trans H; with_reducible exact H2_) | with_reducible exact H | (rw [hy457]; exact H) | exact H
 have Ny457 := am_ hy457
 clear hy457
 have H' := am_ H
 clear H
 go_enter Try.func57, Try.ntmps57
 go_wp2_with (first | ((with_reducible refine gate_dst (N := 2) rfl ?_); refine Sh.bx (N := 2) (cs := #[.int .i64 a0_0, .int .i64 a0_1, .slice A0_2 l0_2.length c0_2, .slice A0_3 l0_3.length c0_3]) (t := 33) (h := ?_); intro gb456 hg w3 hbox hb; have BK456 := am_ hbox; have GW456 := am_ (Sh.gw (w := w) hg); have GE456 := am_ (Sh.gw (w := w) hg); replace HB := am_ (below_step Sh.bw hb); clear hb hbox hg) | ((with_reducible refine gate_dst (N := 7) rfl ?_); refine Kd.R_lit (Kd.int .u64) _ 61 ?hg (N := 7) ?hd (xs := ([] : List Int)) (inner := []) (ok := fun _ => True) (okp := fun _ => True) ?hr ?hp (fun _ hk => hk) trivial (Below.refl _ _) (Nat.le_refl _) (by simp) ?_; (case hd => rfl); (case hg => rfl); (case hr => first | (go_simp; done) | (go_simp; rfl)); (case hp => exact (Reps.none _ _)); intro v458 w4 ho5 hb hg_ hnew_; clear hg_ hnew_; (first | rw [← Ny457.out] at ho5 | (simp only [Int.reduceToNat] at ho5; rw [← Ny457.out] at ho5)); have HO459 := am_ (Kd.R_lower ho5 (below_size Sh.bw)); replace BK456 := am_ (Sh.bb BK456.out hb); replace HB := am_ (below_step Sh.bw hb); clear hb ho5; obtain ⟨hcz6_0, hcz6_1, hcz6_2, hcz6_3, hfz6_0, hfz6_1, hfz6_2, hfz6_3⟩ := Sh.b4 BK456.out))
 go_loopg [5, 10] k (fun kq v5 v10 w' => ∃ (x5_1 : List Int) (x10_1 : Int), v10 = .int .i64 x10_1 ∧ Aside0 (impl_Program_stateOf.l0 kq a1 x5_1 a0_1 x10_1 a0_0 a0_1 l0_2 l0_3 = some r) ∧ Aside0 (kq ≤ k) ∧ Aside0 (Kd.R (Kd.int .u64) 61 w' w.heap.size (fun _ => True) v5 x5_1) ∧ Aside0 (w'.heap[gb456]? = some (.cells #[.int .i64 a0_0, .int .i64 a0_1, (.slice A0_2 l0_2.length c0_2), (.slice A0_3 l0_3.length c0_3)] 33 (0, 0))) ∧ Aside0 (Below w.heap.size w w'))
 case atStart => exact ⟨(y457), (0), (Sh.es), H', ⟨Nat.le_refl _⟩, ⟨by (with_reducible repeat (first | apply Kd.R_alloc | apply Kd.R_drewN | apply Kd.R_drew)); exact HO459.out⟩, ⟨by (with_reducible repeat (first | refine blk_drewN ?_ _ | refine blk_drew ?_ | refine blk_alloc ?_ _)); exact BK456.out⟩, ⟨Sh.bw⟩⟩
 case round =>
  clear H'
  try clear p2
  try clear c5
  try clear hcz6_0
  try clear hcz6_1
  try clear hcz6_2
  try clear hcz6_3
  try clear hfz6_0
  try clear hfz6_1
  try clear hfz6_2
  try clear hfz6_3
  obtain ⟨x5_1, x10_1, rfl, HA, HK1, HO_5, BK456, HB⟩ := hrel
  cases gk with
  | zero => exact absurd HA.out (by simp [impl_Program_stateOf.l0])
  | succ k1 =>
   have H := HA.out
   clear HA
   simp only [impl_Program_stateOf.l0] at H
   by_cases c7 : x10_1 < a0_1
   ·rw [if_pos c7] at H
    have c7b0 : decide (x10_1 < a0_1) = true := decide_eq_true c7
    clear c7
    obtain ⟨ji8, hj1⟩ : ∃ j_ : Int, (wrap64 (a0_0 * x10_1)) = j_ := ⟨_, rfl⟩
    replace H : (if 0 ≤ (ji8) then ((impl_mask.f a0_0).bind fun t460 => (if x5_1.length < 17592186044416 then (impl_Program_stateOf.l0 k1 a1 (x5_1 ++ [Go.bits .and .u64 (shr .u64 (IntKind.u64.wrap (a1)) (ji8)) t460]) a0_1 (wrap64 (x10_1 + 1)) a0_0 a0_1 l0_2 l0_3) else (none))) else (none)) = some r := by first | (rw [hj1] at H; exact H) | (simp only [hj1] at H ⊢; exact H)
    have hji8w : (IntKind.i64.wrap (a0_0 * x10_1)) = ji8 := (i64_w _).trans hj1
    by_cases c9 : 0 ≤ (ji8)
    ·rw [if_pos c9] at H
     have c9b0 := eq_true c9
     have c9b1 : decide (0 ≤ (ji8)) = true := decide_eq_true c9
     clear c9
     obtain ⟨ji10, hj2⟩ : ∃ j_ : Int, (shr .u64 (IntKind.u64.wrap (a1)) (ji8)) = j_ := ⟨_, rfl⟩
     have hj3 := hj1; (try rw [hj2] at hj3)
     replace H : ((impl_mask.f a0_0).bind fun t460 => (if x5_1.length < 17592186044416 then (impl_Program_stateOf.l0 k1 a1 (x5_1 ++ [Go.bits .and .u64 (ji10) t460]) a0_1 (wrap64 (x10_1 + 1)) a0_0 a0_1 l0_2 l0_3) else (none))) = some r := by first | (rw [hj2] at H; exact H) | (simp only [hj2] at H ⊢; exact H)
     have hji10_ : ((IntKind.u64.wrap (a1)) / 2 ^ min (ji8).toNat 64) = ji10 := hj2
     have hji10z : (ji8) ≤ 64 → ((IntKind.u64.wrap (a1)) / 2 ^ (ji8).toNat) = ji10 := shr_small hj2
     obtain ⟨t460, A110, H⟩ := Sh.bd H
     have A11 := am_ A110
     clear A110
     by_cases c12 : x5_1.length < 17592186044416
     ·rw [if_pos c12] at H
      have LMc12 := am_ c12
      clear c12
      obtain ⟨y461, hy461⟩ : ∃ y_ : List Int, y_ = (x5_1 ++ [Go.bits .and .u64 (ji10) t460]) := ⟨_, rfl⟩
      replace H : (impl_Program_stateOf.l0 k1 a1 y461 a0_1 (wrap64 (x10_1 + 1)) a0_0 a0_1 l0_2 l0_3) = some r := by first | (rw [hy461]; with_reducible exact H) | (have H2_ := (Option.bind_some _ _).symm.trans H; rw [hy461]; with_reducible exact H2_) | (have H2_ := (Option.bind_some _ _).symm.trans H; with_reducible exact H2_) | with_reducible exact H | (rw [hy461]; exact H) | exact H
      have Ny461 := am_ hy461
      clear hy461
      have H' := am_ H
      clear H
      try go_wp2
      replace HO_5 := am_ (Kd.R_drew HO_5.out)
      replace BK456 := am_ (blk_drew BK456.out)
      replace HB := am_ (below_drew1 HB.out)
      refine start_ (n := 15) (S := fun w' => w'.cell? ⟨gb456, 0, none⟩ = some (.int .i64 a0_0) ∧ w'.cell? ⟨gb456, 1, none⟩ = some (.int .i64 a0_1) ∧ w'.cell? ⟨gb456, 2, none⟩ = some (.slice A0_2 l0_2.length c0_2) ∧ w'.cell? ⟨gb456, 3, none⟩ = some (.slice A0_3 l0_3.length c0_3)) (ds := []) (Sh.nm 15 0) (by kernel_rfl) rfl rfl Sh.cs (fun hHeld => ?_); refine with_tabW impl_Program_stateOf.tab5 impl_Program_stateOf.bits5 (fun HT_ HW_ => ?_)
      generalize wr.drew = w13 at HO_5 BK456 HB hHeld ⊢
      refine Sh.qA 0 ?_; refine Sh.qA 1 ?_; refine Sh.qA 2 ?_; refine Sh.qA 3 ?_; refine Sh.qA 5 ?_; refine Sh.qA 8 ?_; refine Sh.qT 4 hHeld ?_; refine Sh.qA 6 ?_; refine Sh.qA 7 ?_; refine Sh.qT 9 hHeld ?_
      refine Sh.oC 10 Try.func75 #[.int .i64 a0_0] fun K hK => ?_
      with_reducible refine (impl_mask.calls a0_0 t460 _ A11.out).mono ?_
      rintro e w' ⟨rfl, ⟨nd, rfl⟩⟩
      refine ⟨_, rfl, ?_⟩
      refine Sh.kN hK Sh.cs fun hHeld => ?_
      clear hK K
      refine Sh.qA 11 ?_
      refine one_ (i := 12) (N := some 25) (Sh.nm 15 8191) rfl rfl (one_of HT_.out (by kernel_rfl)) (by decide) (fun K hK => ?_)
      refine value_ (w1 := ?_) (v := ?_) (by rfl) rfl ?_ ?_
      rotate_left 2
      ·go_simp
       constructor
       ·rfl
       ·rfl
      refine Sh.kN hK ⟨(blk_cell (blk_alloc BK456.out _) 0).trans rfl, (blk_cell (blk_alloc BK456.out _) 1).trans rfl, (blk_cell (blk_alloc BK456.out _) 2).trans rfl, (blk_cell (blk_alloc BK456.out _) 3).trans rfl⟩ fun hHeld => ?_
      clear hK K
      refine one_ (i := 13) (N := some 26) (Sh.nm 15 16383) rfl rfl (one_of HT_.out (by kernel_rfl)) (by decide) (fun K hK => ?_)
      refine Kd.R_append_step (Kd.int .u64) (w0 := w) w.heap.size (by rfl) (.tmp 13) (.tmp 25) 26 61 (.int .u64 0) 8 rfl Try.underlying26 info61 rfl (by decide) (by omega) u5 x5_1 (Go.bits .and .u64 (ji10) t460) [.int .u64 (Go.bits .and .u64 (ji10) t460)] (fun _ => True) (fun _ => False) rfl rfl ?aP (fun _ hk => hk.elim) ?aF ?aO ?aB ?aS ?aL ?_
      (case aP => exact rfl)
      (case aB => exact Sh.bw)
      (case aF => exact (fun _ _ => trivial))
      (case aO => exact (by (with_reducible repeat (first | apply Kd.R_alloc | apply Kd.R_drewN | apply Kd.R_drew)); exact HO_5.out))
      (case aS => exact (below_size Sh.bw))
      (case aL => have := LMc12.out; omega)
      intro v462 w14 ho hb hg hat
      rw [← Ny461.out] at ho
      have n0_ := am_ (blk_grown (g := gb456) (o := .cells #[.int .i64 a0_0, .int .i64 a0_1, .slice A0_2 l0_2.length c0_2, .slice A0_3 l0_3.length c0_3] 33 (0, 0)) (by (with_reducible repeat (first | refine blk_drewN ?_ _ | refine blk_drew ?_ | refine blk_alloc ?_ _)); exact BK456.out) hg (Kd.R_ne HO_5.out BK456.out (by decide)))
      have n1_ := am_ hb
      have n2_ := am_ ho
      clear BK456
      clear HB
      clear HO_5
      have BK456 := n0_
      have HB := n1_
      have HO463 := n2_
      clear n0_ n1_ n2_
      clear ho hb hg hat
      refine Sh.kN hK Sh.cs fun hHeld => ?_
      clear hK K
      refine Sh.qA 14 ?_
      refine done_ (done_of HT_.out (by kernel_rfl)) ?_
      try go_wp2
      go_roundg k1
      case measure => have := HK1.out; omega
      case rel => exact ⟨(y461), (wrap64 (x10_1 + 1)), (Sh.es), H', ⟨by have := HK1.out; omega⟩, ⟨by (with_reducible repeat (first | apply Kd.R_alloc | apply Kd.R_drewN | apply Kd.R_drew)); exact HO463.out⟩, ⟨by (with_reducible repeat (first | refine blk_drewN ?_ _ | refine blk_drew ?_ | refine blk_alloc ?_ _)); exact BK456.out⟩, ⟨Sh.bw⟩⟩
     ·rw [if_neg c12] at H
      exact absurd H (by simp)
    ·rw [if_neg c9] at H
     exact absurd H (by simp)
   ·rw [if_neg c7] at H
    have c7b0 : decide (x10_1 < a0_1) = false := decide_eq_false c7
    clear c7
    obtain rfl := Option.some.inj H
    go_wp2
    go_ret
    exact ⟨_, Sh.eR, by (with_reducible repeat (first | apply Kd.R_alloc | apply Kd.R_drewN | apply Kd.R_drew)); exact HO_5.out, Sh.bw⟩
def spec_l8Those.l0 : Nat → List (S80) → List Int → Int → Int → Int → List (S80) → List (S71) → Option (List Int)
 | 0, _, _, _, _, _, _, _ => none
 | k + 1, x1, x5, x6, x479000, x479001, x479002, x479003 => (spec_l7Many.f x479000 x479001 x479002 x479003).bind fun t479 => (if x6 < t479 then ((spec_l7Of.f k x479000 x479001 x479002 x479003 x6).bind fun t480 => ((spec_l7Holds.f k x479000 x479001 x479002 x479003 x1 t480).bind fun t483 => (if t483 = true then (if x5.length < 17592186044416 then (spec_l8Those.l0 k x1 (x5 ++ [x6]) (wrap64 (x6 + 1)) x479000 x479001 x479002 x479003) else (none)) else (spec_l8Those.l0 k x1 x5 (wrap64 (x6 + 1)) x479000 x479001 x479002 x479003)))) else (some x5))
def spec_l8Those.f (k : Nat) (a0_0 : Int) (a0_1 : Int) (l0_2 : List (S80)) (l0_3 : List (S71)) (l1 : List (S80)) : Option (List Int) := spec_l8Those.l0 k l1 ([] : List Int) 0 a0_0 a0_1 l0_2 l0_3
theorem spec_l8Those.mono_l : ∀ k, (∀ y0 y1 y2 y3 y4 y5 y6, LeO (spec_l8Those.l0 k y0 y1 y2 y3 y4 y5 y6) (spec_l8Those.l0 (k + 1) y0 y1 y2 y3 y4 y5 y6))
 | 0 => fun _ _ _ _ _ _ _ r h => by simp [spec_l8Those.l0] at h
 | k + 1 => by
  have ih0 := spec_l8Those.mono_l k
  ·intro y0 y1 y2 y3 y4 y5 y6
   unfold spec_l8Those.l0
   repeat' with_reducible first | apply ih0 | apply spec_l7Holds.mono | apply spec_l7Of.mono | exact LeO.refl _ | exact LeO.none _ | apply LeO.ite | refine LeO.bind ?_ fun _ => ?_
theorem spec_l8Those.mono : ∀ a0 a1 a2 a3 a4 k, LeO (spec_l8Those.f k a0 a1 a2 a3 a4) (spec_l8Those.f (k + 1) a0 a1 a2 a3 a4) := by
 intro a0 a1 a2 a3 a4 k
 have ih0 := spec_l8Those.mono_l k
 unfold spec_l8Those.f
 repeat' with_reducible first | apply ih0 | apply spec_l7Holds.mono | apply spec_l7Of.mono | exact LeO.refl _ | exact LeO.none _ | apply LeO.ite | refine LeO.bind ?_ fun _ => ?_
set_option maxHeartbeats 8000000 in
set_option maxRecDepth 100000 in
theorem spec_l8Those.calls (k : Nat) (a0_0 : Int) (a0_1 : Int) (A0_2 : Option Addr) (c0_2 : Nat) (l0_2 : List (S80)) (A0_3 : Option Addr) (c0_3 : Nat) (l0_3 : List (S71)) (A1 : Option Addr) (c1 : Nat) (l1 : List (S80)) (r : List Int) (w : World) (hr0_2 : Kd.C k80 w A0_2 l0_2.length l0_2) (hc0_2 : l0_2.length ≤ c0_2) (hr0_3 : Kd.C k71 w A0_3 l0_3.length l0_3) (hc0_3 : l0_3.length ≤ c0_3) (hr1 : Kd.C k80 w A1 l1.length l1) (hc1 : l1.length ≤ c1) (h : spec_l8Those.f k a0_0 a0_1 l0_2 l0_3 l1 = some r) :
  Calls Try.prog 41 #[.agg #[.int .i64 a0_0, .int .i64 a0_1, .slice A0_2 l0_2.length c0_2, .slice A0_3 l0_3.length c0_3], .slice A1 l1.length c1] w fun e w' => ∃ v0_ : Value, e = .returned (v0_) ∧ Kd.R (Kd.int .i64) 3 w' w.heap.size (fun _ => True) v0_ r ∧ Below w.heap.size w w' := by
 have hu33 := Try.underlying33
 have HR0_2 := am_ hr0_2
 have HC0_2 := am_ hc0_2
 clear hr0_2 hc0_2
 have HR0_3 := am_ hr0_3
 have HC0_3 := am_ hc0_3
 clear hr0_3 hc0_3
 have HR1 := am_ hr1
 have HC1 := am_ hc1
 clear hr1 hc1
 have HB := am_ (Below.refl w.heap.size w)
 have H := h
 clear h
 unfold spec_l8Those.f at H
 have H' := am_ H
 clear H
 go_enter Try.func41, Try.ntmps41
 go_wp2_with (first | ((with_reducible refine gate_dst (N := 2) rfl ?_); refine Sh.bx (N := 2) (cs := #[.int .i64 a0_0, .int .i64 a0_1, .slice A0_2 l0_2.length c0_2, .slice A0_3 l0_3.length c0_3]) (t := 33) (h := ?_); intro gb478 hg w3 hbox hb; have BK478 := am_ hbox; have GW478 := am_ (Sh.gw (w := w) hg); have GE478 := am_ (Sh.gw (w := w) hg); replace HB := am_ (below_step Sh.bw hb); clear hb hbox hg))
 go_loopg [5, 6] k (fun kq v5 v6 w' => ∃ (x5_1 : List Int) (x6_1 : Int), v6 = .int .i64 x6_1 ∧ Aside0 (spec_l8Those.l0 kq l1 x5_1 x6_1 a0_0 a0_1 l0_2 l0_3 = some r) ∧ Aside0 (kq ≤ k) ∧ Aside0 (Kd.R (Kd.int .i64) 3 w' w.heap.size (fun _ => True) v5 x5_1) ∧ Aside0 (w'.heap[gb478]? = some (.cells #[.int .i64 a0_0, .int .i64 a0_1, (.slice A0_2 l0_2.length c0_2), (.slice A0_3 l0_3.length c0_3)] 33 (0, 0))) ∧ Aside0 (Below w.heap.size w w'))
 case atStart => exact ⟨(([] : List Int)), (0), (Sh.es), H', ⟨Nat.le_refl _⟩, ⟨by first | exact Kd.R_nil _ _ _ _ _ | exact Kd.N_nil _ _ _ _ _ | exact Kd.V_nil _ _ _ _ _ | exact Kd.Q_nil _ _ _ _ _ | exact Kd.S_nil _ _ _ _ _⟩, ⟨by (with_reducible repeat (first | refine blk_drewN ?_ _ | refine blk_drew ?_ | refine blk_alloc ?_ _)); exact BK478.out⟩, ⟨Sh.bw⟩⟩
 case round =>
  clear H'
  try clear c1
  try clear p2
  obtain ⟨x5_1, x6_1, rfl, HA, HK1, HO_5, BK478, HB⟩ := hrel
  cases gk with
  | zero => exact absurd HA.out (by simp [spec_l8Those.l0])
  | succ k1 =>
   have H := HA.out
   clear HA
   simp only [spec_l8Those.l0] at H
   obtain ⟨t479, A40, H⟩ := Sh.bd H
   have A4 := am_ A40
   clear A40
   by_cases c5 : x6_1 < t479
   ·rw [if_pos c5] at H
    have c5b0 : decide (x6_1 < t479) = true := decide_eq_true c5
    clear c5
    obtain ⟨t480, A60, H⟩ := Sh.bd H
    have A6 := am_ A60
    clear A60
    obtain ⟨t483, A70, H⟩ := Sh.bd H
    have A7 := am_ A70
    clear A70
    by_cases c8 : t483 = true
    ·subst c8
     rw [if_pos rfl] at H
     by_cases c9 : x5_1.length < 17592186044416
     ·rw [if_pos c9] at H
      have LMc9 := am_ c9
      clear c9
      obtain ⟨y484, hy484⟩ : ∃ y_ : List Int, y_ = (x5_1 ++ [x6_1]) := ⟨_, rfl⟩
      replace H : (spec_l8Those.l0 k1 l1 y484 (wrap64 (x6_1 + 1)) a0_0 a0_1 l0_2 l0_3) = some r := by first | (rw [hy484]; with_reducible exact H) | (have H2_ := (Option.bind_some _ _).symm.trans H; rw [hy484]; with_reducible exact H2_) | (have H2_ := (Option.bind_some _ _).symm.trans H; with_reducible exact H2_) | with_reducible exact H | (rw [hy484]; exact H) | exact H
      have Ny484 := am_ hy484
      clear hy484
      have H' := am_ H
      clear H
      have hcz10_0 := Sh.bc BK478.out 0
      have hcz10_1 := Sh.bc BK478.out 1
      have hcz10_2 := Sh.bc BK478.out 2
      have hcz10_3 := Sh.bc BK478.out 3
      have hfz10_0 := blk_frozen BK478.out 0
      have hfz10_1 := blk_frozen BK478.out 1
      have hfz10_2 := blk_frozen BK478.out 2
      have hfz10_3 := blk_frozen BK478.out 3
      try go_wp2_with (first | ((with_reducible refine gate_callee (f := 69) rfl ?_); refine Sh.gL (some 9) Try.func69 #[.agg #[.int .i64 a0_0, .int .i64 a0_1, .slice A0_2 l0_2.length c0_2, .slice A0_3 l0_3.length c0_3]] (h := ?_); (with_reducible refine (spec_l7Many.calls a0_0 a0_1 _ _ l0_2 _ _ l0_3 t479 _ (Sh.cB HR0_2.out) HC0_2.out (Sh.cB HR0_3.out) HC0_3.out A4.out).mono ?_); rintro e w11 ⟨rfl, hb⟩; refine ⟨_, rfl, ?_⟩; replace HO_5 := am_ (Kd.R_below (by (with_reducible repeat (first | apply Kd.R_alloc | apply Kd.R_drewN | apply Kd.R_drew)); exact HO_5.out) hb); replace BK478 := am_ (Sh.bb BK478.out hb); replace HB := am_ (below_step Sh.bw hb); (try clear hb); (try clear hb2); (try clear hk); (try clear hi)))
      replace HO_5 := am_ (Kd.R_drew HO_5.out)
      replace BK478 := am_ (blk_drew BK478.out)
      replace HB := am_ (below_drew1 HB.out)
      refine start_ (n := 6) (S := fun w' => w'.cell? ⟨gb478, 0, none⟩ = some (.int .i64 a0_0) ∧ w'.cell? ⟨gb478, 1, none⟩ = some (.int .i64 a0_1) ∧ w'.cell? ⟨gb478, 2, none⟩ = some (.slice A0_2 l0_2.length c0_2) ∧ w'.cell? ⟨gb478, 3, none⟩ = some (.slice A0_3 l0_3.length c0_3)) (ds := []) (Sh.nm 6 0) (by kernel_rfl) rfl rfl Sh.cs (fun hHeld => ?_)
      generalize w11.drew = w12 at HO_5 BK478 HB hHeld ⊢
      refine Sh.pA 1 14 (Sh.nm 6 2) (by kernel_rfl) ?_
      refine Sh.pA 3 16 (Sh.nm 6 10) (by kernel_rfl) ?_
      refine Sh.tA 0 13 (Sh.nm 6 11) (by kernel_rfl) hHeld ?_ (hy := by rintro w' ⟨s0, s1, s2, s3⟩; go_simp; with_reducible rfl)
      refine Sh.tA 2 15 (Sh.nm 6 15) (by kernel_rfl) hHeld ?_ (hy := by rintro w' ⟨s0, s1, s2, s3⟩; go_simp; with_reducible rfl)
      refine one_ (i := 4) (N := some 17) (Sh.nm 6 31) rfl rfl (by kernel_rfl) (by decide) (fun K hK => ?_)
      refine goes_ Try.func53 (by kernel_rfl) rfl #[.agg #[.int .i64 a0_0, .int .i64 a0_1, .slice A0_2 l0_2.length c0_2, .slice A0_3 l0_3.length c0_3], .int .i64 x6_1] (by rfl) rfl rfl (by (try simp only [List.map_toArray, List.map_cons, List.map_nil]); first | done | rfl | (simp only [List.length_drop, List.length_take]; rfl)) ?_
      with_reducible refine (spec_l7Of.calls k1 a0_0 a0_1 _ _ l0_2 _ _ l0_3 x6_1 t480 _ ?side1 ?side2 ?side3 ?side4 A6.out).mono ?_
      (case side1 => repeat (first | exact (Kd.C_below HR0_2.out HB.out) | (with_reducible first | refine Kd.C_alloc ?_ _ | refine Kd.C_drewN ?_ _ | refine Kd.C_drew ?_)))
      (case side2 => exact HC0_2.out)
      (case side3 => repeat (first | exact (Kd.C_below HR0_3.out HB.out) | (with_reducible first | refine Kd.C_alloc ?_ _ | refine Kd.C_drewN ?_ _ | refine Kd.C_drew ?_)))
      (case side4 => exact HC0_3.out)
      rintro e w13 ⟨v481, rfl, ho0, hb⟩
      refine ⟨_, rfl, ?_⟩
      replace HO_5 := am_ (Kd.R_below (by (with_reducible repeat (first | apply Kd.R_alloc | apply Kd.R_drewN | apply Kd.R_drew)); exact HO_5.out) hb)
      have HO482 := am_ (Kd.R_lower ho0 (below_size Sh.bw))
      replace BK478 := am_ (Sh.bb BK478.out hb)
      replace HB := am_ (below_step Sh.bw hb)
      (try clear hb)
      (try clear hb2)
      (try clear hk)
      (try clear hi)
      (try clear ho0)
      obtain ⟨Ao14, co14, eo14⟩ := Kd.R_slice HO482.out
      (first | subst eo14 | (injection eo14 with f1_ f2_ f3_; have f4_ := f1_.symm; have f5_ := f3_.symm; clear f1_ f2_ f3_; subst f4_; subst f5_))
      refine Sh.kN hK Sh.cs fun hHeld => ?_
      clear hK K
      refine one_ (i := 5) (N := some 18) (Sh.nm 6 63) rfl rfl (by kernel_rfl) (by decide) (fun K hK => ?_)
      refine goes_ Try.func35 (by kernel_rfl) rfl #[.agg #[.int .i64 a0_0, .int .i64 a0_1, .slice A0_2 l0_2.length c0_2, .slice A0_3 l0_3.length c0_3], .slice A1 l1.length c1, .slice Ao14 t480.length co14] (by rfl) rfl rfl (by (try simp only [List.map_toArray, List.map_cons, List.map_nil]); first | done | rfl | (simp only [List.length_drop, List.length_take]; rfl)) ?_
      with_reducible refine (spec_l7Holds.calls k1 a0_0 a0_1 _ _ l0_2 _ _ l0_3 _ _ l1 _ _ t480 true _ ?side1 ?side2 ?side3 ?side4 ?side5 ?side6 ?side7 ?side8 A7.out).mono ?_
      (case side1 => repeat (first | exact (Kd.C_below HR0_2.out HB.out) | (with_reducible first | refine Kd.C_alloc ?_ _ | refine Kd.C_drewN ?_ _ | refine Kd.C_drew ?_)))
      (case side2 => exact HC0_2.out)
      (case side3 => repeat (first | exact (Kd.C_below HR0_3.out HB.out) | (with_reducible first | refine Kd.C_alloc ?_ _ | refine Kd.C_drewN ?_ _ | refine Kd.C_drew ?_)))
      (case side4 => exact HC0_3.out)
      (case side5 => repeat (first | exact (Kd.C_below HR1.out HB.out) | (with_reducible first | refine Kd.C_alloc ?_ _ | refine Kd.C_drewN ?_ _ | refine Kd.C_drew ?_)))
      (case side6 => exact HC1.out)
      (case side7 => repeat (first | exact (Kd.R_reads' HO482.out).2.2 | (with_reducible first | refine Kd.C_alloc ?_ _ | refine Kd.C_drewN ?_ _ | refine Kd.C_drew ?_)))
      (case side8 => exact (Kd.R_reads' HO482.out).2.1)
      rintro e w15 ⟨rfl, hb⟩
      refine ⟨_, rfl, ?_⟩
      replace HO_5 := am_ (Kd.R_below (by (with_reducible repeat (first | apply Kd.R_alloc | apply Kd.R_drewN | apply Kd.R_drew)); exact HO_5.out) hb)
      replace HO482 := am_ (Kd.R_below (by (with_reducible repeat (first | apply Kd.R_alloc | apply Kd.R_drewN | apply Kd.R_drew)); exact HO482.out) hb)
      replace BK478 := am_ (Sh.bb BK478.out hb)
      replace HB := am_ (below_step Sh.bw hb)
      (try clear hb)
      (try clear hb2)
      (try clear hk)
      (try clear hi)
      refine Sh.kN hK Sh.cs fun hHeld => ?_
      clear hK K
      refine done_ (by kernel_rfl) ?_
      try go_wp2_with (first | ((with_reducible refine gate_builtin (b := .append) (xs := #[.tmp 19, .tmp 21]) rfl ?_); at_builtin; refine Kd.R_append (Kd.int .i64) (w0 := w) w.heap.size rfl (.tmp 19) (.tmp 21) 39 3 (.int .i64 0) 8 rfl Try.underlying39 info3 rfl (by decide) (by omega) u5 x5_1 x6_1 [.int .i64 x6_1] (fun _ => True) (fun _ => False) rfl rfl ?aP (fun _ hk => hk.elim) ?aF ?aO ?aB ?aS ?aL ?_; (case aP => exact rfl); (case aB => exact Sh.bw); (case aF => exact (fun _ _ => trivial)); (case aO => exact (by (with_reducible repeat (first | apply Kd.R_alloc | apply Kd.R_drewN | apply Kd.R_drew)); exact HO_5.out)); (case aS => exact (below_size Sh.bw)); (case aL => have := LMc9.out; omega); intro v485 w16 ho hb hg hat; rw [← Ny484.out] at ho; have n0_ := am_ (blk_grown (g := gb478) (o := .cells #[.int .i64 a0_0, .int .i64 a0_1, .slice A0_2 l0_2.length c0_2, .slice A0_3 l0_3.length c0_3] 33 (0, 0)) (by (with_reducible repeat (first | refine blk_drewN ?_ _ | refine blk_drew ?_ | refine blk_alloc ?_ _)); exact BK478.out) hg (Kd.R_ne HO_5.out BK478.out (by decide))); have n1_ := am_ (Kd.R_over' (by (with_reducible repeat (first | apply Kd.R_alloc | apply Kd.R_drewN | apply Kd.R_drew)); exact HO482.out) (Kd.R_typed (by (with_reducible repeat (first | apply Kd.R_alloc | apply Kd.R_drewN | apply Kd.R_drew)); exact HO_5.out)) (by decide) hg); have n2_ := am_ hb; have n3_ := am_ ho; clear BK478; clear HO482; clear HB; clear HO_5; have BK478 := n0_; have HO482 := n1_; have HB := n2_; have HO486 := n3_; clear n0_ n1_ n2_ n3_; clear ho hb hg hat))
      go_roundg k1
      case measure => have := HK1.out; omega
      case rel => exact ⟨(y484), (wrap64 (x6_1 + 1)), (Sh.es), H', ⟨by have := HK1.out; omega⟩, ⟨by (with_reducible repeat (first | apply Kd.R_alloc | apply Kd.R_drewN | apply Kd.R_drew)); exact HO486.out⟩, ⟨by (with_reducible repeat (first | refine blk_drewN ?_ _ | refine blk_drew ?_ | refine blk_alloc ?_ _)); exact BK478.out⟩, ⟨Sh.bw⟩⟩
     ·rw [if_neg c9] at H
      exact absurd H (by simp)
    ·replace c8 := Bool.eq_false_iff.mpr c8
     subst c8
     rw [Sh.nf] at H
     have H' := am_ H
     clear H
     have hcz17_0 := Sh.bc BK478.out 0
     have hcz17_1 := Sh.bc BK478.out 1
     have hcz17_2 := Sh.bc BK478.out 2
     have hcz17_3 := Sh.bc BK478.out 3
     have hfz17_0 := blk_frozen BK478.out 0
     have hfz17_1 := blk_frozen BK478.out 1
     have hfz17_2 := blk_frozen BK478.out 2
     have hfz17_3 := blk_frozen BK478.out 3
     try go_wp2_with (first | ((with_reducible refine gate_callee (f := 69) rfl ?_); refine Sh.gL (some 9) Try.func69 #[.agg #[.int .i64 a0_0, .int .i64 a0_1, .slice A0_2 l0_2.length c0_2, .slice A0_3 l0_3.length c0_3]] (h := ?_); (with_reducible refine (spec_l7Many.calls a0_0 a0_1 _ _ l0_2 _ _ l0_3 t479 _ (Sh.cB HR0_2.out) HC0_2.out (Sh.cB HR0_3.out) HC0_3.out A4.out).mono ?_); rintro e w18 ⟨rfl, hb⟩; refine ⟨_, rfl, ?_⟩; replace HO_5 := am_ (Kd.R_below (by (with_reducible repeat (first | apply Kd.R_alloc | apply Kd.R_drewN | apply Kd.R_drew)); exact HO_5.out) hb); replace BK478 := am_ (Sh.bb BK478.out hb); replace HB := am_ (below_step Sh.bw hb); (try clear hb); (try clear hb2); (try clear hk); (try clear hi)))
     replace HO_5 := am_ (Kd.R_drew HO_5.out)
     replace BK478 := am_ (blk_drew BK478.out)
     replace HB := am_ (below_drew1 HB.out)
     refine start_ (n := 6) (S := fun w' => w'.cell? ⟨gb478, 0, none⟩ = some (.int .i64 a0_0) ∧ w'.cell? ⟨gb478, 1, none⟩ = some (.int .i64 a0_1) ∧ w'.cell? ⟨gb478, 2, none⟩ = some (.slice A0_2 l0_2.length c0_2) ∧ w'.cell? ⟨gb478, 3, none⟩ = some (.slice A0_3 l0_3.length c0_3)) (ds := []) (Sh.nm 6 0) (by kernel_rfl) rfl rfl Sh.cs (fun hHeld => ?_)
     generalize w18.drew = w19 at HO_5 BK478 HB hHeld ⊢
     refine Sh.pA 1 14 (Sh.nm 6 2) (by kernel_rfl) ?_
     refine Sh.pA 3 16 (Sh.nm 6 10) (by kernel_rfl) ?_
     refine Sh.tA 0 13 (Sh.nm 6 11) (by kernel_rfl) hHeld ?_ (hy := by rintro w' ⟨s0, s1, s2, s3⟩; go_simp; with_reducible rfl)
     refine Sh.tA 2 15 (Sh.nm 6 15) (by kernel_rfl) hHeld ?_ (hy := by rintro w' ⟨s0, s1, s2, s3⟩; go_simp; with_reducible rfl)
     refine one_ (i := 4) (N := some 17) (Sh.nm 6 31) rfl rfl (by kernel_rfl) (by decide) (fun K hK => ?_)
     refine goes_ Try.func53 (by kernel_rfl) rfl #[.agg #[.int .i64 a0_0, .int .i64 a0_1, .slice A0_2 l0_2.length c0_2, .slice A0_3 l0_3.length c0_3], .int .i64 x6_1] (by rfl) rfl rfl (by (try simp only [List.map_toArray, List.map_cons, List.map_nil]); first | done | rfl | (simp only [List.length_drop, List.length_take]; rfl)) ?_
     with_reducible refine (spec_l7Of.calls k1 a0_0 a0_1 _ _ l0_2 _ _ l0_3 x6_1 t480 _ ?side1 ?side2 ?side3 ?side4 A6.out).mono ?_
     (case side1 => repeat (first | exact (Kd.C_below HR0_2.out HB.out) | (with_reducible first | refine Kd.C_alloc ?_ _ | refine Kd.C_drewN ?_ _ | refine Kd.C_drew ?_)))
     (case side2 => exact HC0_2.out)
     (case side3 => repeat (first | exact (Kd.C_below HR0_3.out HB.out) | (with_reducible first | refine Kd.C_alloc ?_ _ | refine Kd.C_drewN ?_ _ | refine Kd.C_drew ?_)))
     (case side4 => exact HC0_3.out)
     rintro e w20 ⟨v481, rfl, ho0, hb⟩
     refine ⟨_, rfl, ?_⟩
     replace HO_5 := am_ (Kd.R_below (by (with_reducible repeat (first | apply Kd.R_alloc | apply Kd.R_drewN | apply Kd.R_drew)); exact HO_5.out) hb)
     have HO482 := am_ (Kd.R_lower ho0 (below_size Sh.bw))
     replace BK478 := am_ (Sh.bb BK478.out hb)
     replace HB := am_ (below_step Sh.bw hb)
     (try clear hb)
     (try clear hb2)
     (try clear hk)
     (try clear hi)
     (try clear ho0)
     obtain ⟨Ao21, co21, eo21⟩ := Kd.R_slice HO482.out
     (first | subst eo21 | (injection eo21 with f1_ f2_ f3_; have f4_ := f1_.symm; have f5_ := f3_.symm; clear f1_ f2_ f3_; subst f4_; subst f5_))
     refine Sh.kN hK Sh.cs fun hHeld => ?_
     clear hK K
     refine one_ (i := 5) (N := some 18) (Sh.nm 6 63) rfl rfl (by kernel_rfl) (by decide) (fun K hK => ?_)
     refine goes_ Try.func35 (by kernel_rfl) rfl #[.agg #[.int .i64 a0_0, .int .i64 a0_1, .slice A0_2 l0_2.length c0_2, .slice A0_3 l0_3.length c0_3], .slice A1 l1.length c1, .slice Ao21 t480.length co21] (by rfl) rfl rfl (by (try simp only [List.map_toArray, List.map_cons, List.map_nil]); first | done | rfl | (simp only [List.length_drop, List.length_take]; rfl)) ?_
     with_reducible refine (spec_l7Holds.calls k1 a0_0 a0_1 _ _ l0_2 _ _ l0_3 _ _ l1 _ _ t480 false _ ?side1 ?side2 ?side3 ?side4 ?side5 ?side6 ?side7 ?side8 A7.out).mono ?_
     (case side1 => repeat (first | exact (Kd.C_below HR0_2.out HB.out) | (with_reducible first | refine Kd.C_alloc ?_ _ | refine Kd.C_drewN ?_ _ | refine Kd.C_drew ?_)))
     (case side2 => exact HC0_2.out)
     (case side3 => repeat (first | exact (Kd.C_below HR0_3.out HB.out) | (with_reducible first | refine Kd.C_alloc ?_ _ | refine Kd.C_drewN ?_ _ | refine Kd.C_drew ?_)))
     (case side4 => exact HC0_3.out)
     (case side5 => repeat (first | exact (Kd.C_below HR1.out HB.out) | (with_reducible first | refine Kd.C_alloc ?_ _ | refine Kd.C_drewN ?_ _ | refine Kd.C_drew ?_)))
     (case side6 => exact HC1.out)
     (case side7 => repeat (first | exact (Kd.R_reads' HO482.out).2.2 | (with_reducible first | refine Kd.C_alloc ?_ _ | refine Kd.C_drewN ?_ _ | refine Kd.C_drew ?_)))
     (case side8 => exact (Kd.R_reads' HO482.out).2.1)
     rintro e w22 ⟨rfl, hb⟩
     refine ⟨_, rfl, ?_⟩
     replace HO_5 := am_ (Kd.R_below (by (with_reducible repeat (first | apply Kd.R_alloc | apply Kd.R_drewN | apply Kd.R_drew)); exact HO_5.out) hb)
     replace HO482 := am_ (Kd.R_below (by (with_reducible repeat (first | apply Kd.R_alloc | apply Kd.R_drewN | apply Kd.R_drew)); exact HO482.out) hb)
     replace BK478 := am_ (Sh.bb BK478.out hb)
     replace HB := am_ (below_step Sh.bw hb)
     (try clear hb)
     (try clear hb2)
     (try clear hk)
     (try clear hi)
     refine Sh.kN hK Sh.cs fun hHeld => ?_
     clear hK K
     refine done_ (by kernel_rfl) ?_
     try go_wp2
     go_roundg k1
     case measure => have := HK1.out; omega
     case rel => exact ⟨(x5_1), (wrap64 (x6_1 + 1)), (Sh.es), H', ⟨by have := HK1.out; omega⟩, ⟨by (with_reducible repeat (first | apply Kd.R_alloc | apply Kd.R_drewN | apply Kd.R_drew)); exact HO_5.out⟩, ⟨by (with_reducible repeat (first | refine blk_drewN ?_ _ | refine blk_drew ?_ | refine blk_alloc ?_ _)); exact BK478.out⟩, ⟨Sh.bw⟩⟩
   ·rw [if_neg c5] at H
    have c5b0 : decide (x6_1 < t479) = false := decide_eq_false c5
    clear c5
    obtain rfl := Option.some.inj H
    have hcz23_0 := Sh.bc BK478.out 0
    have hcz23_1 := Sh.bc BK478.out 1
    have hcz23_2 := Sh.bc BK478.out 2
    have hcz23_3 := Sh.bc BK478.out 3
    have hfz23_0 := blk_frozen BK478.out 0
    have hfz23_1 := blk_frozen BK478.out 1
    have hfz23_2 := blk_frozen BK478.out 2
    have hfz23_3 := blk_frozen BK478.out 3
    go_wp2_with (first | ((with_reducible refine gate_callee (f := 69) rfl ?_); refine Sh.gL (some 9) Try.func69 #[.agg #[.int .i64 a0_0, .int .i64 a0_1, .slice A0_2 l0_2.length c0_2, .slice A0_3 l0_3.length c0_3]] (h := ?_); (with_reducible refine (spec_l7Many.calls a0_0 a0_1 _ _ l0_2 _ _ l0_3 t479 _ (Sh.cB HR0_2.out) HC0_2.out (Sh.cB HR0_3.out) HC0_3.out A4.out).mono ?_); rintro e w24 ⟨rfl, hb⟩; refine ⟨_, rfl, ?_⟩; replace HO_5 := am_ (Kd.R_below (by (with_reducible repeat (first | apply Kd.R_alloc | apply Kd.R_drewN | apply Kd.R_drew)); exact HO_5.out) hb); replace BK478 := am_ (Sh.bb BK478.out hb); replace HB := am_ (below_step Sh.bw hb); (try clear hb); (try clear hb2); (try clear hk); (try clear hi)))
    go_ret
    exact ⟨_, Sh.eR, by (with_reducible repeat (first | apply Kd.R_alloc | apply Kd.R_drewN | apply Kd.R_drew)); exact HO_5.out, Sh.bw⟩
def spec_Starts.f (k : Nat) (a0_0 : Int) (a0_1 : Int) (l0_2 : List (S80)) (l0_3 : List (S71)) : Option (List Int × Bool) := (spec_l7Small.f k a0_0 a0_1 l0_2 l0_3).bind fun t488 => (if t488 = true then ((spec_l8Those.f k a0_0 a0_1 l0_2 l0_3 l0_2).bind fun t489 => (some (t489, true))) else (some (([] : List Int), false)))
theorem spec_Starts.mono : ∀ a0 a1 a2 a3 k, LeO (spec_Starts.f k a0 a1 a2 a3) (spec_Starts.f (k + 1) a0 a1 a2 a3) := by
 intro a0 a1 a2 a3 k
 unfold spec_Starts.f
 repeat' with_reducible first | apply spec_l7Small.mono | apply spec_l8Those.mono | exact LeO.refl _ | exact LeO.none _ | apply LeO.ite | refine LeO.bind ?_ fun _ => ?_
set_option maxHeartbeats 8000000 in
set_option maxRecDepth 100000 in
theorem spec_Starts.calls (k : Nat) (a0_0 : Int) (a0_1 : Int) (A0_2 : Option Addr) (c0_2 : Nat) (l0_2 : List (S80)) (A0_3 : Option Addr) (c0_3 : Nat) (l0_3 : List (S71)) (r1 : List Int) (r2 : Bool) (w : World) (hr0_2 : Kd.C k80 w A0_2 l0_2.length l0_2) (hc0_2 : l0_2.length ≤ c0_2) (hr0_3 : Kd.C k71 w A0_3 l0_3.length l0_3) (hc0_3 : l0_3.length ≤ c0_3) (h : spec_Starts.f k a0_0 a0_1 l0_2 l0_3 = some (r1, r2)) :
  Calls Try.prog 15 #[.agg #[.int .i64 a0_0, .int .i64 a0_1, .slice A0_2 l0_2.length c0_2, .slice A0_3 l0_3.length c0_3]] w fun e w' => ∃ v0_ : Value, e = .returned (.tuple #[v0_, .bool r2]) ∧ Kd.R (Kd.int .i64) 3 w' w.heap.size (fun _ => True) v0_ r1 ∧ Below w.heap.size w w' := by
 have hu33 := Try.underlying33
 have HR0_2 := am_ hr0_2
 have HC0_2 := am_ hc0_2
 clear hr0_2 hc0_2
 have HR0_3 := am_ hr0_3
 have HC0_3 := am_ hc0_3
 clear hr0_3 hc0_3
 have HB := am_ (Below.refl w.heap.size w)
 have H := h
 clear h
 unfold spec_Starts.f at H
 obtain ⟨t488, A20, H⟩ := Sh.bd H
 have A2 := am_ A20
 clear A20
 by_cases c3 : t488 = true
 ·subst c3
  rw [if_pos rfl] at H
  obtain ⟨t489, A40, H⟩ := Sh.bd H
  have A4 := am_ A40
  clear A40
  simp only [Option.some.injEq, Prod.mk.injEq] at H
  obtain ⟨rfl, rfl⟩ := H
  go_enter Try.func15, Try.ntmps15
  go_wp2_with (first | ((with_reducible refine gate_dst (N := 1) rfl ?_); refine Sh.bx (N := 1) (cs := #[.int .i64 a0_0, .int .i64 a0_1, .slice A0_2 l0_2.length c0_2, .slice A0_3 l0_3.length c0_3]) (t := 33) (h := ?_); intro gb487 hg w5 hbox hb; have BK487 := am_ hbox; have GW487 := am_ (Sh.gw (w := w) hg); have GE487 := am_ (Sh.gw (w := w) hg); replace HB := am_ (below_step Sh.bw hb); clear hb hbox hg; obtain ⟨hcz6_0, hcz6_1, hcz6_2, hcz6_3, hfz6_0, hfz6_1, hfz6_2, hfz6_3⟩ := Sh.b4 BK487.out) | ((with_reducible refine gate_callee (f := 40) rfl ?_); refine Sh.gL (some 5) Try.func40 #[.agg #[.int .i64 a0_0, .int .i64 a0_1, .slice A0_2 l0_2.length c0_2, .slice A0_3 l0_3.length c0_3]] (h := ?_); (with_reducible refine (spec_l7Small.calls k a0_0 a0_1 _ _ l0_2 _ _ l0_3 true _ (Sh.cB HR0_2.out) HC0_2.out (Sh.cB HR0_3.out) HC0_3.out A2.out).mono ?_); rintro e w7 ⟨rfl, hb⟩; refine ⟨_, rfl, ?_⟩; replace BK487 := am_ (Sh.bb BK487.out hb); replace HB := am_ (below_step Sh.bw hb); (try clear hb); (try clear hb2); (try clear hk); (try clear hi); obtain ⟨hcz8_0, hcz8_1, hcz8_2, hcz8_3, hfz8_0, hfz8_1, hfz8_2, hfz8_3⟩ := Sh.b4 BK487.out) | ((with_reducible refine gate_callee (f := 41) rfl ?_); refine Sh.gL (some 10) Try.func41 #[.agg #[.int .i64 a0_0, .int .i64 a0_1, .slice A0_2 l0_2.length c0_2, .slice A0_3 l0_3.length c0_3], .slice A0_2 l0_2.length c0_2] (h := ?_); (with_reducible refine (spec_l8Those.calls k a0_0 a0_1 _ _ l0_2 _ _ l0_3 _ _ l0_2 t489 _ (Sh.cB HR0_2.out) HC0_2.out (Sh.cB HR0_3.out) HC0_3.out (Sh.cB HR0_2.out) HC0_2.out A4.out).mono ?_); rintro e w9 ⟨v490, rfl, ho0, hb⟩; refine ⟨_, rfl, ?_⟩; have HO491 := am_ (Kd.R_lower ho0 (below_size Sh.bw)); replace BK487 := am_ (Sh.bb BK487.out hb); replace HB := am_ (below_step Sh.bw hb); (try clear hb); (try clear hb2); (try clear hk); (try clear hi); (try clear ho0)))
  go_ret2
  exact ⟨_, Sh.eR, by (with_reducible repeat (first | apply Kd.R_alloc | apply Kd.R_drewN | apply Kd.R_drew)); exact HO491.out, Sh.bw⟩
 ·replace c3 := Bool.eq_false_iff.mpr c3
  subst c3
  rw [Sh.nf] at H
  simp only [Option.some.injEq, Prod.mk.injEq] at H
  obtain ⟨rfl, rfl⟩ := H
  go_enter Try.func15, Try.ntmps15
  go_wp2_with (first | ((with_reducible refine gate_dst (N := 1) rfl ?_); refine Sh.bx (N := 1) (cs := #[.int .i64 a0_0, .int .i64 a0_1, .slice A0_2 l0_2.length c0_2, .slice A0_3 l0_3.length c0_3]) (t := 33) (h := ?_); intro gb487 hg w10 hbox hb; have BK487 := am_ hbox; have GW487 := am_ (Sh.gw (w := w) hg); have GE487 := am_ (Sh.gw (w := w) hg); replace HB := am_ (below_step Sh.bw hb); clear hb hbox hg; obtain ⟨hcz11_0, hcz11_1, hcz11_2, hcz11_3, hfz11_0, hfz11_1, hfz11_2, hfz11_3⟩ := Sh.b4 BK487.out) | ((with_reducible refine gate_callee (f := 40) rfl ?_); refine Sh.gL (some 5) Try.func40 #[.agg #[.int .i64 a0_0, .int .i64 a0_1, .slice A0_2 l0_2.length c0_2, .slice A0_3 l0_3.length c0_3]] (h := ?_); (with_reducible refine (spec_l7Small.calls k a0_0 a0_1 _ _ l0_2 _ _ l0_3 false _ (Sh.cB HR0_2.out) HC0_2.out (Sh.cB HR0_3.out) HC0_3.out A2.out).mono ?_); rintro e w12 ⟨rfl, hb⟩; refine ⟨_, rfl, ?_⟩; replace BK487 := am_ (Sh.bb BK487.out hb); replace HB := am_ (below_step Sh.bw hb); (try clear hb); (try clear hb2); (try clear hk); (try clear hi)))
  go_ret2
  exact ⟨_, Sh.eR, by first | exact Kd.R_nil _ _ _ _ _ | exact Kd.N_nil _ _ _ _ _ | exact Kd.V_nil _ _ _ _ _ | exact Kd.Q_nil _ _ _ _ _ | exact Kd.S_nil _ _ _ _ _, Sh.bw⟩
def impl_Program_where.l0 : Nat → List (S80) → List Int → Int → Int → Int → Int → List (S80) → List (S71) → Option (List Int)
 | 0, _, _, _, _, _, _, _, _ => none
 | k + 1, x1, x5, x9, x10, x493000, x493001, x493002, x493003 => if x10 < x9 then ((impl_Program_stateOf.f k x493000 x493001 x493002 x493003 x10).bind fun t497 => ((impl_Program_holds.f k x493000 x493001 x493002 x493003 x1 t497).bind fun t500 => (if t500 = true then (if x5.length < 17592186044416 then (impl_Program_where.l0 k x1 (x5 ++ [x10]) x9 (wrap64 (x10 + 1)) x493000 x493001 x493002 x493003) else (none)) else (impl_Program_where.l0 k x1 x5 x9 (wrap64 (x10 + 1)) x493000 x493001 x493002 x493003)))) else (some x5)
def impl_Program_where.f (k : Nat) (a0_0 : Int) (a0_1 : Int) (l0_2 : List (S80)) (l0_3 : List (S71)) (l1 : List (S80)) : Option (List Int) := (impl_Program_states.f a0_0 a0_1 l0_2 l0_3).bind fun t496 => (impl_Program_where.l0 k l1 (([] : List Int)) t496 0 a0_0 a0_1 l0_2 l0_3)
theorem impl_Program_where.mono_l : ∀ k, (∀ y0 y1 y2 y3 y4 y5 y6 y7, LeO (impl_Program_where.l0 k y0 y1 y2 y3 y4 y5 y6 y7) (impl_Program_where.l0 (k + 1) y0 y1 y2 y3 y4 y5 y6 y7))
 | 0 => fun _ _ _ _ _ _ _ _ r h => by simp [impl_Program_where.l0] at h
 | k + 1 => by
  have ih0 := impl_Program_where.mono_l k
  ·intro y0 y1 y2 y3 y4 y5 y6 y7
   unfold impl_Program_where.l0
   repeat' with_reducible first | apply ih0 | apply impl_Program_holds.mono | apply impl_Program_stateOf.mono | exact LeO.refl _ | exact LeO.none _ | apply LeO.ite | refine LeO.bind ?_ fun _ => ?_
theorem impl_Program_where.mono : ∀ a0 a1 a2 a3 a4 k, LeO (impl_Program_where.f k a0 a1 a2 a3 a4) (impl_Program_where.f (k + 1) a0 a1 a2 a3 a4) := by
 intro a0 a1 a2 a3 a4 k
 have ih0 := impl_Program_where.mono_l k
 unfold impl_Program_where.f
 repeat' with_reducible first | apply ih0 | apply impl_Program_holds.mono | apply impl_Program_stateOf.mono | exact LeO.refl _ | exact LeO.none _ | apply LeO.ite | refine LeO.bind ?_ fun _ => ?_
set_option maxHeartbeats 8000000 in
set_option maxRecDepth 100000 in
theorem impl_Program_where.calls (k : Nat) (a0_0 : Int) (a0_1 : Int) (A0_2 : Option Addr) (c0_2 : Nat) (l0_2 : List (S80)) (A0_3 : Option Addr) (c0_3 : Nat) (l0_3 : List (S71)) (A1 : Option Addr) (c1 : Nat) (l1 : List (S80)) (r : List Int) (w : World) (hr0_2 : Kd.C k80 w A0_2 l0_2.length l0_2) (hc0_2 : l0_2.length ≤ c0_2) (hr0_3 : Kd.C k71 w A0_3 l0_3.length l0_3) (hc0_3 : l0_3.length ≤ c0_3) (hr1 : Kd.C k80 w A1 l1.length l1) (hc1 : l1.length ≤ c1) (h : impl_Program_where.f k a0_0 a0_1 l0_2 l0_3 l1 = some r) :
  Calls Try.prog 43 #[.agg #[.int .i64 a0_0, .int .i64 a0_1, .slice A0_2 l0_2.length c0_2, .slice A0_3 l0_3.length c0_3], .slice A1 l1.length c1] w fun e w' => ∃ v0_ : Value, e = .returned (v0_) ∧ Kd.R (Kd.int .i64) 3 w' w.heap.size (fun _ => True) v0_ r ∧ Below w.heap.size w w' := by
 have hu33 := Try.underlying33
 have HR0_2 := am_ hr0_2
 have HC0_2 := am_ hc0_2
 clear hr0_2 hc0_2
 have HR0_3 := am_ hr0_3
 have HC0_3 := am_ hc0_3
 clear hr0_3 hc0_3
 have HR1 := am_ hr1
 have HC1 := am_ hc1
 clear hr1 hc1
 have HB := am_ (Below.refl w.heap.size w)
 have H := h
 clear h
 unfold impl_Program_where.f at H
 obtain ⟨y493, hy493⟩ : ∃ y_ : List Int, y_ = (([] : List Int)) := ⟨_, rfl⟩
 replace H : ((impl_Program_states.f a0_0 a0_1 l0_2 l0_3).bind fun t496 => (impl_Program_where.l0 k l1 y493 t496 0 a0_0 a0_1 l0_2 l0_3)) = some r := by first | (rw [hy493]; with_reducible exact H) | (have H2_ := (Option.bind_some _ _).symm.trans H; rw [hy493]; with_reducible exact H2_) | (have H2_ := (Option.bind_some _ _).symm.trans H; with_reducible exact H2_) | with_reducible exact H | (rw [hy493]; exact H) | exact H
 have Ny493 := am_ hy493
 clear hy493
 obtain ⟨t496, A30, H⟩ := Sh.bd H
 have A3 := am_ A30
 clear A30
 have H' := am_ H
 clear H
 go_enter Try.func43, Try.ntmps43
 go_wp2_with (first | ((with_reducible refine gate_dst (N := 2) rfl ?_); refine Sh.bx (N := 2) (cs := #[.int .i64 a0_0, .int .i64 a0_1, .slice A0_2 l0_2.length c0_2, .slice A0_3 l0_3.length c0_3]) (t := 33) (h := ?_); intro gb492 hg w4 hbox hb; have BK492 := am_ hbox; have GW492 := am_ (Sh.gw (w := w) hg); have GE492 := am_ (Sh.gw (w := w) hg); replace HB := am_ (below_step Sh.bw hb); clear hb hbox hg) | ((with_reducible refine gate_dst (N := 7) rfl ?_); refine Kd.R_lit (Kd.int .i64) _ 3 ?hg (N := 7) ?hd (xs := ([] : List Int)) (inner := []) (ok := fun _ => True) (okp := fun _ => True) ?hr ?hp (fun _ hk => hk) trivial (Below.refl _ _) (Nat.le_refl _) (by simp) ?_; (case hd => rfl); (case hg => rfl); (case hr => first | (go_simp; done) | (go_simp; rfl)); (case hp => exact (Reps.none _ _)); intro v494 w5 ho6 hb hg_ hnew_; clear hg_ hnew_; (first | rw [← Ny493.out] at ho6 | (simp only [Int.reduceToNat] at ho6; rw [← Ny493.out] at ho6)); have HO495 := am_ (Kd.R_lower ho6 (below_size Sh.bw)); replace BK492 := am_ (Sh.bb BK492.out hb); replace HB := am_ (below_step Sh.bw hb); clear hb ho6; obtain ⟨hcz7_0, hcz7_1, hcz7_2, hcz7_3, hfz7_0, hfz7_1, hfz7_2, hfz7_3⟩ := Sh.b4 BK492.out) | ((with_reducible refine gate_callee (f := 70) rfl ?_); refine Sh.gL (some 9) Try.func70 #[.agg #[.int .i64 a0_0, .int .i64 a0_1, .slice A0_2 l0_2.length c0_2, .slice A0_3 l0_3.length c0_3]] (h := ?_); (with_reducible refine (impl_Program_states.calls a0_0 a0_1 _ _ l0_2 _ _ l0_3 t496 _ (Sh.cB HR0_2.out) HC0_2.out (Sh.cB HR0_3.out) HC0_3.out A3.out).mono ?_); rintro e w8 ⟨rfl, hb⟩; refine ⟨_, rfl, ?_⟩; replace HO495 := am_ (Kd.R_below (by (with_reducible repeat (first | apply Kd.R_alloc | apply Kd.R_drewN | apply Kd.R_drew)); exact HO495.out) hb); replace BK492 := am_ (Sh.bb BK492.out hb); replace HB := am_ (below_step Sh.bw hb); (try clear hb); (try clear hb2); (try clear hk); (try clear hi)))
 go_loopg [5, 10] k (fun kq v5 v10 w' => ∃ (x5_1 : List Int) (x10_1 : Int), v10 = .int .i64 x10_1 ∧ Aside0 (impl_Program_where.l0 kq l1 x5_1 t496 x10_1 a0_0 a0_1 l0_2 l0_3 = some r) ∧ Aside0 (kq ≤ k) ∧ Aside0 (Kd.R (Kd.int .i64) 3 w' w.heap.size (fun _ => True) v5 x5_1) ∧ Aside0 (w'.heap[gb492]? = some (.cells #[.int .i64 a0_0, .int .i64 a0_1, (.slice A0_2 l0_2.length c0_2), (.slice A0_3 l0_3.length c0_3)] 33 (0, 0))) ∧ Aside0 (Below w.heap.size w w'))
 case atStart => exact ⟨(y493), (0), (Sh.es), H', ⟨Nat.le_refl _⟩, ⟨by (with_reducible repeat (first | apply Kd.R_alloc | apply Kd.R_drewN | apply Kd.R_drew)); exact HO495.out⟩, ⟨by (with_reducible repeat (first | refine blk_drewN ?_ _ | refine blk_drew ?_ | refine blk_alloc ?_ _)); exact BK492.out⟩, ⟨Sh.bw⟩⟩
 case round =>
  clear H'
  try clear c1
  try clear p2
  try clear c4
  try clear c7
  try clear hcz7_0
  try clear hcz7_1
  try clear hcz7_2
  try clear hcz7_3
  try clear hfz7_0
  try clear hfz7_1
  try clear hfz7_2
  try clear hfz7_3
  obtain ⟨x5_1, x10_1, rfl, HA, HK1, HO_5, BK492, HB⟩ := hrel
  cases gk with
  | zero => exact absurd HA.out (by simp [impl_Program_where.l0])
  | succ k1 =>
   have H := HA.out
   clear HA
   simp only [impl_Program_where.l0] at H
   by_cases c9 : x10_1 < t496
   ·rw [if_pos c9] at H
    have c9b0 : decide (x10_1 < t496) = true := decide_eq_true c9
    clear c9
    obtain ⟨t497, A100, H⟩ := Sh.bd H
    have A10 := am_ A100
    clear A100
    obtain ⟨t500, A110, H⟩ := Sh.bd H
    have A11 := am_ A110
    clear A110
    by_cases c12 : t500 = true
    ·subst c12
     rw [if_pos rfl] at H
     by_cases c13 : x5_1.length < 17592186044416
     ·rw [if_pos c13] at H
      have LMc13 := am_ c13
      clear c13
      obtain ⟨y501, hy501⟩ : ∃ y_ : List Int, y_ = (x5_1 ++ [x10_1]) := ⟨_, rfl⟩
      replace H : (impl_Program_where.l0 k1 l1 y501 t496 (wrap64 (x10_1 + 1)) a0_0 a0_1 l0_2 l0_3) = some r := by first | (rw [hy501]; with_reducible exact H) | (have H2_ := (Option.bind_some _ _).symm.trans H; rw [hy501]; with_reducible exact H2_) | (have H2_ := (Option.bind_some _ _).symm.trans H; with_reducible exact H2_) | with_reducible exact H | (rw [hy501]; exact H) | exact H
      have Ny501 := am_ hy501
      clear hy501
      have H' := am_ H
      clear H
      try go_wp2
      replace HO_5 := am_ (Kd.R_drew HO_5.out)
      replace BK492 := am_ (blk_drew BK492.out)
      replace HB := am_ (below_drew1 HB.out)
      refine start_ (n := 6) (S := fun w' => w'.cell? ⟨gb492, 0, none⟩ = some (.int .i64 a0_0) ∧ w'.cell? ⟨gb492, 1, none⟩ = some (.int .i64 a0_1) ∧ w'.cell? ⟨gb492, 2, none⟩ = some (.slice A0_2 l0_2.length c0_2) ∧ w'.cell? ⟨gb492, 3, none⟩ = some (.slice A0_3 l0_3.length c0_3)) (ds := []) (Sh.nm 6 0) (by kernel_rfl) rfl rfl Sh.cs (fun hHeld => ?_)
      generalize wr.drew = w14 at HO_5 BK492 HB hHeld ⊢
      refine Sh.pA 1 14 (Sh.nm 6 2) (by kernel_rfl) ?_
      refine Sh.pA 3 16 (Sh.nm 6 10) (by kernel_rfl) ?_
      refine Sh.tA 0 13 (Sh.nm 6 11) (by kernel_rfl) hHeld ?_ (hy := by rintro w' ⟨s0, s1, s2, s3⟩; go_simp; with_reducible rfl)
      refine Sh.tA 2 15 (Sh.nm 6 15) (by kernel_rfl) hHeld ?_ (hy := by rintro w' ⟨s0, s1, s2, s3⟩; go_simp; with_reducible rfl)
      refine one_ (i := 4) (N := some 17) (Sh.nm 6 31) rfl rfl (by kernel_rfl) (by decide) (fun K hK => ?_)
      refine goes_ Try.func57 (by kernel_rfl) rfl #[.agg #[.int .i64 a0_0, .int .i64 a0_1, .slice A0_2 l0_2.length c0_2, .slice A0_3 l0_3.length c0_3], .int .i64 x10_1] (by rfl) rfl rfl (by (try simp only [List.map_toArray, List.map_cons, List.map_nil]); first | done | rfl | (simp only [List.length_drop, List.length_take]; rfl)) ?_
      with_reducible refine (impl_Program_stateOf.calls k1 a0_0 a0_1 _ _ l0_2 _ _ l0_3 x10_1 t497 _ ?side1 ?side2 ?side3 ?side4 A10.out).mono ?_
      (case side1 => repeat (first | exact (Kd.C_below HR0_2.out HB.out) | (with_reducible first | refine Kd.C_alloc ?_ _ | refine Kd.C_drewN ?_ _ | refine Kd.C_drew ?_)))
      (case side2 => exact HC0_2.out)
      (case side3 => repeat (first | exact (Kd.C_below HR0_3.out HB.out) | (with_reducible first | refine Kd.C_alloc ?_ _ | refine Kd.C_drewN ?_ _ | refine Kd.C_drew ?_)))
      (case side4 => exact HC0_3.out)
      rintro e w15 ⟨v498, rfl, ho0, hb⟩
      refine ⟨_, rfl, ?_⟩
      replace HO_5 := am_ (Kd.R_below (by (with_reducible repeat (first | apply Kd.R_alloc | apply Kd.R_drewN | apply Kd.R_drew)); exact HO_5.out) hb)
      have HO499 := am_ (Kd.R_lower ho0 (below_size Sh.bw))
      replace BK492 := am_ (Sh.bb BK492.out hb)
      replace HB := am_ (below_step Sh.bw hb)
      (try clear hb)
      (try clear hb2)
      (try clear hk)
      (try clear hi)
      (try clear ho0)
      obtain ⟨Ao16, co16, eo16⟩ := Kd.R_slice HO499.out
      (first | subst eo16 | (injection eo16 with f1_ f2_ f3_; have f4_ := f1_.symm; have f5_ := f3_.symm; clear f1_ f2_ f3_; subst f4_; subst f5_))
      refine Sh.kN hK Sh.cs fun hHeld => ?_
      clear hK K
      refine one_ (i := 5) (N := some 18) (Sh.nm 6 63) rfl rfl (by kernel_rfl) (by decide) (fun K hK => ?_)
      refine goes_ Try.func38 (by kernel_rfl) rfl #[.agg #[.int .i64 a0_0, .int .i64 a0_1, .slice A0_2 l0_2.length c0_2, .slice A0_3 l0_3.length c0_3], .slice A1 l1.length c1, .slice Ao16 t497.length co16] (by rfl) rfl rfl (by (try simp only [List.map_toArray, List.map_cons, List.map_nil]); first | done | rfl | (simp only [List.length_drop, List.length_take]; rfl)) ?_
      with_reducible refine (impl_Program_holds.calls k1 a0_0 a0_1 _ _ l0_2 _ _ l0_3 _ _ l1 _ _ t497 true _ ?side1 ?side2 ?side3 ?side4 ?side5 ?side6 ?side7 ?side8 A11.out).mono ?_
      (case side1 => repeat (first | exact (Kd.C_below HR0_2.out HB.out) | (with_reducible first | refine Kd.C_alloc ?_ _ | refine Kd.C_drewN ?_ _ | refine Kd.C_drew ?_)))
      (case side2 => exact HC0_2.out)
      (case side3 => repeat (first | exact (Kd.C_below HR0_3.out HB.out) | (with_reducible first | refine Kd.C_alloc ?_ _ | refine Kd.C_drewN ?_ _ | refine Kd.C_drew ?_)))
      (case side4 => exact HC0_3.out)
      (case side5 => repeat (first | exact (Kd.C_below HR1.out HB.out) | (with_reducible first | refine Kd.C_alloc ?_ _ | refine Kd.C_drewN ?_ _ | refine Kd.C_drew ?_)))
      (case side6 => exact HC1.out)
      (case side7 => repeat (first | exact (Kd.R_reads' HO499.out).2.2 | (with_reducible first | refine Kd.C_alloc ?_ _ | refine Kd.C_drewN ?_ _ | refine Kd.C_drew ?_)))
      (case side8 => exact (Kd.R_reads' HO499.out).2.1)
      rintro e w17 ⟨rfl, hb⟩
      refine ⟨_, rfl, ?_⟩
      replace HO_5 := am_ (Kd.R_below (by (with_reducible repeat (first | apply Kd.R_alloc | apply Kd.R_drewN | apply Kd.R_drew)); exact HO_5.out) hb)
      replace HO499 := am_ (Kd.R_below (by (with_reducible repeat (first | apply Kd.R_alloc | apply Kd.R_drewN | apply Kd.R_drew)); exact HO499.out) hb)
      replace BK492 := am_ (Sh.bb BK492.out hb)
      replace HB := am_ (below_step Sh.bw hb)
      (try clear hb)
      (try clear hb2)
      (try clear hk)
      (try clear hi)
      refine Sh.kN hK Sh.cs fun hHeld => ?_
      clear hK K
      refine done_ (by kernel_rfl) ?_
      try go_wp2_with (first | ((with_reducible refine gate_builtin (b := .append) (xs := #[.tmp 19, .tmp 21]) rfl ?_); at_builtin; refine Kd.R_append (Kd.int .i64) (w0 := w) w.heap.size rfl (.tmp 19) (.tmp 21) 39 3 (.int .i64 0) 8 rfl Try.underlying39 info3 rfl (by decide) (by omega) u5 x5_1 x10_1 [.int .i64 x10_1] (fun _ => True) (fun _ => False) rfl rfl ?aP (fun _ hk => hk.elim) ?aF ?aO ?aB ?aS ?aL ?_; (case aP => exact rfl); (case aB => exact Sh.bw); (case aF => exact (fun _ _ => trivial)); (case aO => exact (by (with_reducible repeat (first | apply Kd.R_alloc | apply Kd.R_drewN | apply Kd.R_drew)); exact HO_5.out)); (case aS => exact (below_size Sh.bw)); (case aL => have := LMc13.out; omega); intro v502 w18 ho hb hg hat; rw [← Ny501.out] at ho; have n0_ := am_ (blk_grown (g := gb492) (o := .cells #[.int .i64 a0_0, .int .i64 a0_1, .slice A0_2 l0_2.length c0_2, .slice A0_3 l0_3.length c0_3] 33 (0, 0)) (by (with_reducible repeat (first | refine blk_drewN ?_ _ | refine blk_drew ?_ | refine blk_alloc ?_ _)); exact BK492.out) hg (Kd.R_ne HO_5.out BK492.out (by decide))); have n1_ := am_ (Kd.R_over' (by (with_reducible repeat (first | apply Kd.R_alloc | apply Kd.R_drewN | apply Kd.R_drew)); exact HO499.out) (Kd.R_typed (by (with_reducible repeat (first | apply Kd.R_alloc | apply Kd.R_drewN | apply Kd.R_drew)); exact HO_5.out)) (by decide) hg); have n2_ := am_ hb; have n3_ := am_ ho; clear BK492; clear HO499; clear HB; clear HO_5; have BK492 := n0_; have HO499 := n1_; have HB := n2_; have HO503 := n3_; clear n0_ n1_ n2_ n3_; clear ho hb hg hat))
      go_roundg k1
      case measure => have := HK1.out; omega
      case rel => exact ⟨(y501), (wrap64 (x10_1 + 1)), (Sh.es), H', ⟨by have := HK1.out; omega⟩, ⟨by (with_reducible repeat (first | apply Kd.R_alloc | apply Kd.R_drewN | apply Kd.R_drew)); exact HO503.out⟩, ⟨by (with_reducible repeat (first | refine blk_drewN ?_ _ | refine blk_drew ?_ | refine blk_alloc ?_ _)); exact BK492.out⟩, ⟨Sh.bw⟩⟩
     ·rw [if_neg c13] at H
      exact absurd H (by simp)
    ·replace c12 := Bool.eq_false_iff.mpr c12
     subst c12
     rw [Sh.nf] at H
     have H' := am_ H
     clear H
     try go_wp2
     replace HO_5 := am_ (Kd.R_drew HO_5.out)
     replace BK492 := am_ (blk_drew BK492.out)
     replace HB := am_ (below_drew1 HB.out)
     refine start_ (n := 6) (S := fun w' => w'.cell? ⟨gb492, 0, none⟩ = some (.int .i64 a0_0) ∧ w'.cell? ⟨gb492, 1, none⟩ = some (.int .i64 a0_1) ∧ w'.cell? ⟨gb492, 2, none⟩ = some (.slice A0_2 l0_2.length c0_2) ∧ w'.cell? ⟨gb492, 3, none⟩ = some (.slice A0_3 l0_3.length c0_3)) (ds := []) (Sh.nm 6 0) (by kernel_rfl) rfl rfl Sh.cs (fun hHeld => ?_)
     generalize wr.drew = w19 at HO_5 BK492 HB hHeld ⊢
     refine Sh.pA 1 14 (Sh.nm 6 2) (by kernel_rfl) ?_
     refine Sh.pA 3 16 (Sh.nm 6 10) (by kernel_rfl) ?_
     refine Sh.tA 0 13 (Sh.nm 6 11) (by kernel_rfl) hHeld ?_ (hy := by rintro w' ⟨s0, s1, s2, s3⟩; go_simp; with_reducible rfl)
     refine Sh.tA 2 15 (Sh.nm 6 15) (by kernel_rfl) hHeld ?_ (hy := by rintro w' ⟨s0, s1, s2, s3⟩; go_simp; with_reducible rfl)
     refine one_ (i := 4) (N := some 17) (Sh.nm 6 31) rfl rfl (by kernel_rfl) (by decide) (fun K hK => ?_)
     refine goes_ Try.func57 (by kernel_rfl) rfl #[.agg #[.int .i64 a0_0, .int .i64 a0_1, .slice A0_2 l0_2.length c0_2, .slice A0_3 l0_3.length c0_3], .int .i64 x10_1] (by rfl) rfl rfl (by (try simp only [List.map_toArray, List.map_cons, List.map_nil]); first | done | rfl | (simp only [List.length_drop, List.length_take]; rfl)) ?_
     with_reducible refine (impl_Program_stateOf.calls k1 a0_0 a0_1 _ _ l0_2 _ _ l0_3 x10_1 t497 _ ?side1 ?side2 ?side3 ?side4 A10.out).mono ?_
     (case side1 => repeat (first | exact (Kd.C_below HR0_2.out HB.out) | (with_reducible first | refine Kd.C_alloc ?_ _ | refine Kd.C_drewN ?_ _ | refine Kd.C_drew ?_)))
     (case side2 => exact HC0_2.out)
     (case side3 => repeat (first | exact (Kd.C_below HR0_3.out HB.out) | (with_reducible first | refine Kd.C_alloc ?_ _ | refine Kd.C_drewN ?_ _ | refine Kd.C_drew ?_)))
     (case side4 => exact HC0_3.out)
     rintro e w20 ⟨v498, rfl, ho0, hb⟩
     refine ⟨_, rfl, ?_⟩
     replace HO_5 := am_ (Kd.R_below (by (with_reducible repeat (first | apply Kd.R_alloc | apply Kd.R_drewN | apply Kd.R_drew)); exact HO_5.out) hb)
     have HO499 := am_ (Kd.R_lower ho0 (below_size Sh.bw))
     replace BK492 := am_ (Sh.bb BK492.out hb)
     replace HB := am_ (below_step Sh.bw hb)
     (try clear hb)
     (try clear hb2)
     (try clear hk)
     (try clear hi)
     (try clear ho0)
     obtain ⟨Ao21, co21, eo21⟩ := Kd.R_slice HO499.out
     (first | subst eo21 | (injection eo21 with f1_ f2_ f3_; have f4_ := f1_.symm; have f5_ := f3_.symm; clear f1_ f2_ f3_; subst f4_; subst f5_))
     refine Sh.kN hK Sh.cs fun hHeld => ?_
     clear hK K
     refine one_ (i := 5) (N := some 18) (Sh.nm 6 63) rfl rfl (by kernel_rfl) (by decide) (fun K hK => ?_)
     refine goes_ Try.func38 (by kernel_rfl) rfl #[.agg #[.int .i64 a0_0, .int .i64 a0_1, .slice A0_2 l0_2.length c0_2, .slice A0_3 l0_3.length c0_3], .slice A1 l1.length c1, .slice Ao21 t497.length co21] (by rfl) rfl rfl (by (try simp only [List.map_toArray, List.map_cons, List.map_nil]); first | done | rfl | (simp only [List.length_drop, List.length_take]; rfl)) ?_
     with_reducible refine (impl_Program_holds.calls k1 a0_0 a0_1 _ _ l0_2 _ _ l0_3 _ _ l1 _ _ t497 false _ ?side1 ?side2 ?side3 ?side4 ?side5 ?side6 ?side7 ?side8 A11.out).mono ?_
     (case side1 => repeat (first | exact (Kd.C_below HR0_2.out HB.out) | (with_reducible first | refine Kd.C_alloc ?_ _ | refine Kd.C_drewN ?_ _ | refine Kd.C_drew ?_)))
     (case side2 => exact HC0_2.out)
     (case side3 => repeat (first | exact (Kd.C_below HR0_3.out HB.out) | (with_reducible first | refine Kd.C_alloc ?_ _ | refine Kd.C_drewN ?_ _ | refine Kd.C_drew ?_)))
     (case side4 => exact HC0_3.out)
     (case side5 => repeat (first | exact (Kd.C_below HR1.out HB.out) | (with_reducible first | refine Kd.C_alloc ?_ _ | refine Kd.C_drewN ?_ _ | refine Kd.C_drew ?_)))
     (case side6 => exact HC1.out)
     (case side7 => repeat (first | exact (Kd.R_reads' HO499.out).2.2 | (with_reducible first | refine Kd.C_alloc ?_ _ | refine Kd.C_drewN ?_ _ | refine Kd.C_drew ?_)))
     (case side8 => exact (Kd.R_reads' HO499.out).2.1)
     rintro e w22 ⟨rfl, hb⟩
     refine ⟨_, rfl, ?_⟩
     replace HO_5 := am_ (Kd.R_below (by (with_reducible repeat (first | apply Kd.R_alloc | apply Kd.R_drewN | apply Kd.R_drew)); exact HO_5.out) hb)
     replace HO499 := am_ (Kd.R_below (by (with_reducible repeat (first | apply Kd.R_alloc | apply Kd.R_drewN | apply Kd.R_drew)); exact HO499.out) hb)
     replace BK492 := am_ (Sh.bb BK492.out hb)
     replace HB := am_ (below_step Sh.bw hb)
     (try clear hb)
     (try clear hb2)
     (try clear hk)
     (try clear hi)
     refine Sh.kN hK Sh.cs fun hHeld => ?_
     clear hK K
     refine done_ (by kernel_rfl) ?_
     try go_wp2
     go_roundg k1
     case measure => have := HK1.out; omega
     case rel => exact ⟨(x5_1), (wrap64 (x10_1 + 1)), (Sh.es), H', ⟨by have := HK1.out; omega⟩, ⟨by (with_reducible repeat (first | apply Kd.R_alloc | apply Kd.R_drewN | apply Kd.R_drew)); exact HO_5.out⟩, ⟨by (with_reducible repeat (first | refine blk_drewN ?_ _ | refine blk_drew ?_ | refine blk_alloc ?_ _)); exact BK492.out⟩, ⟨Sh.bw⟩⟩
   ·rw [if_neg c9] at H
    have c9b0 : decide (x10_1 < t496) = false := decide_eq_false c9
    clear c9
    obtain rfl := Option.some.inj H
    go_wp2
    go_ret
    exact ⟨_, Sh.eR, by (with_reducible repeat (first | apply Kd.R_alloc | apply Kd.R_drewN | apply Kd.R_drew)); exact HO_5.out, Sh.bw⟩
def impl_Starts.f (k : Nat) (a0_0 : Int) (a0_1 : Int) (l0_2 : List (S80)) (l0_3 : List (S71)) : Option (List Int × Bool) := (impl_isSmall.f k a0_0 a0_1 l0_2 l0_3).bind fun t505 => (if t505 = true then ((impl_Program_where.f k a0_0 a0_1 l0_2 l0_3 l0_2).bind fun t506 => (some (t506, true))) else (some (([] : List Int), false)))
theorem impl_Starts.mono : ∀ a0 a1 a2 a3 k, LeO (impl_Starts.f k a0 a1 a2 a3) (impl_Starts.f (k + 1) a0 a1 a2 a3) := by
 intro a0 a1 a2 a3 k
 unfold impl_Starts.f
 repeat' with_reducible first | apply impl_Program_where.mono | apply impl_isSmall.mono | exact LeO.refl _ | exact LeO.none _ | apply LeO.ite | refine LeO.bind ?_ fun _ => ?_
set_option maxHeartbeats 8000000 in
set_option maxRecDepth 100000 in
theorem impl_Starts.calls (k : Nat) (a0_0 : Int) (a0_1 : Int) (A0_2 : Option Addr) (c0_2 : Nat) (l0_2 : List (S80)) (A0_3 : Option Addr) (c0_3 : Nat) (l0_3 : List (S71)) (r1 : List Int) (r2 : Bool) (w : World) (hr0_2 : Kd.C k80 w A0_2 l0_2.length l0_2) (hc0_2 : l0_2.length ≤ c0_2) (hr0_3 : Kd.C k71 w A0_3 l0_3.length l0_3) (hc0_3 : l0_3.length ≤ c0_3) (h : impl_Starts.f k a0_0 a0_1 l0_2 l0_3 = some (r1, r2)) :
  Calls Try.prog 16 #[.agg #[.int .i64 a0_0, .int .i64 a0_1, .slice A0_2 l0_2.length c0_2, .slice A0_3 l0_3.length c0_3]] w fun e w' => ∃ v0_ : Value, e = .returned (.tuple #[v0_, .bool r2]) ∧ Kd.R (Kd.int .i64) 3 w' w.heap.size (fun _ => True) v0_ r1 ∧ Below w.heap.size w w' := by
 have hu33 := Try.underlying33
 have HR0_2 := am_ hr0_2
 have HC0_2 := am_ hc0_2
 clear hr0_2 hc0_2
 have HR0_3 := am_ hr0_3
 have HC0_3 := am_ hc0_3
 clear hr0_3 hc0_3
 have HB := am_ (Below.refl w.heap.size w)
 have H := h
 clear h
 unfold impl_Starts.f at H
 obtain ⟨t505, A20, H⟩ := Sh.bd H
 have A2 := am_ A20
 clear A20
 by_cases c3 : t505 = true
 ·subst c3
  rw [if_pos rfl] at H
  obtain ⟨t506, A40, H⟩ := Sh.bd H
  have A4 := am_ A40
  clear A40
  simp only [Option.some.injEq, Prod.mk.injEq] at H
  obtain ⟨rfl, rfl⟩ := H
  go_enter Try.func16, Try.ntmps16
  go_wp2_with (first | ((with_reducible refine gate_dst (N := 1) rfl ?_); refine Sh.bx (N := 1) (cs := #[.int .i64 a0_0, .int .i64 a0_1, .slice A0_2 l0_2.length c0_2, .slice A0_3 l0_3.length c0_3]) (t := 33) (h := ?_); intro gb504 hg w5 hbox hb; have BK504 := am_ hbox; have GW504 := am_ (Sh.gw (w := w) hg); have GE504 := am_ (Sh.gw (w := w) hg); replace HB := am_ (below_step Sh.bw hb); clear hb hbox hg; obtain ⟨hcz6_0, hcz6_1, hcz6_2, hcz6_3, hfz6_0, hfz6_1, hfz6_2, hfz6_3⟩ := Sh.b4 BK504.out) | ((with_reducible refine gate_callee (f := 42) rfl ?_); refine Sh.gL (some 5) Try.func42 #[.agg #[.int .i64 a0_0, .int .i64 a0_1, .slice A0_2 l0_2.length c0_2, .slice A0_3 l0_3.length c0_3]] (h := ?_); (with_reducible refine (impl_isSmall.calls k a0_0 a0_1 _ _ l0_2 _ _ l0_3 true _ (Sh.cB HR0_2.out) HC0_2.out (Sh.cB HR0_3.out) HC0_3.out A2.out).mono ?_); rintro e w7 ⟨rfl, hb⟩; refine ⟨_, rfl, ?_⟩; replace BK504 := am_ (Sh.bb BK504.out hb); replace HB := am_ (below_step Sh.bw hb); (try clear hb); (try clear hb2); (try clear hk); (try clear hi); obtain ⟨hcz8_0, hcz8_1, hcz8_2, hcz8_3, hfz8_0, hfz8_1, hfz8_2, hfz8_3⟩ := Sh.b4 BK504.out) | ((with_reducible refine gate_callee (f := 43) rfl ?_); refine Sh.gL (some 10) Try.func43 #[.agg #[.int .i64 a0_0, .int .i64 a0_1, .slice A0_2 l0_2.length c0_2, .slice A0_3 l0_3.length c0_3], .slice A0_2 l0_2.length c0_2] (h := ?_); (with_reducible refine (impl_Program_where.calls k a0_0 a0_1 _ _ l0_2 _ _ l0_3 _ _ l0_2 t506 _ (Sh.cB HR0_2.out) HC0_2.out (Sh.cB HR0_3.out) HC0_3.out (Sh.cB HR0_2.out) HC0_2.out A4.out).mono ?_); rintro e w9 ⟨v507, rfl, ho0, hb⟩; refine ⟨_, rfl, ?_⟩; have HO508 := am_ (Kd.R_lower ho0 (below_size Sh.bw)); replace BK504 := am_ (Sh.bb BK504.out hb); replace HB := am_ (below_step Sh.bw hb); (try clear hb); (try clear hb2); (try clear hk); (try clear hi); (try clear ho0)))
  go_ret2
  exact ⟨_, Sh.eR, by (with_reducible repeat (first | apply Kd.R_alloc | apply Kd.R_drewN | apply Kd.R_drew)); exact HO508.out, Sh.bw⟩
 ·replace c3 := Bool.eq_false_iff.mpr c3
  subst c3
  rw [Sh.nf] at H
  simp only [Option.some.injEq, Prod.mk.injEq] at H
  obtain ⟨rfl, rfl⟩ := H
  go_enter Try.func16, Try.ntmps16
  go_wp2_with (first | ((with_reducible refine gate_dst (N := 1) rfl ?_); refine Sh.bx (N := 1) (cs := #[.int .i64 a0_0, .int .i64 a0_1, .slice A0_2 l0_2.length c0_2, .slice A0_3 l0_3.length c0_3]) (t := 33) (h := ?_); intro gb504 hg w10 hbox hb; have BK504 := am_ hbox; have GW504 := am_ (Sh.gw (w := w) hg); have GE504 := am_ (Sh.gw (w := w) hg); replace HB := am_ (below_step Sh.bw hb); clear hb hbox hg; obtain ⟨hcz11_0, hcz11_1, hcz11_2, hcz11_3, hfz11_0, hfz11_1, hfz11_2, hfz11_3⟩ := Sh.b4 BK504.out) | ((with_reducible refine gate_callee (f := 42) rfl ?_); refine Sh.gL (some 5) Try.func42 #[.agg #[.int .i64 a0_0, .int .i64 a0_1, .slice A0_2 l0_2.length c0_2, .slice A0_3 l0_3.length c0_3]] (h := ?_); (with_reducible refine (impl_isSmall.calls k a0_0 a0_1 _ _ l0_2 _ _ l0_3 false _ (Sh.cB HR0_2.out) HC0_2.out (Sh.cB HR0_3.out) HC0_3.out A2.out).mono ?_); rintro e w12 ⟨rfl, hb⟩; refine ⟨_, rfl, ?_⟩; replace BK504 := am_ (Sh.bb BK504.out hb); replace HB := am_ (below_step Sh.bw hb); (try clear hb); (try clear hb2); (try clear hk); (try clear hi)))
  go_ret2
  exact ⟨_, Sh.eR, by first | exact Kd.R_nil _ _ _ _ _ | exact Kd.N_nil _ _ _ _ _ | exact Kd.V_nil _ _ _ _ _ | exact Kd.Q_nil _ _ _ _ _ | exact Kd.S_nil _ _ _ _ _, Sh.bw⟩
open Go.Proofs.Ytjnolbjaagmooaa.Lw
def laws_FnExactStarts.Holds (k : Nat) (a0_0 : Int) (a0_1 : Int) (l0_2 : List (S82)) (l0_3 : List (S89)) : Prop :=
 ∃ s6 : Int, laws_szProgram.f k a0_0 a0_1 l0_2 l0_3 1048576 = some s6 ∧ ((s6 < 0) ∨ (¬ (s6 < 0)) ∧ (∃ (y9 : List (S80)) (y10 : List (S71)) (y24 : List Int) (y25 : Bool) (m81 : Int) (m84 : Int) (y85 : List Int), laws_toProgram.f k a0_0 a0_1 l0_2 l0_3 = some (a0_0, a0_1, y9, y10) ∧ spec_Starts.f k a0_0 a0_1 y9 y10 = some (y24, y25) ∧ impl_Starts.f k a0_0 a0_1 y9 y10 = some (y24, y25) ∧ laws_eqIntS.f k y24 y24 = some true ∧ laws_eqProgram.f k a0_0 a0_1 y9 y10 a0_0 a0_1 y9 y10 = some true ∧ laws_markProgram.f k a0_0 a0_1 y9 y10 1 = some m81 ∧ laws_markIntS.f k y24 1 = some (m84, y85) ∧ laws_heldIntS.f k y85 1 = some m84 ∧ ¬ m81 < 0 ∧ ¬ m84 < 0))
set_option maxHeartbeats 40000000 in
set_option maxRecDepth 100000 in
theorem laws_FnExactStarts.calls (k : Nat) (a0_0 : Int) (a0_1 : Int) (A0_2 : Option Addr) (c0_2 : Nat) (l0_2 : List (S82)) (A0_3 : Option Addr) (c0_3 : Nat) (l0_3 : List (S89)) (w : World) (hr0_2 : Kd.C k82 w A0_2 l0_2.length l0_2) (hc0_2 : l0_2.length ≤ c0_2) (hr0_3 : Kd.C k89 w A0_3 l0_3.length l0_3) (hc0_3 : l0_3.length ≤ c0_3) (h : laws_FnExactStarts.Holds k a0_0 a0_1 l0_2 l0_3) :
  Calls Try.prog 4 #[.agg #[.int .i64 a0_0, .int .i64 a0_1, .slice A0_2 l0_2.length c0_2, .slice A0_3 l0_3.length c0_3]] w fun e w' => e = .returned (.bool true) ∧ Below w.heap.size w w' := by
 have hu25 := Try.underlying25
 have hu33 := Try.underlying33
 have HR0_2 := am_ hr0_2
 have HC0_2 := am_ hc0_2
 clear hr0_2 hc0_2
 have HR0_3 := am_ hr0_3
 have HC0_3 := am_ hc0_3
 clear hr0_3 hc0_3
 have HB := am_ (Below.refl w.heap.size w)
 have NW : 0 ≤ w.heap.size := Nat.zero_le _
 obtain ⟨s6, ESs6, h⟩ := h
 replace ESs6 := am_ ESs6
 rcases h with c | ⟨c, h⟩
 ·have cb : decide (s6 < 0) = true := decide_eq_true c
  clear c
  go_enter Try.func4, Try.ntmps4
  go_wp2_with (first | ((with_reducible refine gate_dst (N := 1) rfl ?_); refine Sh.bx (N := 1) (cs := #[.int .i64 a0_0, .int .i64 a0_1, .slice A0_2 l0_2.length c0_2, .slice A0_3 l0_3.length c0_3]) (t := 25) (h := ?_); intro g1 hg w3 hbox hb; have BK2 := box_new (w := w) (W := w) HB.out hg hbox; have oa4 := new_g (W := w) hg NW; replace HB := am_ (below_step HB.out hb); replace NW := Nat.le_trans NW hb.size; replace NW := BK2.lt; clear hb hbox hg; have hczq5_0 : w3.cell? ⟨g1, 0, none⟩ = some (.int .i64 a0_0) := (blk_cell BK2.b 0).trans rfl; have hfzq5_0 := blk_frozen BK2.b 0; have hczq5_1 : w3.cell? ⟨g1, 1, none⟩ = some (.int .i64 a0_1) := (blk_cell BK2.b 1).trans rfl; have hfzq5_1 := blk_frozen BK2.b 1; have hczq5_2 : w3.cell? ⟨g1, 2, none⟩ = some (.slice A0_2 l0_2.length c0_2) := (blk_cell BK2.b 2).trans rfl; have hfzq5_2 := blk_frozen BK2.b 2; have hczq5_3 : w3.cell? ⟨g1, 3, none⟩ = some (.slice A0_3 l0_3.length c0_3) := (blk_cell BK2.b 3).trans rfl; have hfzq5_3 := blk_frozen BK2.b 3) | ((with_reducible refine gate_callee (f := 8) rfl ?_); refine Sh.gL (some 16) Try.func8 #[.agg #[.int .i64 a0_0, .int .i64 a0_1, .slice A0_2 l0_2.length c0_2, .slice A0_3 l0_3.length c0_3], .int .i64 1048576] (h := ?_); (with_reducible refine (laws_szProgram.calls k a0_0 a0_1 _ _ l0_2 _ _ l0_3 1048576 s6 _ (Kd.C_below HR0_2.out HB.out) HC0_2.out (Kd.C_below HR0_3.out HB.out) HC0_3.out ESs6.out).mono ?_); rintro e w7 ⟨rfl, hb⟩; refine ⟨_, rfl, ?_⟩; replace BK2 := BK2.same hb; replace HB := am_ (below_step HB.out hb); replace NW := Nat.le_trans NW hb.size; clear hb; have hczq8_0 : w7.cell? ⟨g1, 0, none⟩ = some (.int .i64 a0_0) := (blk_cell BK2.b 0).trans rfl; have hfzq8_0 := blk_frozen BK2.b 0; have hczq8_1 : w7.cell? ⟨g1, 1, none⟩ = some (.int .i64 a0_1) := (blk_cell BK2.b 1).trans rfl; have hfzq8_1 := blk_frozen BK2.b 1; have hczq8_2 : w7.cell? ⟨g1, 2, none⟩ = some (.slice A0_2 l0_2.length c0_2) := (blk_cell BK2.b 2).trans rfl; have hfzq8_2 := blk_frozen BK2.b 2; have hczq8_3 : w7.cell? ⟨g1, 3, none⟩ = some (.slice A0_3 l0_3.length c0_3) := (blk_cell BK2.b 3).trans rfl; have hfzq8_3 := blk_frozen BK2.b 3))
  go_ret
  exact ⟨rfl, HB.out⟩
 have cb0 : decide (s6 < 0) = false := decide_eq_false c
 clear c
 obtain ⟨y9, y10, y24, y25, m81, m84, y85, E1, E2, E3, E4, E5, E6, E7, E8, cd0, cd1⟩ := h
 replace E1 := am_ E1
 replace E2 := am_ E2
 replace E3 := am_ E3
 replace E4 := am_ E4
 replace E5 := am_ E5
 replace E6 := am_ E6
 replace E7 := am_ E7
 replace E8 := am_ E8
 have ce0 : decide (m81 < 0) = false := decide_eq_false cd0
 clear cd0
 have ce1 : decide (m84 < 0) = false := decide_eq_false cd1
 clear cd1
 have cr0 : (y25 != y25) = false := bne_self_eq_false _
 go_enter Try.func4, Try.ntmps4
 go_upto_region 10 with (first | ((with_reducible refine gate_dst (N := 1) rfl ?_); refine Sh.bx (N := 1) (cs := #[.int .i64 a0_0, .int .i64 a0_1, .slice A0_2 l0_2.length c0_2, .slice A0_3 l0_3.length c0_3]) (t := 25) (h := ?_); intro g1 hg w3 hbox hb; have BK2 := box_new (w := w) (W := w) HB.out hg hbox; have oa4 := new_g (W := w) hg NW; replace HB := am_ (below_step HB.out hb); replace NW := Nat.le_trans NW hb.size; replace NW := BK2.lt; clear hb hbox hg; have hczq5_0 : w3.cell? ⟨g1, 0, none⟩ = some (.int .i64 a0_0) := (blk_cell BK2.b 0).trans rfl; have hfzq5_0 := blk_frozen BK2.b 0; have hczq5_1 : w3.cell? ⟨g1, 1, none⟩ = some (.int .i64 a0_1) := (blk_cell BK2.b 1).trans rfl; have hfzq5_1 := blk_frozen BK2.b 1; have hczq5_2 : w3.cell? ⟨g1, 2, none⟩ = some (.slice A0_2 l0_2.length c0_2) := (blk_cell BK2.b 2).trans rfl; have hfzq5_2 := blk_frozen BK2.b 2; have hczq5_3 : w3.cell? ⟨g1, 3, none⟩ = some (.slice A0_3 l0_3.length c0_3) := (blk_cell BK2.b 3).trans rfl; have hfzq5_3 := blk_frozen BK2.b 3) | ((with_reducible refine gate_callee (f := 8) rfl ?_); refine Sh.gL (some 16) Try.func8 #[.agg #[.int .i64 a0_0, .int .i64 a0_1, .slice A0_2 l0_2.length c0_2, .slice A0_3 l0_3.length c0_3], .int .i64 1048576] (h := ?_); (with_reducible refine (laws_szProgram.calls k a0_0 a0_1 _ _ l0_2 _ _ l0_3 1048576 s6 _ (Kd.C_below HR0_2.out HB.out) HC0_2.out (Kd.C_below HR0_3.out HB.out) HC0_3.out ESs6.out).mono ?_); rintro e w7 ⟨rfl, hb⟩; refine ⟨_, rfl, ?_⟩; replace BK2 := BK2.same hb; replace HB := am_ (below_step HB.out hb); replace NW := Nat.le_trans NW hb.size; clear hb; have hczq8_0 : w7.cell? ⟨g1, 0, none⟩ = some (.int .i64 a0_0) := (blk_cell BK2.b 0).trans rfl; have hfzq8_0 := blk_frozen BK2.b 0; have hczq8_1 : w7.cell? ⟨g1, 1, none⟩ = some (.int .i64 a0_1) := (blk_cell BK2.b 1).trans rfl; have hfzq8_1 := blk_frozen BK2.b 1; have hczq8_2 : w7.cell? ⟨g1, 2, none⟩ = some (.slice A0_2 l0_2.length c0_2) := (blk_cell BK2.b 2).trans rfl; have hfzq8_2 := blk_frozen BK2.b 2; have hczq8_3 : w7.cell? ⟨g1, 3, none⟩ = some (.slice A0_3 l0_3.length c0_3) := (blk_cell BK2.b 3).trans rfl; have hfzq8_3 := blk_frozen BK2.b 3) | ((with_reducible refine gate_callee (f := 10) rfl ?_); refine Sh.gL (some 21) Try.func10 #[.agg #[.int .i64 a0_0, .int .i64 a0_1, .slice A0_2 l0_2.length c0_2, .slice A0_3 l0_3.length c0_3]] (h := ?_); (with_reducible refine (laws_toProgram.calls k a0_0 a0_1 _ _ l0_2 _ _ l0_3 a0_0 a0_1 y9 y10 _ (Kd.C_below HR0_2.out HB.out) HC0_2.out (Kd.C_below HR0_3.out HB.out) HC0_3.out E1.out).mono ?_); rintro e w11 ⟨v2_, v3_, rfl, ho0, ho1, hb⟩; refine ⟨_, rfl, ?_⟩; obtain ⟨lo14, hi15, ⟨HO12, HO13⟩, oa16, ob17, NW2⟩ := new1 (F := fun lo_ hi_ => Held k80 80 w11 w.heap.size lo_ hi_ v2_ y9 ∧ Held k71 71 w11 w.heap.size lo_ hi_ v3_ y10) ⟨held_new ho0 hb HB.out, held_new ho1 hb HB.out⟩ hb NW; replace BK2 := BK2.same hb; replace HB := am_ (below_step HB.out hb); replace NW := Nat.le_trans NW hb.size; replace NW := NW2; skip; obtain ⟨A18, c19, e20⟩ := HO12.slice; subst e20; obtain ⟨A21, c22, e23⟩ := HO13.slice; subst e23; clear hb ho0 ho1) | ((with_reducible refine gate_callee (f := 15) rfl ?_); refine Sh.gL (some 22) Try.func15 #[.agg #[.int .i64 a0_0, .int .i64 a0_1, .slice A18 y9.length c19, .slice A21 y10.length c22]] (h := ?_); (with_reducible refine (spec_Starts.calls k a0_0 a0_1 _ _ y9 _ _ y10 y24 y25 _ HO12.C HO12.c HO13.C HO13.c E2.out).mono ?_); rintro e w26 ⟨v0_, rfl, ho0, hb⟩; refine ⟨_, rfl, ?_⟩; obtain ⟨lo28, hi29, HO27, oa30, ob31, NW2⟩ := new1 (F := fun lo_ hi_ => Held (Kd.int .i64) 3 w26 w.heap.size lo_ hi_ v0_ y24) (held_new ho0 hb HB.out) hb NW; replace BK2 := BK2.same hb; replace HO12 := HO12.same hb; replace HO13 := HO13.same hb; replace HB := am_ (below_step HB.out hb); replace NW := Nat.le_trans NW hb.size; replace NW := NW2; skip; obtain ⟨A32, c33, e34⟩ := HO27.slice; subst e34; clear hb ho0; have hczq35_0 : w26.cell? ⟨g1, 0, none⟩ = some (.int .i64 a0_0) := (blk_cell BK2.b 0).trans rfl; have hfzq35_0 := blk_frozen BK2.b 0; have hczq35_1 : w26.cell? ⟨g1, 1, none⟩ = some (.int .i64 a0_1) := (blk_cell BK2.b 1).trans rfl; have hfzq35_1 := blk_frozen BK2.b 1; have hczq35_2 : w26.cell? ⟨g1, 2, none⟩ = some (.slice A0_2 l0_2.length c0_2) := (blk_cell BK2.b 2).trans rfl; have hfzq35_2 := blk_frozen BK2.b 2; have hczq35_3 : w26.cell? ⟨g1, 3, none⟩ = some (.slice A0_3 l0_3.length c0_3) := (blk_cell BK2.b 3).trans rfl; have hfzq35_3 := blk_frozen BK2.b 3) | ((with_reducible refine gate_callee (f := 10) rfl ?_); refine Sh.gL (some 26) Try.func10 #[.agg #[.int .i64 a0_0, .int .i64 a0_1, .slice A0_2 l0_2.length c0_2, .slice A0_3 l0_3.length c0_3]] (h := ?_); (with_reducible refine (laws_toProgram.calls k a0_0 a0_1 _ _ l0_2 _ _ l0_3 a0_0 a0_1 y9 y10 _ (Kd.C_below HR0_2.out HB.out) HC0_2.out (Kd.C_below HR0_3.out HB.out) HC0_3.out E1.out).mono ?_); rintro e w36 ⟨v2_, v3_, rfl, ho0, ho1, hb⟩; refine ⟨_, rfl, ?_⟩; obtain ⟨lo39, hi40, ⟨HO37, HO38⟩, oa41, ob42, NW2⟩ := new1 (F := fun lo_ hi_ => Held k80 80 w36 w.heap.size lo_ hi_ v2_ y9 ∧ Held k71 71 w36 w.heap.size lo_ hi_ v3_ y10) ⟨held_new ho0 hb HB.out, held_new ho1 hb HB.out⟩ hb NW; replace BK2 := BK2.same hb; replace HO12 := HO12.same hb; replace HO13 := HO13.same hb; replace HO27 := HO27.same hb; replace HB := am_ (below_step HB.out hb); replace NW := Nat.le_trans NW hb.size; replace NW := NW2; skip; obtain ⟨A43, c44, e45⟩ := HO37.slice; subst e45; obtain ⟨A46, c47, e48⟩ := HO38.slice; subst e48; clear hb ho0 ho1) | ((with_reducible refine gate_dst (N := 6) rfl ?_); refine Sh.bx (N := 6) (cs := #[.int .i64 0, .int .i64 0, .slice none 0 0, .slice none 0 0]) (t := 33) (h := ?_); intro g49 hg w51 hbox hb; have BK50 := box_new (w := w) (W := w36) HB.out hg hbox; have oa52 := new_g (W := w36) hg NW; replace BK2 := BK2.same hb; replace HO12 := HO12.same hb; replace HO13 := HO13.same hb; replace HO27 := HO27.same hb; replace HO37 := HO37.same hb; replace HO38 := HO38.same hb; replace HB := am_ (below_step HB.out hb); replace NW := Nat.le_trans NW hb.size; replace NW := BK50.lt; clear hb hbox hg) | ((with_reducible refine gate_ (.store 33 (.tmp 6) (.tmp 26)) rfl ?_); refine store_event 6 (.tmp 26) rfl rfl rfl BK50 rfl [.int .i64 a0_0, .int .i64 a0_1, .slice A43 y9.length c44, .slice A46 y10.length c47] rfl rfl ?hs rfl ?h1 ?_; (case hs => kernel_rfl); (case h1 => (simp only [List.mem_cons, List.not_mem_nil, or_false]; intro q_ h_; rcases h_ with h_ | h_ | h_ | h_ <;> (subst h_; rfl))); intro w53 hbx hb hk; replace BK2 := BK2.move hk (by omega); replace HO12 := HO12.move hk (by omega); replace HO13 := HO13.move hk (by omega); replace HO27 := HO27.move hk (by omega); replace HO37 := HO37.move hk (by omega); replace HO38 := HO38.move hk (by omega); replace BK50 := hbx; replace NW := Nat.le_trans NW hk.1; replace HB := am_ (HB.out.trans hb); clear hk hb; have hczq54_0 : w53.cell? ⟨g49, 0, none⟩ = some (.int .i64 a0_0) := (blk_cell BK50.b 0).trans rfl; have hfzq54_0 := blk_frozen BK50.b 0; have hczq54_1 : w53.cell? ⟨g49, 1, none⟩ = some (.int .i64 a0_1) := (blk_cell BK50.b 1).trans rfl; have hfzq54_1 := blk_frozen BK50.b 1; have hczq54_2 : w53.cell? ⟨g49, 2, none⟩ = some (.slice A43 y9.length c44) := (blk_cell BK50.b 2).trans rfl; have hfzq54_2 := blk_frozen BK50.b 2; have hczq54_3 : w53.cell? ⟨g49, 3, none⟩ = some (.slice A46 y10.length c47) := (blk_cell BK50.b 3).trans rfl; have hfzq54_3 := blk_frozen BK50.b 3) | ((with_reducible refine gate_callee (f := 16) rfl ?_); refine Sh.gL (some 29) Try.func16 #[.agg #[.int .i64 a0_0, .int .i64 a0_1, .slice A43 y9.length c44, .slice A46 y10.length c47]] (h := ?_); (with_reducible refine (impl_Starts.calls k a0_0 a0_1 _ _ y9 _ _ y10 y24 y25 _ HO37.C HO37.c HO38.C HO38.c E3.out).mono ?_); rintro e w55 ⟨v0_, rfl, ho0, hb⟩; refine ⟨_, rfl, ?_⟩; obtain ⟨lo57, hi58, HO56, oa59, ob60, NW2⟩ := new1 (F := fun lo_ hi_ => Held (Kd.int .i64) 3 w55 w.heap.size lo_ hi_ v0_ y24) (held_new ho0 hb HB.out) hb NW; replace BK2 := BK2.same hb; replace HO12 := HO12.same hb; replace HO13 := HO13.same hb; replace HO27 := HO27.same hb; replace HO37 := HO37.same hb; replace HO38 := HO38.same hb; replace BK50 := BK50.same hb; replace HB := am_ (below_step HB.out hb); replace NW := Nat.le_trans NW hb.size; replace NW := NW2; skip; obtain ⟨A61, c62, e63⟩ := HO56.slice; subst e63; clear hb ho0) | ((with_reducible refine gate_callee (f := 17) rfl ?_); refine Sh.gL (some 34) Try.func17 #[.slice A61 y24.length c62, .slice A32 y24.length c33] (h := ?_); (with_reducible refine (laws_eqIntS.calls k _ _ y24 _ _ y24 true _ HO56.C HO56.c HO27.C HO27.c E4.out).mono ?_); rintro e w64 ⟨rfl, hb⟩; refine ⟨_, rfl, ?_⟩; replace hb := hb.below; replace BK2 := BK2.same hb; replace HO12 := HO12.same hb; replace HO13 := HO13.same hb; replace HO27 := HO27.same hb; replace HO37 := HO37.same hb; replace HO38 := HO38.same hb; replace BK50 := BK50.same hb; replace HO56 := HO56.same hb; replace HB := am_ (below_step HB.out hb); replace NW := Nat.le_trans NW hb.size; clear hb))
 (try simp only [Act.put, List.setIfInBounds_toArray, List.set_cons_zero, List.set_cons_succ])
 try go_wp2
 have hb : Below w64.heap.size w64 w64.drew := below_drew (Below.refl _ _)
 replace BK2 := BK2.same hb
 replace HO12 := HO12.same hb
 replace HO13 := HO13.same hb
 replace HO27 := HO27.same hb
 replace HO37 := HO37.same hb
 replace HO38 := HO38.same hb
 replace BK50 := BK50.same hb
 replace HO56 := HO56.same hb
 replace HB := am_ (below_step HB.out hb)
 replace NW := Nat.le_trans NW hb.size
 clear hb
 have hL_ : 0 ≤ 0 := Nat.le_refl 0
 refine start_ (n := 5) (S := fun w' => w'.cell? ⟨g49, 0, none⟩ = some (.int .i64 a0_0) ∧ w'.cell? ⟨g49, 1, none⟩ = some (.int .i64 a0_1) ∧ w'.cell? ⟨g49, 2, none⟩ = some (.slice A43 y9.length c44) ∧ w'.cell? ⟨g49, 3, none⟩ = some (.slice A46 y10.length c47) ∧ w'.cell? ⟨g1, 0, none⟩ = some (.int .i64 a0_0) ∧ w'.cell? ⟨g1, 1, none⟩ = some (.int .i64 a0_1) ∧ w'.cell? ⟨g1, 2, none⟩ = some (.slice A0_2 l0_2.length c0_2) ∧ w'.cell? ⟨g1, 3, none⟩ = some (.slice A0_3 l0_3.length c0_3)) (ds := []) (Sh.nm 5 0) (by kernel_rfl) rfl rfl ⟨(blk_cell BK50.b 0).trans rfl, (blk_cell BK50.b 1).trans rfl, (blk_cell BK50.b 2).trans rfl, (blk_cell BK50.b 3).trans rfl, (blk_cell BK2.b 0).trans rfl, (blk_cell BK2.b 1).trans rfl, (blk_cell BK2.b 2).trans rfl, (blk_cell BK2.b 3).trans rfl⟩ (fun hHeld => ?_)
 generalize w64.drew = w65 at BK2 HO12 HO13 HO27 HO37 HO38 BK50 HO56 HB NW hHeld ⊢
 clear hL_
 refine Sh.tA 0 41 (Sh.nm 5 1) (by kernel_rfl) hHeld ?_ (hy := by rintro w' ⟨s0, s1, s2, s3, s4, s5, s6, s7⟩; go_simp; with_reducible rfl)
 refine Sh.tA 1 42 (Sh.nm 5 3) (by kernel_rfl) hHeld ?_ (hy := by rintro w' ⟨s0, s1, s2, s3, s4, s5, s6, s7⟩; go_simp; with_reducible rfl)
 refine one_ (i := 2) (N := some 43) (Sh.nm 5 7) rfl rfl (by kernel_rfl) (by decide) (fun K hK => ?_)
 refine goes_ Try.func10 (by kernel_rfl) rfl #[.agg #[.int .i64 a0_0, .int .i64 a0_1, .slice A0_2 l0_2.length c0_2, .slice A0_3 l0_3.length c0_3]] (by rfl) rfl rfl (by (try simp only [List.map_toArray, List.map_cons, List.map_nil]); first | done | rfl | (simp only [List.length_drop, List.length_take]; rfl)) ?_
 with_reducible refine (laws_toProgram.calls k a0_0 a0_1 _ _ l0_2 _ _ l0_3 a0_0 a0_1 y9 y10 _ (Kd.C_below HR0_2.out HB.out) HC0_2.out (Kd.C_below HR0_3.out HB.out) HC0_3.out E1.out).mono ?_
 rintro e w66 ⟨v2_, v3_, rfl, ho0, ho1, hb⟩
 refine ⟨_, rfl, ?_⟩
 obtain ⟨lo69, hi70, ⟨HO67, HO68⟩, oa71, ob72, NW2⟩ := new1 (F := fun lo_ hi_ => Held k80 80 w66 w.heap.size lo_ hi_ v2_ y9 ∧ Held k71 71 w66 w.heap.size lo_ hi_ v3_ y10) ⟨held_new ho0 hb HB.out, held_new ho1 hb HB.out⟩ hb NW
 replace BK2 := BK2.same hb
 replace HO12 := HO12.same hb
 replace HO13 := HO13.same hb
 replace HO27 := HO27.same hb
 replace HO37 := HO37.same hb
 replace HO38 := HO38.same hb
 replace BK50 := BK50.same hb
 replace HO56 := HO56.same hb
 replace HB := am_ (below_step HB.out hb)
 replace NW := Nat.le_trans NW hb.size
 replace NW := NW2
 skip
 obtain ⟨A73, c74, e75⟩ := HO67.slice
 subst e75
 obtain ⟨A76, c77, e78⟩ := HO68.slice
 subst e78
 clear hb ho0 ho1
 refine Sh.kN hK ⟨(blk_cell BK50.b 0).trans rfl, (blk_cell BK50.b 1).trans rfl, (blk_cell BK50.b 2).trans rfl, (blk_cell BK50.b 3).trans rfl, (blk_cell BK2.b 0).trans rfl, (blk_cell BK2.b 1).trans rfl, (blk_cell BK2.b 2).trans rfl, (blk_cell BK2.b 3).trans rfl⟩ fun hHeld => ?_
 clear hK K
 refine one_ (i := 3) (N := some 44) (Sh.nm 5 15) rfl rfl (by kernel_rfl) (by decide) (fun K hK => ?_)
 refine goes_ Try.func13 (by kernel_rfl) rfl #[.agg #[.int .i64 a0_0, .int .i64 a0_1, .slice A43 y9.length c44, .slice A46 y10.length c47], .agg #[.int .i64 a0_0, .int .i64 a0_1, .slice A73 y9.length c74, .slice A76 y10.length c77]] (by rfl) rfl rfl (by (try simp only [List.map_toArray, List.map_cons, List.map_nil]); first | done | rfl | (simp only [List.length_drop, List.length_take]; rfl)) ?_
 with_reducible refine (laws_eqProgram.calls k a0_0 a0_1 _ _ y9 _ _ y10 a0_0 a0_1 _ _ y9 _ _ y10 true _ HO37.C HO37.c HO38.C HO38.c HO67.C HO67.c HO68.C HO68.c E5.out).mono ?_
 rintro e w79 ⟨rfl, hb⟩
 refine ⟨_, rfl, ?_⟩
 replace BK2 := BK2.same hb
 replace HO12 := HO12.same hb
 replace HO13 := HO13.same hb
 replace HO27 := HO27.same hb
 replace HO37 := HO37.same hb
 replace HO38 := HO38.same hb
 replace BK50 := BK50.same hb
 replace HO56 := HO56.same hb
 replace HO67 := HO67.same hb
 replace HO68 := HO68.same hb
 replace HB := am_ (below_step HB.out hb)
 replace NW := Nat.le_trans NW hb.size
 clear hb
 refine Sh.kN hK ⟨(blk_cell BK50.b 0).trans rfl, (blk_cell BK50.b 1).trans rfl, (blk_cell BK50.b 2).trans rfl, (blk_cell BK50.b 3).trans rfl, (blk_cell BK2.b 0).trans rfl, (blk_cell BK2.b 1).trans rfl, (blk_cell BK2.b 2).trans rfl, (blk_cell BK2.b 3).trans rfl⟩ fun hHeld => ?_
 clear hK K
 refine Sh.pA 4 45 (Sh.nm 5 31) (by kernel_rfl) ?_
 refine done_ (by kernel_rfl) ?_
 have hczq80_0 : w79.cell? ⟨g49, 0, none⟩ = some (.int .i64 a0_0) := (blk_cell BK50.b 0).trans rfl; have hfzq80_0 := blk_frozen BK50.b 0
 have hczq80_1 : w79.cell? ⟨g49, 1, none⟩ = some (.int .i64 a0_1) := (blk_cell BK50.b 1).trans rfl; have hfzq80_1 := blk_frozen BK50.b 1
 have hczq80_2 : w79.cell? ⟨g49, 2, none⟩ = some (.slice A43 y9.length c44) := (blk_cell BK50.b 2).trans rfl; have hfzq80_2 := blk_frozen BK50.b 2
 have hczq80_3 : w79.cell? ⟨g49, 3, none⟩ = some (.slice A46 y10.length c47) := (blk_cell BK50.b 3).trans rfl; have hfzq80_3 := blk_frozen BK50.b 3
 go_wp2_with (first | ((with_reducible refine gate_callee (f := 18) rfl ?_); refine Sh.gL (some 48) Try.func18 #[.agg #[.int .i64 a0_0, .int .i64 a0_1, .slice A43 y9.length c44, .slice A46 y10.length c47], .int .i64 1] (h := ?_); (with_reducible refine (laws_markProgram.calls k (fun k_ => lo39 ≤ k_ ∧ k_ < hi40) a0_0 a0_1 _ y9 _ y10 1 m81 w _ HB.out HO37.r HO38.r E6.out).mono ?_); rintro e w82 ⟨rfl, hb, hk⟩; refine ⟨_, rfl, ?_⟩; replace hk : Kept w79 w82 (fun k_ => lo39 ≤ k_ ∧ k_ < hi40) := hk; replace BK2 := BK2.move hk (by omega); replace HO12 := HO12.move hk (by omega); replace HO13 := HO13.move hk (by omega); replace HO27 := HO27.move hk (by omega); replace BK50 := BK50.move hk (by omega); replace HO56 := HO56.move hk (by omega); replace HO67 := HO67.move hk (by omega); replace HO68 := HO68.move hk (by omega); clear HO37 HO38; replace NW := Nat.le_trans NW hk.1; replace HB := am_ hb; clear hk hb) | ((with_reducible refine gate_callee (f := 17) rfl ?_); (with_reducible refine gate_dst (N := 54) rfl ?_); (try simp only [ce0, ce1, cr0]); refine gate_guard (by rfl) ?_; dsimp only; refine Sh.gL (some 54) Try.func17 #[.slice A61 y24.length c62, .slice A32 y24.length c33] (h := ?_); (with_reducible refine (laws_eqIntS.calls k _ _ y24 _ _ y24 true _ HO56.C HO56.c HO27.C HO27.c E4.out).mono ?_); rintro e w83 ⟨rfl, hb⟩; refine ⟨_, rfl, ?_⟩; replace hb := hb.below; replace BK2 := BK2.same hb; replace HO12 := HO12.same hb; replace HO13 := HO13.same hb; replace HO27 := HO27.same hb; replace BK50 := BK50.same hb; replace HO56 := HO56.same hb; replace HO67 := HO67.same hb; replace HO68 := HO68.same hb; replace HB := am_ (below_step HB.out hb); replace NW := Nat.le_trans NW hb.size; clear hb) | ((with_reducible refine gate_callee (f := 19) rfl ?_); refine Sh.gL (some 64) Try.func19 #[.slice A61 y24.length c62, .int .i64 1] (h := ?_); (with_reducible refine (laws_markIntS.calls k (fun k_ => lo57 ≤ k_ ∧ k_ < hi58) _ y24 1 m84 y85 w _ HB.out HO56.r E7.out).mono ?_); rintro e w86 ⟨rfl, hm0, hb, hk⟩; refine ⟨_, rfl, ?_⟩; replace hk : Kept w83 w86 (fun k_ => lo57 ≤ k_ ∧ k_ < hi58) := hk; replace BK2 := BK2.move hk (by omega); replace HO12 := HO12.move hk (by omega); replace HO13 := HO13.move hk (by omega); replace HO27 := HO27.move hk (by omega); replace BK50 := BK50.move hk (by omega); replace HO67 := HO67.move hk (by omega); replace HO68 := HO68.move hk (by omega); replace HO56 := HO56.marked rfl hm0 hk; replace NW := Nat.le_trans NW hk.1; replace HB := am_ hb; clear hk hb hm0) | ((with_reducible refine gate_callee (f := 20) rfl ?_); refine Sh.gL (some 67) Try.func20 #[.slice A61 y24.length c62, .int .i64 1] (h := ?_); refine calls_of_args (args' := #[.slice A61 y85.length c62, .int .i64 1]) (by rw [← HO56.n]) ?_; (with_reducible refine (laws_heldIntS.calls k _ _ y85 1 m84 _ HO56.C HO56.c E8.out).mono ?_); rintro e w87 ⟨rfl, hb⟩; refine ⟨_, rfl, ?_⟩; replace hb := hb.below; replace BK2 := BK2.same hb; replace HO12 := HO12.same hb; replace HO13 := HO13.same hb; replace HO27 := HO27.same hb; replace BK50 := BK50.same hb; replace HO56 := HO56.same hb; replace HO67 := HO67.same hb; replace HO68 := HO68.same hb; replace HB := am_ (below_step HB.out hb); replace NW := Nat.le_trans NW hb.size; clear hb; have hczq88_0 : w87.cell? ⟨g1, 0, none⟩ = some (.int .i64 a0_0) := (blk_cell BK2.b 0).trans rfl; have hfzq88_0 := blk_frozen BK2.b 0; have hczq88_1 : w87.cell? ⟨g1, 1, none⟩ = some (.int .i64 a0_1) := (blk_cell BK2.b 1).trans rfl; have hfzq88_1 := blk_frozen BK2.b 1; have hczq88_2 : w87.cell? ⟨g1, 2, none⟩ = some (.slice A0_2 l0_2.length c0_2) := (blk_cell BK2.b 2).trans rfl; have hfzq88_2 := blk_frozen BK2.b 2; have hczq88_3 : w87.cell? ⟨g1, 3, none⟩ = some (.slice A0_3 l0_3.length c0_3) := (blk_cell BK2.b 3).trans rfl; have hfzq88_3 := blk_frozen BK2.b 3) | ((with_reducible refine gate_callee (f := 10) rfl ?_); refine Sh.gL (some 75) Try.func10 #[.agg #[.int .i64 a0_0, .int .i64 a0_1, .slice A0_2 l0_2.length c0_2, .slice A0_3 l0_3.length c0_3]] (h := ?_); (with_reducible refine (laws_toProgram.calls k a0_0 a0_1 _ _ l0_2 _ _ l0_3 a0_0 a0_1 y9 y10 _ (Kd.C_below HR0_2.out HB.out) HC0_2.out (Kd.C_below HR0_3.out HB.out) HC0_3.out E1.out).mono ?_); rintro e w89 ⟨v2_, v3_, rfl, ho0, ho1, hb⟩; refine ⟨_, rfl, ?_⟩; obtain ⟨lo92, hi93, ⟨HO90, HO91⟩, oa94, ob95, NW2⟩ := new1 (F := fun lo_ hi_ => Held k80 80 w89 w.heap.size lo_ hi_ v2_ y9 ∧ Held k71 71 w89 w.heap.size lo_ hi_ v3_ y10) ⟨held_new ho0 hb HB.out, held_new ho1 hb HB.out⟩ hb NW; replace BK2 := BK2.same hb; replace HO12 := HO12.same hb; replace HO13 := HO13.same hb; replace HO27 := HO27.same hb; replace BK50 := BK50.same hb; replace HO56 := HO56.same hb; replace HO67 := HO67.same hb; replace HO68 := HO68.same hb; replace HB := am_ (below_step HB.out hb); replace NW := Nat.le_trans NW hb.size; replace NW := NW2; skip; obtain ⟨A96, c97, e98⟩ := HO90.slice; subst e98; obtain ⟨A99, c100, e101⟩ := HO91.slice; subst e101; clear hb ho0 ho1) | ((with_reducible refine gate_callee (f := 16) rfl ?_); refine Sh.gL (some 76) Try.func16 #[.agg #[.int .i64 a0_0, .int .i64 a0_1, .slice A96 y9.length c97, .slice A99 y10.length c100]] (h := ?_); (with_reducible refine (impl_Starts.calls k a0_0 a0_1 _ _ y9 _ _ y10 y24 y25 _ HO90.C HO90.c HO91.C HO91.c E3.out).mono ?_); rintro e w102 ⟨v0_, rfl, ho0, hb⟩; refine ⟨_, rfl, ?_⟩; obtain ⟨lo104, hi105, HO103, oa106, ob107, NW2⟩ := new1 (F := fun lo_ hi_ => Held (Kd.int .i64) 3 w102 w.heap.size lo_ hi_ v0_ y24) (held_new ho0 hb HB.out) hb NW; replace BK2 := BK2.same hb; replace HO12 := HO12.same hb; replace HO13 := HO13.same hb; replace HO27 := HO27.same hb; replace BK50 := BK50.same hb; replace HO56 := HO56.same hb; replace HO67 := HO67.same hb; replace HO68 := HO68.same hb; replace HO90 := HO90.same hb; replace HO91 := HO91.same hb; replace HB := am_ (below_step HB.out hb); replace NW := Nat.le_trans NW hb.size; replace NW := NW2; skip; obtain ⟨A108, c109, e110⟩ := HO103.slice; subst e110; clear hb ho0) | ((with_reducible refine gate_callee (f := 17) rfl ?_); refine Sh.gL (some 81) Try.func17 #[.slice A108 y24.length c109, .slice A32 y24.length c33] (h := ?_); (with_reducible refine (laws_eqIntS.calls k _ _ y24 _ _ y24 true _ HO103.C HO103.c HO27.C HO27.c E4.out).mono ?_); rintro e w111 ⟨rfl, hb⟩; refine ⟨_, rfl, ?_⟩; replace hb := hb.below; replace BK2 := BK2.same hb; replace HO12 := HO12.same hb; replace HO13 := HO13.same hb; replace HO27 := HO27.same hb; replace BK50 := BK50.same hb; replace HO56 := HO56.same hb; replace HO67 := HO67.same hb; replace HO68 := HO68.same hb; replace HO90 := HO90.same hb; replace HO91 := HO91.same hb; replace HO103 := HO103.same hb; replace HB := am_ (below_step HB.out hb); replace NW := Nat.le_trans NW hb.size; clear hb) | ((with_reducible refine gate_callee (f := 20) rfl ?_); refine Sh.gL (some 90) Try.func20 #[.slice A61 y24.length c62, .int .i64 1] (h := ?_); refine calls_of_args (args' := #[.slice A61 y85.length c62, .int .i64 1]) (by rw [← HO56.n]) ?_; (with_reducible refine (laws_heldIntS.calls k _ _ y85 1 m84 _ HO56.C HO56.c E8.out).mono ?_); rintro e w112 ⟨rfl, hb⟩; refine ⟨_, rfl, ?_⟩; replace hb := hb.below; replace BK2 := BK2.same hb; replace HO12 := HO12.same hb; replace HO13 := HO13.same hb; replace HO27 := HO27.same hb; replace BK50 := BK50.same hb; replace HO56 := HO56.same hb; replace HO67 := HO67.same hb; replace HO68 := HO68.same hb; replace HO90 := HO90.same hb; replace HO91 := HO91.same hb; replace HO103 := HO103.same hb; replace HB := am_ (below_step HB.out hb); replace NW := Nat.le_trans NW hb.size; clear hb))
 go_ret
 exact ⟨rfl, HB.out⟩
end Go.Proofs.Ytjnolbjaagmooaa.P
