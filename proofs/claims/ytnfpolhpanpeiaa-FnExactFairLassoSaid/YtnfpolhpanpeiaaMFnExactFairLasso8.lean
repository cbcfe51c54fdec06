/- Go functions of this seat as Lean functions, and the proofs that the calls come to what these say; printed by a program of this session. No condition. -/
import Derived.Test.YtnfpolhpanpeiaaP0
import Derived.Test.YtnfpolhpanpeiaaMFnExactFairLasso1
import Derived.Test.YtnfpolhpanpeiaaMFnExactFairLasso2
import Derived.Test.YtnfpolhpanpeiaaMFnExactFairLasso7
set_option linter.unusedVariables false
set_option linter.unusedSimpArgs false
set_option maxHeartbeats 40000000
set_option maxRecDepth 100000
namespace Go.Proofs.Ytnfpolhpanpeiaa.P
open Go.RowKit Go.Proofs.YtnfpolhpanpeiaaW.PrintWords Go.Proofs.YtnfpolhpanpeiaaW.PrintLast Go.Proofs.YtnfpolhpanpeiaaW.PrintMore Go.Proofs.Ytnfpolhpanpeiaa.Hof
attribute [local go_sem] max2_int min2_int max_two min_two max_three min_three max_four min_four
def spec_FairLasso.f (k : Nat) (l0_0 : List (List Int)) (l1 : List Int) (l2 : List (List Int)) : Option (List Int × List Int × Bool) := (spec_GoodGraph.f k l0_0).bind fun t316 => (if t316 = true then ((spec_l11Points.f k l1 (l0_0.length : Int)).bind fun t317 => (if t317 = true then ((spec_l11Goals.f k l2 (l0_0.length : Int)).bind fun t318 => (if t318 = true then ((spec_l11Lasso.f k l0_0 l1 l2).bind fun bt319 => (some (bt319.1, bt319.2.1, bt319.2.2))) else (some (([] : List Int), ([] : List Int), false)))) else (some (([] : List Int), ([] : List Int), false)))) else (some (([] : List Int), ([] : List Int), false)))
theorem spec_FairLasso.mono : ∀ a0 a1 a2 k, LeO (spec_FairLasso.f k a0 a1 a2) (spec_FairLasso.f (k + 1) a0 a1 a2) := by
 intro a0 a1 a2 k
 unfold spec_FairLasso.f
 repeat' with_reducible first | apply spec_GoodGraph.mono | apply spec_l11Goals.mono | apply spec_l11Lasso.mono | apply spec_l11Points.mono | exact LeO.refl _ | exact LeO.none _ | apply LeO.ite | refine LeO.bind ?_ fun _ => ?_
theorem spec_FairLasso.calls (k : Nat) (A0_0 : Option Addr) (c0_0 : Nat) (l0_0 : List (List Int)) (A1 : Option Addr) (c1 : Nat) (l1 : List Int) (A2 : Option Addr) (c2 : Nat) (l2 : List (List Int)) (r1 : List Int) (r2 : List Int) (r3 : Bool) (w : World) (hr0_0 : Kd.C (Kd.slice 3 (Kd.int .i64)) w A0_0 l0_0.length l0_0) (hc0_0 : l0_0.length ≤ c0_0) (hr1 : Kd.C (Kd.int .i64) w A1 l1.length l1) (hc1 : l1.length ≤ c1) (hr2 : Kd.C (Kd.slice 3 (Kd.int .i64)) w A2 l2.length l2) (hc2 : l2.length ≤ c2) (h : spec_FairLasso.f k l0_0 l1 l2 = some (r1, r2, r3)) :
  Calls Try.prog 24 #[.agg #[.slice A0_0 l0_0.length c0_0], .slice A1 l1.length c1, .slice A2 l2.length c2] w fun e w' => ∃ v0_ v1_ : Value, e = .returned (.tuple #[v0_, v1_, .bool r3]) ∧ Kd.R (Kd.int .i64) 3 w' w.heap.size (fun k_ => some k_ ≠ (v1_ : Value).ownBlock) v0_ r1 ∧ Kd.R (Kd.int .i64) 3 w' w.heap.size (fun k_ => some k_ ≠ (v0_ : Value).ownBlock) v1_ r2 ∧ Below w.heap.size w w' := by
 have hu29 := Try.underlying29
 have HR0_0 := am_ hr0_0
 have HC0_0 := am_ hc0_0
 clear hr0_0 hc0_0
 have HR1 := am_ hr1
 have HC1 := am_ hc1
 clear hr1 hc1
 have HR2 := am_ hr2
 have HC2 := am_ hc2
 clear hr2 hc2
 have HB := am_ (Below.refl w.heap.size w)
 have H := h
 clear h
 unfold spec_FairLasso.f at H
 obtain ⟨t316, A4, H⟩ := Sh.ba H
 by_cases c5 : t316 = true
 ·subst c5
  rw [if_pos rfl] at H
  obtain ⟨t317, A6, H⟩ := Sh.ba H
  by_cases c7 : t317 = true
  ·subst c7
   rw [if_pos rfl] at H
   obtain ⟨t318, A8, H⟩ := Sh.ba H
   by_cases c9 : t318 = true
   ·subst c9
    rw [if_pos rfl] at H
    obtain ⟨⟨t319, t320, t321⟩, A100, H⟩ := Sh.bd H
    have A10 := am_ A100
    clear A100
    simp only [Option.some.injEq, Prod.mk.injEq] at H
    obtain ⟨rfl, rfl, rfl⟩ := H
    go_enter Try.func24, Try.ntmps24
    go_wp2_with (first | ((with_reducible refine Sh.d 3 ?_); (try (refine gate_guard (by rfl) ?_; dsimp only)); refine Sh.bz w (N := 3) (cs := #[.slice A0_0 l0_0.length c0_0]) (t := 29) (h := ?_); clear HB; intro gb315 w11 BK315 GE315 HB; have hcz12_0 := Sh.bc BK315.out 0; have hfz12_0 := blk_frozen BK315.out 0) | ((with_reducible refine Sh.k 27 ?_); refine Sh.gB (some 10) Try.func27 #[.agg #[.slice A0_0 l0_0.length c0_0]] (spec_GoodGraph.calls k _ _ l0_0 true _ (Sh.cB HR0_0.out) HC0_0.out A4.out) fun w13 hb => ?_; replace BK315 := Sh.ab BK315 hb; replace HB := Sh.hb hb; (try clear hb); have hcz14_0 := Sh.bc BK315.out 0; have hfz14_0 := blk_frozen BK315.out 0) | (go_at_call 41; (with_reducible refine (spec_l11Points.calls k _ _ l1 (l0_0.length : Int) true _ (Sh.cB HR1.out) HC1.out A6.out).mono ?_); rintro e w' ⟨rfl, ⟨nd, rfl⟩⟩) | (go_at_call 35; (with_reducible refine (spec_l11Goals.calls k _ _ l2 (l0_0.length : Int) true _ (Sh.cB HR2.out) HC2.out A8.out).mono ?_); rintro e w' ⟨rfl, ⟨nd, rfl⟩⟩) | ((with_reducible refine Sh.k 42 ?_); refine Sh.gL (some 32) Try.func42 #[.slice A0_0 l0_0.length c0_0, .slice A1 l1.length c1, .slice A2 l2.length c2] (h := ?_); (with_reducible refine (spec_l11Lasso.calls k _ _ l0_0 _ _ l1 _ _ l2 t319 t320 t321 _ (Sh.cB HR0_0.out) HC0_0.out (Sh.cB HR1.out) HC1.out (Sh.cB HR2.out) HC2.out A10.out).mono ?_); rintro e w15 ⟨v322, v324, rfl, ho0, ho1, hb⟩; refine ⟨_, rfl, ?_⟩; have HO323 := am_ (Kd.R_lower ho0 (below_size Sh.bw)); have HO325 := am_ (Kd.R_lower ho1 (below_size Sh.bw)); replace BK315 := Sh.ab BK315 hb; replace HB := Sh.hb hb; (try clear hb); (try clear ho0); (try clear ho1)))
    go_ret3
    exact ⟨_, _, by first | rfl | (simp [errW_none, errW_some] <;> rfl) | (simp [*, errW_none, errW_some] <;> rfl), Sh.rl HO323.out, Sh.rl HO325.out, Sh.bw⟩
   ·replace c9 := Bool.eq_false_iff.mpr c9
    subst c9
    rw [Sh.nf] at H
    simp only [Option.some.injEq, Prod.mk.injEq] at H
    obtain ⟨rfl, rfl, rfl⟩ := H
    go_enter Try.func24, Try.ntmps24
    go_wp2_with (first | ((with_reducible refine Sh.d 3 ?_); (try (refine gate_guard (by rfl) ?_; dsimp only)); refine Sh.bz w (N := 3) (cs := #[.slice A0_0 l0_0.length c0_0]) (t := 29) (h := ?_); clear HB; intro gb315 w16 BK315 GE315 HB; have hcz17_0 := Sh.bc BK315.out 0; have hfz17_0 := blk_frozen BK315.out 0) | ((with_reducible refine Sh.k 27 ?_); refine Sh.gB (some 10) Try.func27 #[.agg #[.slice A0_0 l0_0.length c0_0]] (spec_GoodGraph.calls k _ _ l0_0 true _ (Sh.cB HR0_0.out) HC0_0.out A4.out) fun w18 hb => ?_; replace BK315 := Sh.ab BK315 hb; replace HB := Sh.hb hb; (try clear hb); have hcz19_0 := Sh.bc BK315.out 0; have hfz19_0 := blk_frozen BK315.out 0) | (go_at_call 41; (with_reducible refine (spec_l11Points.calls k _ _ l1 (l0_0.length : Int) true _ (Sh.cB HR1.out) HC1.out A6.out).mono ?_); rintro e w' ⟨rfl, ⟨nd, rfl⟩⟩) | (go_at_call 35; (with_reducible refine (spec_l11Goals.calls k _ _ l2 (l0_0.length : Int) false _ (Sh.cB HR2.out) HC2.out A8.out).mono ?_); rintro e w' ⟨rfl, ⟨nd, rfl⟩⟩))
    go_ret3
    exact ⟨_, _, by first | rfl | (simp [errW_none, errW_some] <;> rfl) | (simp [*, errW_none, errW_some] <;> rfl), by first | exact Kd.R_nil _ _ _ _ _ | exact Kd.N_nil _ _ _ _ _ | exact Kd.V_nil _ _ _ _ _ | exact Kd.Q_nil _ _ _ _ _ | exact Kd.S_nil _ _ _ _ _, by first | exact Kd.R_nil _ _ _ _ _ | exact Kd.N_nil _ _ _ _ _ | exact Kd.V_nil _ _ _ _ _ | exact Kd.Q_nil _ _ _ _ _ | exact Kd.S_nil _ _ _ _ _, Sh.bw⟩
  ·replace c7 := Bool.eq_false_iff.mpr c7
   subst c7
   rw [Sh.nf] at H
   simp only [Option.some.injEq, Prod.mk.injEq] at H
   obtain ⟨rfl, rfl, rfl⟩ := H
   go_enter Try.func24, Try.ntmps24
   go_wp2_with (first | ((with_reducible refine Sh.d 3 ?_); (try (refine gate_guard (by rfl) ?_; dsimp only)); refine Sh.bz w (N := 3) (cs := #[.slice A0_0 l0_0.length c0_0]) (t := 29) (h := ?_); clear HB; intro gb315 w20 BK315 GE315 HB; have hcz21_0 := Sh.bc BK315.out 0; have hfz21_0 := blk_frozen BK315.out 0) | ((with_reducible refine Sh.k 27 ?_); refine Sh.gB (some 10) Try.func27 #[.agg #[.slice A0_0 l0_0.length c0_0]] (spec_GoodGraph.calls k _ _ l0_0 true _ (Sh.cB HR0_0.out) HC0_0.out A4.out) fun w22 hb => ?_; replace BK315 := Sh.ab BK315 hb; replace HB := Sh.hb hb; (try clear hb); have hcz23_0 := Sh.bc BK315.out 0; have hfz23_0 := blk_frozen BK315.out 0) | (go_at_call 41; (with_reducible refine (spec_l11Points.calls k _ _ l1 (l0_0.length : Int) false _ (Sh.cB HR1.out) HC1.out A6.out).mono ?_); rintro e w' ⟨rfl, ⟨nd, rfl⟩⟩))
   go_ret3
   exact ⟨_, _, by first | rfl | (simp [errW_none, errW_some] <;> rfl) | (simp [*, errW_none, errW_some] <;> rfl), by first | exact Kd.R_nil _ _ _ _ _ | exact Kd.N_nil _ _ _ _ _ | exact Kd.V_nil _ _ _ _ _ | exact Kd.Q_nil _ _ _ _ _ | exact Kd.S_nil _ _ _ _ _, by first | exact Kd.R_nil _ _ _ _ _ | exact Kd.N_nil _ _ _ _ _ | exact Kd.V_nil _ _ _ _ _ | exact Kd.Q_nil _ _ _ _ _ | exact Kd.S_nil _ _ _ _ _, Sh.bw⟩
 ·replace c5 := Bool.eq_false_iff.mpr c5
  subst c5
  rw [Sh.nf] at H
  simp only [Option.some.injEq, Prod.mk.injEq] at H
  obtain ⟨rfl, rfl, rfl⟩ := H
  go_enter Try.func24, Try.ntmps24
  go_wp2_with (first | ((with_reducible refine Sh.d 3 ?_); (try (refine gate_guard (by rfl) ?_; dsimp only)); refine Sh.bz w (N := 3) (cs := #[.slice A0_0 l0_0.length c0_0]) (t := 29) (h := ?_); clear HB; intro gb315 w24 BK315 GE315 HB; have hcz25_0 := Sh.bc BK315.out 0; have hfz25_0 := blk_frozen BK315.out 0) | ((with_reducible refine Sh.k 27 ?_); refine Sh.gB (some 10) Try.func27 #[.agg #[.slice A0_0 l0_0.length c0_0]] (spec_GoodGraph.calls k _ _ l0_0 false _ (Sh.cB HR0_0.out) HC0_0.out A4.out) fun w26 hb => ?_; replace BK315 := Sh.ab BK315 hb; replace HB := Sh.hb hb; (try clear hb)))
  go_ret3
  exact ⟨_, _, by first | rfl | (simp [errW_none, errW_some] <;> rfl) | (simp [*, errW_none, errW_some] <;> rfl), by first | exact Kd.R_nil _ _ _ _ _ | exact Kd.N_nil _ _ _ _ _ | exact Kd.V_nil _ _ _ _ _ | exact Kd.Q_nil _ _ _ _ _ | exact Kd.S_nil _ _ _ _ _, by first | exact Kd.R_nil _ _ _ _ _ | exact Kd.N_nil _ _ _ _ _ | exact Kd.V_nil _ _ _ _ _ | exact Kd.Q_nil _ _ _ _ _ | exact Kd.S_nil _ _ _ _ _, Sh.bw⟩
theorem slices_IndexFunc_int_int_71.gen (g : Nat) (lb : Array Value) (eg : ∀ args w, (callFunc g args).run Try.prog w = .ok (.enter g args) w) (q : List Int → Option Bool) (A0 : Option Addr) (c0 : Nat) (l0 : List (List Int)) (r : Int) (w : World) (hr0 : Kd.C (Kd.slice 3 (Kd.int .i64)) w A0 l0.length l0) (hc0 : l0.length ≤ c0)
  (hp : ∀ (W : World) (x : List Int) (b : Bool) (A : Option Addr) (c : Nat), Below w.heap.size w W → x ∈ l0 → q x = some b → x.length ≤ c → Kd.C (Kd.int .i64) W A x.length x → Calls Try.prog g (#[.slice A x.length c] ++ lb) W fun e w' => e = .returned (.bool b) ∧ Below W.heap.size W w')
  (h : idxO q l0 0 = some r) : Calls Try.prog 71 #[.slice A0 l0.length c0, .func (.func g) #[] lb] w fun e w' => e = .returned (.int .i64 r) ∧ Below w.heap.size w w' := by
 have HR := am_ hr0
 have HP := am_ hp
 have HH := am_ h
 have hn : l0.length ≤ 9223372036854775807 := hr0.2.1
 clear hr0 hp h
 go_enter Try.func71, Try.ntmps71
 go_wp2
 go_loopg [5, 8] l0.length (fun gg _ s8 wr => ∃ kk : Nat, kk ≤ l0.length ∧ l0.length - kk ≤ gg ∧ s8 = .int .i64 kk ∧ Aside0 (idxO q (l0.drop kk) kk = some r) ∧ Aside0 (Below w.heap.size w wr))
 case atStart => exact ⟨0, Nat.zero_le _, by omega, rfl, HH, ⟨Below.refl _ _⟩⟩
 case round =>
  obtain ⟨kk, hkk, hg, rfl, HA, HB⟩ := hrel
  clear HH
  by_cases hlt : kk < l0.length
  ·have hltz : (kk : Int) < (l0.length : Int) := by omega
   have h0z : 0 ≤ (kk : Int) := by omega
   obtain ⟨ad, A1, c1, e, hx, hl1, hi1⟩ := at_L1 HR.out (kk : Int) h0z hltz
   have er : rd_L1 l0 (kk : Int) = l0.getD kk [] := by simp [rd_L1]
   rw [er] at hx hl1 hi1
   have hA := HA.out
   rw [drop_getD hlt []] at hA
   obtain ⟨b, hb, hA2⟩ := Option.bind_eq_some_iff.mp hA
   have HA2 := am_ hA2
   have hin := getD_in hlt ([] : List Int)
   have hcall := HP.out wr _ b A1 c1 HB.out hin hb hl1 (Kd.C_below hi1 HB.out)
   generalize l0.getD kk [] = y at hx hcall hl1 hi1
   clear HA hA hA2 hb er hin
   clear hl1 hi1
   cases e
   simp only [Int.toNat_natCast] at hx
   replace hx := (HB.out.cell (World.block_lt_of_cell? w _ hx)).trans hx
   cases b with
   | true =>
    go_wp2_with (go_at_fn g; refine hcall.mono ?_; rintro e w' ⟨rfl, hb2⟩)
    go_ret
    have h3 := HA2.out
    simp only [if_true] at h3
    exact ⟨by rw [← Option.some.inj h3]; rfl, below_step HB.out hb2⟩
   | false =>
    go_wp2_with (go_at_fn g; refine hcall.mono ?_; rintro e w' ⟨rfl, hb2⟩)
    go_roundg (l0.length - (kk + 1))
    case measure => omega
    case rel =>
     refine ⟨kk + 1, by omega, by omega, by go_num, ⟨by have h3 := HA2.out; simpa using h3⟩, ⟨below_step HB.out hb2⟩⟩
  ·have hltz : ¬ (kk : Int) < (l0.length : Int) := by omega
   have hA := HA.out
   rw [List.drop_of_length_le (by omega)] at hA
   have h4 : (-1 : Int) = r := Option.some.inj hA
   subst h4
   clear HA hA
   have : kk = l0.length := by omega
   subst this
   go_wp2
   go_ret
   exact ⟨rfl, HB.out⟩
theorem slices_ContainsFunc_int_int.gen (g : Nat) (lb : Array Value) (eg : ∀ args w, (callFunc g args).run Try.prog w = .ok (.enter g args) w) (q : List Int → Option Bool) (A0 : Option Addr) (c0 : Nat) (l0 : List (List Int)) (r : Bool) (w : World) (hr0 : Kd.C (Kd.slice 3 (Kd.int .i64)) w A0 l0.length l0) (hc0 : l0.length ≤ c0)
  (hp : ∀ (W : World) (x : List Int) (b : Bool) (A : Option Addr) (c : Nat), Below w.heap.size w W → x ∈ l0 → q x = some b → x.length ≤ c → Kd.C (Kd.int .i64) W A x.length x → Calls Try.prog g (#[.slice A x.length c] ++ lb) W fun e w' => e = .returned (.bool b) ∧ Below W.heap.size W w')
  (h : anyO q l0 = some r) : Calls Try.prog 52 #[.slice A0 l0.length c0, .func (.func g) #[] lb] w fun e w' => e = .returned (.bool r) ∧ Below w.heap.size w w' := by
 obtain ⟨i, hi, hd⟩ := idxO_of_anyO l0 r 0 (Int.le_refl 0) h
 have HC := am_ (slices_IndexFunc_int_int_71.gen g lb eg q A0 c0 l0 i w hr0 hc0 hp hi)
 have HD := am_ hd
 clear hr0 hp h hi hd
 go_enter Try.func52, Try.ntmps52
 go_wp2_with (go_at_call 71; refine HC.out.mono ?_; rintro e w' ⟨rfl, hb2⟩)
 go_ret
 exact ⟨by rw [← HD.out]; rfl, hb2⟩
def impl_isIncreasing.l0 : Nat → List Int → Int → List Int → Int → Int → Option (Bool)
 | 0, _, _, _, _, _ => none
 | k + 1, x0, x1, x7, x8, x9 => if x9 < x8 then (if 0 ≤ x9 then (if x9 < (x7.length : Int) then (if (rd x7 x9) < 0 then (some false) else (if (rd x7 x9) ≥ x1 then (some false) else (if x9 > 0 then (if 0 ≤ (wrap64 (x9 - 1)) then (if (wrap64 (x9 - 1)) < (x0.length : Int) then (if (rd x0 (wrap64 (x9 - 1))) ≥ (rd x7 x9) then (some false) else (impl_isIncreasing.l0 k x0 x1 x7 x8 (wrap64 (x9 + 1)))) else (none)) else (none)) else (impl_isIncreasing.l0 k x0 x1 x7 x8 (wrap64 (x9 + 1)))))) else (none)) else (none)) else (some true)
def impl_isIncreasing.f (k : Nat) (l0 : List Int) (a1 : Int) : Option (Bool) := impl_isIncreasing.l0 k l0 a1 l0 (l0.length : Int) 0
theorem impl_isIncreasing.mono_l : ∀ k, (∀ y0 y1 y2 y3 y4, LeO (impl_isIncreasing.l0 k y0 y1 y2 y3 y4) (impl_isIncreasing.l0 (k + 1) y0 y1 y2 y3 y4))
 | 0 => fun _ _ _ _ _ r h => by simp [impl_isIncreasing.l0] at h
 | k + 1 => by
  have ih0 := impl_isIncreasing.mono_l k
  ·intro y0 y1 y2 y3 y4
   unfold impl_isIncreasing.l0
   repeat' with_reducible first | apply ih0 | exact LeO.refl _ | exact LeO.none _ | apply LeO.ite | refine LeO.bind ?_ fun _ => ?_
theorem impl_isIncreasing.mono : ∀ a0 a1 k, LeO (impl_isIncreasing.f k a0 a1) (impl_isIncreasing.f (k + 1) a0 a1) := by
 intro a0 a1 k
 have ih0 := impl_isIncreasing.mono_l k
 unfold impl_isIncreasing.f
 repeat' with_reducible first | apply ih0 | exact LeO.refl _ | exact LeO.none _ | apply LeO.ite | refine LeO.bind ?_ fun _ => ?_
theorem impl_isIncreasing.calls (k : Nat) (A0 : Option Addr) (c0 : Nat) (l0 : List Int) (a1 : Int) (r : Bool) (w : World) (hr0 : Kd.C (Kd.int .i64) w A0 l0.length l0) (hc0 : l0.length ≤ c0) (h : impl_isIncreasing.f k l0 a1 = some r) :
  Calls Try.prog 46 #[.slice A0 l0.length c0, .int .i64 a1] w fun e w' => e = .returned (.bool r) ∧ Drawn0 w w' := by
 have HR0 := am_ hr0
 have HC0 := am_ hc0
 clear hr0 hc0
 have H := h
 clear h
 unfold impl_isIncreasing.f at H
 have H' := am_ H
 clear H
 go_enter Try.func46, Try.ntmps46
 go_wp2
 go_loopg [9] k (fun kq v9 w' => ∃ (x9_1 : Int), v9 = .int .i64 x9_1 ∧ Aside0 (impl_isIncreasing.l0 kq l0 a1 l0 (l0.length : Int) x9_1 = some r) ∧ Aside0 (kq ≤ k) ∧ Drawn0 w w')
 case atStart => exact ⟨(0), (Sh.es), H', ⟨Nat.le_refl _⟩, Sh.dr⟩
 case round =>
  clear H'
  obtain ⟨x9_1, rfl, HA, HK1, ⟨m1, rfl⟩⟩ := hrel
  cases gk with
  | zero => exact absurd HA.out (by simp [impl_isIncreasing.l0])
  | succ k1 =>
   have H := HA.out
   clear HA
   simp only [impl_isIncreasing.l0] at H
   by_cases c3 : x9_1 < (l0.length : Int)
   ·rw [if_pos c3] at H
    replace c3 := decide_eq_true c3
    by_cases c4 : 0 ≤ x9_1
    ·rw [if_pos c4] at H
     replace c4 := decide_eq_true c4
     by_cases c5 : x9_1 < (l0.length : Int)
     ·rw [if_pos c5] at H
      replace c5 := decide_eq_true c5
      by_cases c6 : (rd l0 x9_1) < 0
      ·rw [if_pos c6] at H
       replace c6 := decide_eq_true c6
       obtain rfl := Option.some.inj H
       have p326 : 0 ≤ (x9_1 : Int) := Sh.od
       have q326 : x9_1 < (l0.length : Int) := Sh.od
       obtain ⟨ad326, e326, hx326_0⟩ := Kd.at_int HR0.out x9_1 p326 q326
       cases e326
       replace p326 := eq_true p326
       replace q326 := eq_true q326
       go_wp2
       go_ret
       exact ⟨Sh.es, Sh.dr⟩
      ·rw [if_neg c6] at H
       replace c6 := decide_eq_false c6
       by_cases c7 : (rd l0 x9_1) ≥ a1
       ·rw [if_pos c7] at H
        have c7b0 : decide (a1 ≤ (rd l0 x9_1)) = true := decide_eq_true c7
        clear c7
        obtain rfl := Option.some.inj H
        have p326 : 0 ≤ (x9_1 : Int) := Sh.od
        have q326 : x9_1 < (l0.length : Int) := Sh.od
        obtain ⟨ad326, e326, hx326_0⟩ := Kd.at_int HR0.out x9_1 p326 q326
        cases e326
        replace p326 := eq_true p326
        replace q326 := eq_true q326
        go_wp2
        go_ret
        exact ⟨Sh.es, Sh.dr⟩
       ·rw [if_neg c7] at H
        have c7b0 : decide (a1 ≤ (rd l0 x9_1)) = false := decide_eq_false c7
        clear c7
        by_cases c8 : x9_1 > 0
        ·rw [if_pos c8] at H
         have c8b0 : decide (0 < x9_1) = true := decide_eq_true c8
         clear c8
         obtain ⟨ji9, hj1⟩ : ∃ j_ : Int, (wrap64 (x9_1 - 1)) = j_ := ⟨_, rfl⟩
         replace H : (if 0 ≤ (ji9) then (if (ji9) < (l0.length : Int) then (if (rd l0 (ji9)) ≥ (rd l0 x9_1) then (some false) else (impl_isIncreasing.l0 k1 l0 a1 l0 (l0.length : Int) (wrap64 (x9_1 + 1)))) else (none)) else (none)) = some r := by first | (rw [hj1] at H; exact H) | (simp only [hj1] at H ⊢; exact H)
         have hji9w : (IntKind.i64.wrap (x9_1 - 1)) = ji9 := (i64_w _).trans hj1
         by_cases c10 : 0 ≤ (ji9)
         ·rw [if_pos c10] at H
          replace c10 := decide_eq_true c10
          by_cases c11 : (ji9) < (l0.length : Int)
          ·rw [if_pos c11] at H
           replace c11 := decide_eq_true c11
           by_cases c12 : (rd l0 (ji9)) ≥ (rd l0 x9_1)
           ·rw [if_pos c12] at H
            have c12b0 : decide ((rd l0 x9_1) ≤ (rd l0 (ji9))) = true := decide_eq_true c12
            clear c12
            obtain rfl := Option.some.inj H
            have p326 : 0 ≤ (x9_1 : Int) := Sh.od
            have q326 : x9_1 < (l0.length : Int) := Sh.od
            obtain ⟨ad326, e326, hx326_0⟩ := Kd.at_int HR0.out x9_1 p326 q326
            cases e326
            replace p326 := eq_true p326
            replace q326 := eq_true q326
            have p327 : 0 ≤ ((ji9) : Int) := Sh.od
            have q327 : (ji9) < (l0.length : Int) := Sh.od
            obtain ⟨ad327, e327, hx327_0⟩ := Kd.at_int HR0.out (ji9) p327 q327
            obtain rfl : ad326 = ad327 := (by injection e327)
            replace p327 := eq_true p327
            replace q327 := eq_true q327
            go_wp2
            go_ret
            exact ⟨by first | rfl | (simp; done) | (simp only [← hj1] <;> (first | rfl | simp)) | (simp [*]; done), Sh.dr⟩
           ·rw [if_neg c12] at H
            have c12b0 : decide ((rd l0 x9_1) ≤ (rd l0 (ji9))) = false := decide_eq_false c12
            clear c12
            have H' := am_ H
            clear H
            have p326 : 0 ≤ (x9_1 : Int) := Sh.od
            have q326 : x9_1 < (l0.length : Int) := Sh.od
            obtain ⟨ad326, e326, hx326_0⟩ := Kd.at_int HR0.out x9_1 p326 q326
            cases e326
            replace p326 := eq_true p326
            replace q326 := eq_true q326
            have p327 : 0 ≤ ((ji9) : Int) := Sh.od
            have q327 : (ji9) < (l0.length : Int) := Sh.od
            obtain ⟨ad327, e327, hx327_0⟩ := Kd.at_int HR0.out (ji9) p327 q327
            obtain rfl : ad326 = ad327 := (by injection e327)
            replace p327 := eq_true p327
            replace q327 := eq_true q327
            go_wp2
            go_roundg k1
            case measure => have := HK1.out; omega
            case rel => exact ⟨(wrap64 (x9_1 + 1)), (Sh.es), H', ⟨by have := HK1.out; omega⟩, Sh.dr⟩
          ·rw [if_neg c11] at H
           cases H
         ·rw [if_neg c10] at H
          cases H
        ·rw [if_neg c8] at H
         have c8b0 : decide (0 < x9_1) = false := decide_eq_false c8
         clear c8
         have H' := am_ H
         clear H
         have p326 : 0 ≤ (x9_1 : Int) := Sh.od
         have q326 : x9_1 < (l0.length : Int) := Sh.od
         obtain ⟨ad326, e326, hx326_0⟩ := Kd.at_int HR0.out x9_1 p326 q326
         cases e326
         replace p326 := eq_true p326
         replace q326 := eq_true q326
         go_wp2
         go_roundg k1
         case measure => have := HK1.out; omega
         case rel => exact ⟨(wrap64 (x9_1 + 1)), (Sh.es), H', ⟨by have := HK1.out; omega⟩, Sh.dr⟩
     ·rw [if_neg c5] at H
      cases H
    ·rw [if_neg c4] at H
     cases H
   ·rw [if_neg c3] at H
    replace c3 := decide_eq_false c3
    obtain rfl := Option.some.inj H
    go_wp2
    go_ret
    exact ⟨Sh.es, Sh.dr⟩
def impl_areGoals_1.f (k : Nat) (l0 : List Int) (a1_0 : Int) : Option (Bool) := (impl_isIncreasing.f k l0 a1_0).bind fun t328 => (some (!t328))
theorem impl_areGoals_1.mono : ∀ a0 a1 k, LeO (impl_areGoals_1.f k a0 a1) (impl_areGoals_1.f (k + 1) a0 a1) := by
 intro a0 a1 k
 unfold impl_areGoals_1.f
 repeat' with_reducible first | apply impl_isIncreasing.mono | exact LeO.refl _ | exact LeO.none _ | apply LeO.ite | refine LeO.bind ?_ fun _ => ?_
theorem impl_areGoals_1.calls (k : Nat) (A0 : Option Addr) (c0 : Nat) (l0 : List Int) (bp1 : Nat) (a1_0 : Int) (r : Bool) (w : World) (hr0 : Kd.C (Kd.int .i64) w A0 l0.length l0) (hc0 : l0.length ≤ c0) (hb1 : w.heap[bp1]? = some (.cells #[.int .i64 a1_0] 3 (0, 0))) (h : impl_areGoals_1.f k l0 a1_0 = some r) :
  Calls Try.prog 53 #[.slice A0 l0.length c0, .pointer (some ⟨bp1, 0, none⟩)] w fun e w' => e = .returned (.bool r) ∧ Drawn0 w w' := by
 have HR0 := am_ hr0
 have HC0 := am_ hc0
 clear hr0 hc0
 have HX1 := am_ hb1
 clear hb1
 have H := h
 clear h
 unfold impl_areGoals_1.f at H
 obtain ⟨t328, A3, H⟩ := Sh.ba H
 obtain rfl := Option.some.inj H
 have hcz4_0 : w.cell? ⟨bp1, 0, none⟩ = some (.int .i64 a1_0) := (blk_cell HX1.out 0).trans rfl
 have hfz4_0 := blk_frozen HX1.out 0
 go_enter Try.func53, Try.ntmps53
 go_wp2_with (first | ((with_reducible refine Sh.k 46 ?_); refine Sh.gL (some 6) Try.func46 #[.slice A0 l0.length c0, .int .i64 a1_0] (h := ?_); (with_reducible refine (impl_isIncreasing.calls k _ _ l0 a1_0 t328 _ ?side1 ?side2 A3.out).mono ?_); (case side1 => repeat (first | exact HR0.out | (with_reducible first | refine Kd.C_alloc ?_ _ | refine Kd.C_drewN ?_ _ | refine Kd.C_drew ?_))); (case side2 => exact HC0.out); rintro e w' ⟨rfl, ⟨nd, rfl⟩⟩; refine ⟨_, rfl, ?_⟩))
 go_ret
 exact ⟨Sh.es, Sh.dr⟩
def slices_ContainsFunc_int_int_by_impl_areGoals_1.f (k : Nat) (l0 : List (List Int)) (a1_0 : Int) : Option (Bool) := anyO (fun x_ => impl_areGoals_1.f k x_ a1_0) l0
theorem slices_ContainsFunc_int_int_by_impl_areGoals_1.mono : ∀ a0 a1 k, LeO (slices_ContainsFunc_int_int_by_impl_areGoals_1.f k a0 a1) (slices_ContainsFunc_int_int_by_impl_areGoals_1.f (k + 1) a0 a1) := by
 intro a0 a1 k
 unfold slices_ContainsFunc_int_int_by_impl_areGoals_1.f
 with_reducible exact anyO_mono (fun x_ => impl_areGoals_1.mono x_ a1 k) a0
theorem slices_ContainsFunc_int_int_by_impl_areGoals_1.calls (k : Nat) (A0 : Option Addr) (c0 : Nat) (l0 : List (List Int)) (bp1 : Nat) (a1_0 : Int) (r : Bool) (w : World) (hr0 : Kd.C (Kd.slice 3 (Kd.int .i64)) w A0 l0.length l0) (hc0 : l0.length ≤ c0) (hb1 : w.heap[bp1]? = some (.cells #[.int .i64 a1_0] 3 (0, 0))) (h : slices_ContainsFunc_int_int_by_impl_areGoals_1.f k l0 a1_0 = some r) :
  Calls Try.prog 52 #[.slice A0 l0.length c0, .func (.func 53) #[] #[.pointer (some ⟨bp1, 0, none⟩)]] w fun e w' => e = .returned (.bool r) ∧ Below w.heap.size w w' := by
 refine slices_ContainsFunc_int_int.gen 53 #[.pointer (some ⟨bp1, 0, none⟩)] (enters_of Try.func53 (by kernel_rfl) rfl) _ A0 c0 l0 r w hr0 hc0 ?_ h
 intro W x b A c hB_ hin_ hq_ hl_ hC_
 refine (impl_areGoals_1.calls k _ _ x bp1 a1_0 b W hC_ hl_ ((hB_.block _ (blk_lt hb1)).trans hb1) hq_).mono ?_
 rintro e w' ⟨rfl, hd_⟩
 exact ⟨rfl, hd_.below⟩
def impl_areGoals.f (k : Nat) (l0 : List (List Int)) (a1 : Int) : Option (Bool) := if (l0.length : Int) ≤ 6 then ((slices_ContainsFunc_int_int_by_impl_areGoals_1.f k l0 a1).bind fun t330 => (some (!t330))) else (some false)
theorem impl_areGoals.mono : ∀ a0 a1 k, LeO (impl_areGoals.f k a0 a1) (impl_areGoals.f (k + 1) a0 a1) := by
 intro a0 a1 k
 unfold impl_areGoals.f
 repeat' with_reducible first | apply slices_ContainsFunc_int_int_by_impl_areGoals_1.mono | exact LeO.refl _ | exact LeO.none _ | apply LeO.ite | refine LeO.bind ?_ fun _ => ?_
theorem impl_areGoals.calls (k : Nat) (A0 : Option Addr) (c0 : Nat) (l0 : List (List Int)) (a1 : Int) (r : Bool) (w : World) (hr0 : Kd.C (Kd.slice 3 (Kd.int .i64)) w A0 l0.length l0) (hc0 : l0.length ≤ c0) (h : impl_areGoals.f k l0 a1 = some r) :
  Calls Try.prog 39 #[.slice A0 l0.length c0, .int .i64 a1] w fun e w' => e = .returned (.bool r) ∧ Below w.heap.size w w' := by
 have HR0 := am_ hr0
 have HC0 := am_ hc0
 clear hr0 hc0
 have HB := am_ (Below.refl w.heap.size w)
 have H := h
 clear h
 unfold impl_areGoals.f at H
 by_cases c3 : (l0.length : Int) ≤ 6
 ·rw [if_pos c3] at H
  have c3b0 := decide_eq_true c3
  have c3b1 : decide (l0.length ≤ 6) = true := decide_eq_true (by omega)
  clear c3
  obtain ⟨t330, A4, H⟩ := Sh.ba H
  obtain rfl := Option.some.inj H
  go_enter Try.func39, Try.ntmps39
  go_wp2_with (first | ((with_reducible refine Sh.d 3 ?_); refine Sh.bz w (N := 3) (cs := #[.int .i64 a1]) (t := 3) (h := ?_); clear HB; intro gb329 w5 BK329 GE329 HB) | (go_at_call 52; (with_reducible refine (slices_ContainsFunc_int_int_by_impl_areGoals_1.calls k _ _ l0 gb329 a1 t330 _ (Sh.cB HR0.out) HC0.out ?side3 A4.out).mono ?_); (case side3 => refine Sh.pl ?_; exact BK329.out); rintro e w6 ⟨rfl, hb⟩; replace BK329 := Sh.ab BK329 hb; replace HB := Sh.hb hb; (try clear hb); (try clear hb2); (try clear hi)))
  go_ret
  exact ⟨Sh.eR, Sh.bw⟩
 ·rw [if_neg c3] at H
  have c3b0 := decide_eq_false c3
  have c3b1 : decide (l0.length ≤ 6) = false := decide_eq_false (by omega)
  clear c3
  obtain rfl := Option.some.inj H
  go_enter Try.func39, Try.ntmps39
  go_wp2_with (first | ((with_reducible refine Sh.d 3 ?_); refine Sh.bz w (N := 3) (cs := #[.int .i64 a1]) (t := 3) (h := ?_); clear HB; intro gb329 w7 BK329 GE329 HB))
  go_ret
  exact ⟨Sh.eR, Sh.bw⟩
def impl_GoodGraph.l0 : Nat → Int → List (List Int) → Int → Int → List (List Int) → Option (Bool)
 | 0, _, _, _, _, _ => none
 | k + 1, x3, x11, x12, x13, x332000 => if x13 < x12 then (if 0 ≤ x13 then (if x13 < (x11.length : Int) then ((impl_isIncreasing.f k (rd_L1 x11 x13) (x332000.length : Int)).bind fun t333 => (if t333 = true then (impl_GoodGraph.l0 k (wrap64 (x3 + ((rd_L1 x11 x13).length : Int))) x11 x12 (wrap64 (x13 + 1)) x332000) else (some false))) else (none)) else (none)) else (some (decide (x3 ≤ 20000)))
def impl_GoodGraph.f (k : Nat) (l0_0 : List (List Int)) : Option (Bool) := if (l0_0.length : Int) > 1200 then (some false) else (impl_GoodGraph.l0 k 0 l0_0 (l0_0.length : Int) 0 l0_0)
theorem impl_GoodGraph.mono_l : ∀ k, (∀ y0 y1 y2 y3 y4, LeO (impl_GoodGraph.l0 k y0 y1 y2 y3 y4) (impl_GoodGraph.l0 (k + 1) y0 y1 y2 y3 y4))
 | 0 => fun _ _ _ _ _ r h => by simp [impl_GoodGraph.l0] at h
 | k + 1 => by
  have ih0 := impl_GoodGraph.mono_l k
  ·intro y0 y1 y2 y3 y4
   unfold impl_GoodGraph.l0
   repeat' with_reducible first | apply ih0 | apply impl_isIncreasing.mono | exact LeO.refl _ | exact LeO.none _ | apply LeO.ite | refine LeO.bind ?_ fun _ => ?_
theorem impl_GoodGraph.mono : ∀ a0 k, LeO (impl_GoodGraph.f k a0) (impl_GoodGraph.f (k + 1) a0) := by
 intro a0 k
 have ih0 := impl_GoodGraph.mono_l k
 unfold impl_GoodGraph.f
 repeat' with_reducible first | apply ih0 | apply impl_isIncreasing.mono | exact LeO.refl _ | exact LeO.none _ | apply LeO.ite | refine LeO.bind ?_ fun _ => ?_
theorem impl_GoodGraph.calls (k : Nat) (A0_0 : Option Addr) (c0_0 : Nat) (l0_0 : List (List Int)) (r : Bool) (w : World) (hr0_0 : Kd.C (Kd.slice 3 (Kd.int .i64)) w A0_0 l0_0.length l0_0) (hc0_0 : l0_0.length ≤ c0_0) (h : impl_GoodGraph.f k l0_0 = some r) :
  Calls Try.prog 29 #[.agg #[.slice A0_0 l0_0.length c0_0]] w fun e w' => e = .returned (.bool r) ∧ Below w.heap.size w w' := by
 have hu29 := Try.underlying29
 have HR0_0 := am_ hr0_0
 have HC0_0 := am_ hc0_0
 clear hr0_0 hc0_0
 have HB := am_ (Below.refl w.heap.size w)
 have H := h
 clear h
 unfold impl_GoodGraph.f at H
 by_cases c2 : (l0_0.length : Int) > 1200
 ·rw [if_pos c2] at H
  have c2b0 : decide (1200 < (l0_0.length : Int)) = true := decide_eq_true c2
  have c2b1 : decide (1200 < l0_0.length) = true := decide_eq_true (by omega)
  clear c2
  obtain rfl := Option.some.inj H
  go_enter Try.func29, Try.ntmps29
  go_wp2_with (first | ((with_reducible refine Sh.d 1 ?_); refine Sh.bz w (N := 1) (cs := #[.slice A0_0 l0_0.length c0_0]) (t := 29) (h := ?_); clear HB; intro gb331 w3 BK331 GE331 HB; have hcz4_0 := Sh.bc BK331.out 0; have hfz4_0 := blk_frozen BK331.out 0))
  go_ret
  exact ⟨Sh.eR, Sh.bw⟩
 ·rw [if_neg c2] at H
  have c2b0 : decide (1200 < (l0_0.length : Int)) = false := decide_eq_false c2
  have c2b1 : decide (1200 < l0_0.length) = false := decide_eq_false (by omega)
  clear c2
  have H' := am_ H
  clear H
  go_enter Try.func29, Try.ntmps29
  go_wp2_with (first | ((with_reducible refine Sh.d 1 ?_); refine Sh.bz w (N := 1) (cs := #[.slice A0_0 l0_0.length c0_0]) (t := 29) (h := ?_); clear HB; intro gb331 w5 BK331 GE331 HB; have hcz6_0 := Sh.bc BK331.out 0; have hfz6_0 := blk_frozen BK331.out 0))
  go_loopg [3, 13] k (fun kq v3 v13 w' => ∃ (x3_1 : Int) (x13_1 : Int), v3 = .int .i64 x3_1 ∧ v13 = .int .i64 x13_1 ∧ Aside0 (impl_GoodGraph.l0 kq x3_1 l0_0 (l0_0.length : Int) x13_1 l0_0 = some r) ∧ Aside0 (kq ≤ k) ∧ Aside0 (w'.heap[gb331]? = some (.cells #[(.slice A0_0 l0_0.length c0_0)] 29 (0, 0))) ∧ Aside0 (Below w.heap.size w w'))
  case atStart => exact ⟨(0), (0), (Sh.es), (Sh.es), H', ⟨Nat.le_refl _⟩, ⟨by refine Sh.pl ?_; exact BK331.out⟩, ⟨Sh.bw⟩⟩
  case round =>
   clear H'
   try clear hcz4_0
   try clear hcz6_0
   try clear hfz4_0
   try clear hfz6_0
   obtain ⟨x3_1, x13_1, rfl, rfl, HA, HK1, BK331, HB⟩ := hrel
   cases gk with
   | zero => exact absurd HA.out (by simp [impl_GoodGraph.l0])
   | succ k1 =>
    have H := HA.out
    clear HA
    simp only [impl_GoodGraph.l0] at H
    by_cases c7 : x13_1 < (l0_0.length : Int)
    ·rw [if_pos c7] at H
     replace c7 := decide_eq_true c7
     by_cases c8 : 0 ≤ x13_1
     ·rw [if_pos c8] at H
      replace c8 := decide_eq_true c8
      by_cases c9 : x13_1 < (l0_0.length : Int)
      ·rw [if_pos c9] at H
       replace c9 := decide_eq_true c9
       obtain ⟨t333, A10, H⟩ := Sh.ba H
       by_cases c11 : t333 = true
       ·subst c11
        rw [if_pos rfl] at H
        have H' := am_ H
        clear H
        have p332 : 0 ≤ (x13_1 : Int) := Sh.od
        have q332 : x13_1 < (l0_0.length : Int) := Sh.od
        obtain ⟨ad332, A332_0, c332_0, e332, hx332_0, hl332_0, hi332_0⟩ := at_L1 HR0_0.out x13_1 p332 q332
        cases e332
        try replace hx332_0 := Sh.cw hx332_0
        have HR332_0 := am_ hi332_0
        have HC332_0 := am_ hl332_0
        clear hi332_0 hl332_0
        replace p332 := eq_true p332
        replace q332 := eq_true q332
        have hcz12_0 := Sh.bc BK331.out 0
        have hfz12_0 := blk_frozen BK331.out 0
        go_wp2_with (first | ((with_reducible refine Sh.k 46 ?_); refine Sh.gD (some 21) Try.func46 #[.slice A332_0 (rd_L1 l0_0 x13_1).length c332_0, .int .i64 (l0_0.length : Int)] (impl_isIncreasing.calls k1 _ _ (rd_L1 l0_0 x13_1) (l0_0.length : Int) true _ (Sh.cB HR332_0.out) HC332_0.out A10.out) fun nd => ?_))
        go_roundg k1
        case measure => have := HK1.out; omega
        case rel => exact ⟨(wrap64 (x3_1 + ((rd_L1 l0_0 x13_1).length : Int))), (wrap64 (x13_1 + 1)), (Sh.es), (Sh.es), H', ⟨by have := HK1.out; omega⟩, ⟨by refine Sh.pl ?_; exact BK331.out⟩, ⟨Sh.bw⟩⟩
       ·replace c11 := Bool.eq_false_iff.mpr c11
        subst c11
        rw [Sh.nf] at H
        obtain rfl := Option.some.inj H
        have p332 : 0 ≤ (x13_1 : Int) := Sh.od
        have q332 : x13_1 < (l0_0.length : Int) := Sh.od
        obtain ⟨ad332, A332_0, c332_0, e332, hx332_0, hl332_0, hi332_0⟩ := at_L1 HR0_0.out x13_1 p332 q332
        cases e332
        try replace hx332_0 := Sh.cw hx332_0
        have HR332_0 := am_ hi332_0
        have HC332_0 := am_ hl332_0
        clear hi332_0 hl332_0
        replace p332 := eq_true p332
        replace q332 := eq_true q332
        have hcz13_0 := Sh.bc BK331.out 0
        have hfz13_0 := blk_frozen BK331.out 0
        go_wp2_with (first | ((with_reducible refine Sh.k 46 ?_); refine Sh.gD (some 21) Try.func46 #[.slice A332_0 (rd_L1 l0_0 x13_1).length c332_0, .int .i64 (l0_0.length : Int)] (impl_isIncreasing.calls k1 _ _ (rd_L1 l0_0 x13_1) (l0_0.length : Int) false _ (Sh.cB HR332_0.out) HC332_0.out A10.out) fun nd => ?_))
        go_ret
        exact ⟨Sh.eR, Sh.bw⟩
      ·rw [if_neg c9] at H
       cases H
     ·rw [if_neg c8] at H
      cases H
    ·rw [if_neg c7] at H
     replace c7 := decide_eq_false c7
     obtain rfl := Option.some.inj H
     go_wp2
     go_ret
     exact ⟨Sh.eR, Sh.bw⟩
def impl_isGraphFrom.f (k : Nat) (l0_0 : List (List Int)) (l1 : List Int) : Option (Bool) := (impl_GoodGraph.f k l0_0).bind fun t335 => (if t335 = true then ((impl_isIncreasing.f k l1 (l0_0.length : Int)).bind fun t336 => (some t336)) else (some false))
theorem impl_isGraphFrom.mono : ∀ a0 a1 k, LeO (impl_isGraphFrom.f k a0 a1) (impl_isGraphFrom.f (k + 1) a0 a1) := by
 intro a0 a1 k
 unfold impl_isGraphFrom.f
 repeat' with_reducible first | apply impl_GoodGraph.mono | apply impl_isIncreasing.mono | exact LeO.refl _ | exact LeO.none _ | apply LeO.ite | refine LeO.bind ?_ fun _ => ?_
theorem impl_isGraphFrom.calls (k : Nat) (A0_0 : Option Addr) (c0_0 : Nat) (l0_0 : List (List Int)) (A1 : Option Addr) (c1 : Nat) (l1 : List Int) (r : Bool) (w : World) (hr0_0 : Kd.C (Kd.slice 3 (Kd.int .i64)) w A0_0 l0_0.length l0_0) (hc0_0 : l0_0.length ≤ c0_0) (hr1 : Kd.C (Kd.int .i64) w A1 l1.length l1) (hc1 : l1.length ≤ c1) (h : impl_isGraphFrom.f k l0_0 l1 = some r) :
  Calls Try.prog 43 #[.agg #[.slice A0_0 l0_0.length c0_0], .slice A1 l1.length c1] w fun e w' => e = .returned (.bool r) ∧ Below w.heap.size w w' := by
 have hu29 := Try.underlying29
 have HR0_0 := am_ hr0_0
 have HC0_0 := am_ hc0_0
 clear hr0_0 hc0_0
 have HR1 := am_ hr1
 have HC1 := am_ hc1
 clear hr1 hc1
 have HB := am_ (Below.refl w.heap.size w)
 have H := h
 clear h
 unfold impl_isGraphFrom.f at H
 obtain ⟨t335, A3, H⟩ := Sh.ba H
 by_cases c4 : t335 = true
 ·subst c4
  rw [if_pos rfl] at H
  obtain ⟨t336, A5, H⟩ := Sh.ba H
  obtain rfl := Option.some.inj H
  go_enter Try.func43, Try.ntmps43
  go_wp2_with (first | ((with_reducible refine Sh.d 2 ?_); (try (refine gate_guard (by rfl) ?_; dsimp only)); refine Sh.bz w (N := 2) (cs := #[.slice A0_0 l0_0.length c0_0]) (t := 29) (h := ?_); clear HB; intro gb334 w6 BK334 GE334 HB; have hcz7_0 := Sh.bc BK334.out 0; have hfz7_0 := blk_frozen BK334.out 0) | ((with_reducible refine Sh.k 29 ?_); refine Sh.gB (some 6) Try.func29 #[.agg #[.slice A0_0 l0_0.length c0_0]] (impl_GoodGraph.calls k _ _ l0_0 true _ (Sh.cB HR0_0.out) HC0_0.out A3.out) fun w8 hb => ?_; replace BK334 := Sh.ab BK334 hb; replace HB := Sh.hb hb; (try clear hb); have hcz9_0 := Sh.bc BK334.out 0; have hfz9_0 := blk_frozen BK334.out 0) | (go_at_call 46; (with_reducible refine (impl_isIncreasing.calls k _ _ l1 (l0_0.length : Int) t336 _ (Sh.cB HR1.out) HC1.out A5.out).mono ?_); rintro e w' ⟨rfl, ⟨nd, rfl⟩⟩))
  go_ret
  exact ⟨Sh.eR, Sh.bw⟩
 ·replace c4 := Bool.eq_false_iff.mpr c4
  subst c4
  rw [Sh.nf] at H
  obtain rfl := Option.some.inj H
  go_enter Try.func43, Try.ntmps43
  go_wp2_with (first | ((with_reducible refine Sh.d 2 ?_); (try (refine gate_guard (by rfl) ?_; dsimp only)); refine Sh.bz w (N := 2) (cs := #[.slice A0_0 l0_0.length c0_0]) (t := 29) (h := ?_); clear HB; intro gb334 w10 BK334 GE334 HB; have hcz11_0 := Sh.bc BK334.out 0; have hfz11_0 := blk_frozen BK334.out 0) | ((with_reducible refine Sh.k 29 ?_); refine Sh.gB (some 6) Try.func29 #[.agg #[.slice A0_0 l0_0.length c0_0]] (impl_GoodGraph.calls k _ _ l0_0 false _ (Sh.cB HR0_0.out) HC0_0.out A3.out) fun w12 hb => ?_; replace BK334 := Sh.ab BK334 hb; replace HB := Sh.hb hb; (try clear hb)))
  go_ret
  exact ⟨Sh.eR, Sh.bw⟩
def slices_Clone_int_int.f (l0 : List (Int)) : Option (List (Int)) := if l0.length < 17592186044416 then some l0 else none
theorem slices_Clone_int_int.calls (A0 : Option Addr) (c0 : Nat) (l0 : List (Int)) (r : List (Int)) (w : World) (hr0 : Kd.C (Kd.int .i64) w A0 l0.length l0) (hc0 : l0.length ≤ c0) (h : slices_Clone_int_int.f l0 = some r) :
  Calls Try.prog 64 #[.slice A0 l0.length c0] w fun e w' => ∃ v0_ : Value, e = .returned (v0_) ∧ Kd.R (Kd.int .i64) 3 w' w.heap.size (fun _ => True) v0_ r ∧ Below w.heap.size w w' := by
 have hlim : l0.length < 17592186044416 := by
  rcases Nat.lt_or_ge l0.length 17592186044416 with h1 | h1
  ·exact h1
  ·rw [slices_Clone_int_int.f, if_neg (by omega)] at h; cases h
 rw [slices_Clone_int_int.f, if_pos hlim] at h
 obtain rfl := Option.some.inj h
 clear h
 cases A0 with
 | none =>
  have hl : l0 = [] := by
   rcases l0 with _ | ⟨x, t⟩
   ·rfl
   ·obtain ⟨ad, e, _⟩ := hr0.2.2 (by simp)
    cases e
  subst hl
  have he : ∀ (w : World) (n c : Nat), (binOp .eql 26 (.slice none n c) (.slice none 0 0)).run Try.prog w = .ok (.bool true) w := fun _ _ _ => rfl
  go_enter Try.func64, Try.ntmps64
  go_wp2
  all_goals (go_ret; exact ⟨_, rfl, Kd.R_nil _ _ _ _ _, Below.refl _ _⟩)
 | some a0 =>
  have HR0 := am_ hr0
  have HC0 := am_ hc0
  clear hr0 hc0
  have HB := am_ (Below.refl w.heap.size w)
  have LM := am_ hlim
  clear hlim
  have he : ∀ (w : World) (n c : Nat), (binOp .eql 26 (.slice (some a0) n c) (.slice none 0 0)).run Try.prog w = .ok (.bool false) w := fun _ _ _ => rfl
  go_enter Try.func64, Try.ntmps64
  go_wp2_with (first | ((with_reducible refine Sh.d 5 ?_); refine Kd.R_lit (Kd.int .i64) _ 3 ?hg (N := 5) ?hd (xs := ([] : List (Int))) (inner := []) (ok := fun _ => True) (okp := fun _ => True) ?hr ?hp (fun _ hk => hk) trivial (Below.refl _ _) (Nat.le_refl _) (by simp) ?_; (case hd => rfl); (case hg => rfl); (case hr => first | (go_simp; done) | (go_simp; rfl)); (case hp => exact (Reps.none _ _)); intro v359 w3 ho4 hb hg_ hnew_; clear hg_ hnew_; have HO360 := am_ (Kd.R_lower ho4 (below_size Sh.bw)); replace HB := Sh.hb hb; clear hb ho4) | ((with_reducible refine gate_builtin (b := .append) (xs := #[.tmp 5, .tmp 6]) rfl ?_); at_builtin; refine Kd.R_append_rows (Kd.int .i64) (w0 := w) w.heap.size rfl (.tmp 5) (.tmp 6) 26 3 (.int .i64 0) 8 rfl Try.underlying26 info3 rfl (by decide) (by omega) v359 [] l0 _ _ _ (fun _ => True) (fun _ => False) rfl rfl ?aO ?aR (fun _ _ h => h) (fun _ h => h.elim) ?aF ?aB ?aS ?aL ?_; (case aR => repeat (first | exact (Kd.C_below HR0.out HB.out) | (with_reducible first | refine Kd.C_alloc ?_ _ | refine Kd.C_drewN ?_ _ | refine Kd.C_drew ?_))); (case aB => exact Sh.bw); (case aF => exact (fun _ _ => trivial)); (case aO => exact (Sh.rl HO360.out)); (case aS => exact (below_size Sh.bw)); (case aL => have := LM.out; simp only [List.length_nil]; omega); intro v362 w5 ho hb hg hat; rw [List.nil_append] at ho; have n0_ := am_ hb; have n1_ := am_ ho; clear HB; clear HO360; have HB := n0_; have HO363 := n1_; clear n0_ n1_; clear ho hb hg hat))
  go_ret
  exact ⟨_, rfl, HO363.out, HB.out⟩
end Go.Proofs.Ytnfpolhpanpeiaa.P
