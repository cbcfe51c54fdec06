/- Go functions of this seat as Lean functions, and the proofs that the calls come to what these say; printed by a program of this session. No condition. -/
import Derived.Test.YtjenmoopbmklfaaP0
import Derived.Test.YtjenmoopbmklfaaMFnExactTouchedBy4
set_option linter.unusedVariables false
set_option linter.unusedSimpArgs false
set_option maxHeartbeats 40000000
set_option maxRecDepth 100000
namespace Go.Proofs.Ytjenmoopbmklfaa.P
open Go.RowKit Go.Proofs.YtjenmoopbmklfaaW.PrintWords Go.Proofs.YtjenmoopbmklfaaW.PrintLast Go.Proofs.YtjenmoopbmklfaaW.PrintMore Go.Proofs.Ytjenmoopbmklfaa.Hof
attribute [local go_sem] max2_int min2_int max_two min_two max_three min_three max_four min_four
def impl_kindOf.f (k : Nat) (l0 : List (S73)) : Option (Int) := if 0 ≤ (wrap64 ((l0.length : Int) - 1)) then (if (wrap64 ((l0.length : Int) - 1)) < (l0.length : Int) then ((impl_operandsOf.f k ((rd_T73 l0 (wrap64 ((l0.length : Int) - 1))).f0)).bind fun bt346 => (some bt346.2.2)) else (none)) else (none)
theorem impl_kindOf.mono : ∀ a0 k, LeO (impl_kindOf.f k a0) (impl_kindOf.f (k + 1) a0) := by
 intro a0 k
 unfold impl_kindOf.f
 repeat' with_reducible first | apply impl_operandsOf.mono | exact LeO.refl _ | exact LeO.none _ | apply LeO.ite | refine LeO.bind ?_ fun _ => ?_
theorem impl_kindOf.calls (k : Nat) (A0 : Option Addr) (c0 : Nat) (l0 : List (S73)) (r : Int) (w : World) (hr0 : Kd.C k73 w A0 l0.length l0) (hc0 : l0.length ≤ c0) (h : impl_kindOf.f k l0 = some r) :
  Calls Try.prog 80 #[.slice A0 l0.length c0] w fun e w' => e = .returned (.int .i64 r) ∧ Drawn0 w w' := by
 have HR0 := am_ hr0
 have HC0 := am_ hc0
 clear hr0 hc0
 have H := h
 clear h
 unfold impl_kindOf.f at H
 obtain ⟨ji2, hj1⟩ : ∃ j_ : Int, (wrap64 ((l0.length : Int) - 1)) = j_ := ⟨_, rfl⟩
 replace H : (if 0 ≤ (ji2) then (if (ji2) < (l0.length : Int) then ((impl_operandsOf.f k ((rd_T73 l0 (ji2)).f0)).bind fun bt346 => (some bt346.2.2)) else (none)) else (none)) = some r := by first | (rw [hj1] at H; exact H) | (simp only [hj1] at H ⊢; exact H)
 have hji2w : (IntKind.i64.wrap ((l0.length : Int) - 1)) = ji2 := (i64_w _).trans hj1
 by_cases c3 : 0 ≤ (ji2)
 ·rw [if_pos c3] at H
  have c3b0 := decide_eq_true c3
  clear c3
  by_cases c4 : (ji2) < (l0.length : Int)
  ·rw [if_pos c4] at H
   have c4b0 := decide_eq_true c4
   clear c4
   obtain ⟨⟨t346, t347, t348⟩, A50, H⟩ := Sh.bd H
   have A5 := am_ A50
   clear A50
   obtain rfl := Option.some.inj H
   have p345 : 0 ≤ ((ji2) : Int) := Sh.od
   have q345 : (ji2) < (l0.length : Int) := Sh.od
   obtain ⟨ad345, e345, hx345_0, hx345_1⟩ := at_T73 HR0.out (ji2) p345 q345
   cases e345
   replace p345 := eq_true p345
   replace q345 := eq_true q345
   go_enter Try.func80, Try.ntmps80
   go_wp2_with (first | ((with_reducible refine Sh.k 89 ?_); refine goesL_ (some 14) rfl rfl Try.func89 (by kernel_rfl) rfl #[.int .i64 ((rd_T73 l0 (ji2)).f0)] rfl (by (try simp only [List.map_toArray, List.map_cons, List.map_nil]); first | done | (simp only [hj1]; rfl) | rfl | (simp only [List.length_drop, List.length_take]; rfl)) ?_; (with_reducible refine (impl_operandsOf.calls k ((rd_T73 l0 (ji2)).f0) t346 t347 t348 _ A5.out).mono ?_); rintro e w' ⟨rfl, ⟨nd, rfl⟩⟩; refine ⟨_, rfl, ?_⟩))
   go_ret
   exact ⟨by first | rfl | (simp; done) | (simp only [← hj1] <;> (first | rfl | simp)) | (simp [*]; done), Sh.dr⟩
  ·rw [if_neg c4] at H
   exact absurd H (by simp)
 ·rw [if_neg c3] at H
  exact absurd H (by simp)
def impl_isTermOf.f (k : Nat) (a0 : Int) (a1 : Int) (l2 : List (S73)) (a3 : Int) : Option (Bool) := (impl_GoodTerm.f k a0 a1 l2).bind fun t349 => (if t349 = true then ((impl_kindOf.f k l2).bind fun t350 => (some (t350 == a3))) else (some false))
theorem impl_isTermOf.mono : ∀ a0 a1 a2 a3 k, LeO (impl_isTermOf.f k a0 a1 a2 a3) (impl_isTermOf.f (k + 1) a0 a1 a2 a3) := by
 intro a0 a1 a2 a3 k
 unfold impl_isTermOf.f
 repeat' with_reducible first | apply impl_GoodTerm.mono | apply impl_kindOf.mono | exact LeO.refl _ | exact LeO.none _ | apply LeO.ite | refine LeO.bind ?_ fun _ => ?_
theorem impl_isTermOf.calls (k : Nat) (a0 : Int) (a1 : Int) (A2 : Option Addr) (c2 : Nat) (l2 : List (S73)) (a3 : Int) (r : Bool) (w : World) (hr2 : Kd.C k73 w A2 l2.length l2) (hc2 : l2.length ≤ c2) (h : impl_isTermOf.f k a0 a1 l2 a3 = some r) :
  Calls Try.prog 60 #[.int .i64 a0, .int .i64 a1, .slice A2 l2.length c2, .int .i64 a3] w fun e w' => e = .returned (.bool r) ∧ Below w.heap.size w w' := by
 have HR2 := am_ hr2
 have HC2 := am_ hc2
 clear hr2 hc2
 have HB := am_ (Below.refl w.heap.size w)
 have H := h
 clear h
 unfold impl_isTermOf.f at H
 obtain ⟨t349, A5, H⟩ := Sh.ba H
 by_cases c6 : t349 = true
 ·subst c6
  rw [if_pos rfl] at H
  obtain ⟨t350, A7, H⟩ := Sh.ba H
  obtain rfl := Option.some.inj H
  go_enter Try.func60, Try.ntmps60
  go_wp2_with (first | ((with_reducible refine Sh.k 79 ?_); refine Sh.gL (some 12) Try.func79 #[.int .i64 a0, .int .i64 a1, .slice A2 l2.length c2] (h := ?_); (with_reducible refine (impl_GoodTerm.calls k a0 a1 _ _ l2 true _ ?side1 ?side2 A5.out).mono ?_); (case side1 => repeat (first | exact HR2.out | (with_reducible first | refine Kd.C_alloc ?_ _ | refine Kd.C_drewN ?_ _ | refine Kd.C_drew ?_))); (case side2 => exact HC2.out); rintro e w8 ⟨rfl, hb⟩; refine ⟨_, rfl, ?_⟩; replace HB := Sh.hb hb; (try clear hb); (try clear hb2); (try clear hk); (try clear hi)) | (go_at_call 80; (with_reducible refine (impl_kindOf.calls k _ _ l2 t350 _ (Sh.cB HR2.out) HC2.out A7.out).mono ?_); rintro e w' ⟨rfl, ⟨nd, rfl⟩⟩))
  go_ret
  exact ⟨Sh.eR, Sh.bw⟩
 ·replace c6 := Bool.eq_false_iff.mpr c6
  subst c6
  rw [Sh.nf] at H
  obtain rfl := Option.some.inj H
  go_enter Try.func60, Try.ntmps60
  go_wp2_with (first | ((with_reducible refine Sh.k 79 ?_); refine Sh.gL (some 12) Try.func79 #[.int .i64 a0, .int .i64 a1, .slice A2 l2.length c2] (h := ?_); (with_reducible refine (impl_GoodTerm.calls k a0 a1 _ _ l2 false _ ?side1 ?side2 A5.out).mono ?_); (case side1 => repeat (first | exact HR2.out | (with_reducible first | refine Kd.C_alloc ?_ _ | refine Kd.C_drewN ?_ _ | refine Kd.C_drew ?_))); (case side2 => exact HC2.out); rintro e w9 ⟨rfl, hb⟩; refine ⟨_, rfl, ?_⟩; replace HB := Sh.hb hb; (try clear hb); (try clear hb2); (try clear hk); (try clear hi)))
  go_ret
  exact ⟨Sh.eR, Sh.bw⟩
def impl_Program_isCondition.f (k : Nat) (a0_0 : Int) (a0_1 : Int) (l0_2 : List (S73)) (l0_3 : List (S50)) (l1 : List (S73)) : Option (Bool) := (impl_isTermOf.f k a0_0 a0_1 l1 2).bind fun t352 => (some t352)
theorem impl_Program_isCondition.mono : ∀ a0 a1 a2 a3 a4 k, LeO (impl_Program_isCondition.f k a0 a1 a2 a3 a4) (impl_Program_isCondition.f (k + 1) a0 a1 a2 a3 a4) := by
 intro a0 a1 a2 a3 a4 k
 unfold impl_Program_isCondition.f
 repeat' with_reducible first | apply impl_isTermOf.mono | exact LeO.refl _ | exact LeO.none _ | apply LeO.ite | refine LeO.bind ?_ fun _ => ?_
theorem impl_Program_isCondition.calls (k : Nat) (a0_0 : Int) (a0_1 : Int) (A0_2 : Option Addr) (c0_2 : Nat) (l0_2 : List (S73)) (A0_3 : Option Addr) (c0_3 : Nat) (l0_3 : List (S50)) (A1 : Option Addr) (c1 : Nat) (l1 : List (S73)) (r : Bool) (w : World) (hr0_2 : Kd.C k73 w A0_2 l0_2.length l0_2) (hc0_2 : l0_2.length ≤ c0_2) (hr0_3 : Kd.C k50 w A0_3 l0_3.length l0_3) (hc0_3 : l0_3.length ≤ c0_3) (hr1 : Kd.C k73 w A1 l1.length l1) (hc1 : l1.length ≤ c1) (h : impl_Program_isCondition.f k a0_0 a0_1 l0_2 l0_3 l1 = some r) :
  Calls Try.prog 45 #[.agg #[.int .i64 a0_0, .int .i64 a0_1, .slice A0_2 l0_2.length c0_2, .slice A0_3 l0_3.length c0_3], .slice A1 l1.length c1] w fun e w' => e = .returned (.bool r) ∧ Below w.heap.size w w' := by
 have hu33 := Try.underlying33
 have HR0_2 := am_ hr0_2
 have HC0_2 := am_ hc0_2
 clear hr0_2 hc0_2
 have HR0_3 := am_ hr0_3
 have HC0_3 := am_ hc0_3
 clear hr0_3 hc0_3
 have HR1 := am_ hr1
 have HC1 := am_ hc1
 clear hr1 hc1
 have HB := am_ (Below.refl w.heap.size w)
 have H := h
 clear h
 unfold impl_Program_isCondition.f at H
 obtain ⟨t352, A3, H⟩ := Sh.ba H
 obtain rfl := Option.some.inj H
 go_enter Try.func45, Try.ntmps45
 go_wp2_with (first | ((with_reducible refine Sh.d 2 ?_); refine Sh.bz w (N := 2) (cs := #[.int .i64 a0_0, .int .i64 a0_1, .slice A0_2 l0_2.length c0_2, .slice A0_3 l0_3.length c0_3]) (t := 33) (h := ?_); clear HB; intro gb351 w4 BK351 GE351 HB; obtain ⟨hcz5_0, hcz5_1, hcz5_2, hcz5_3, hfz5_0, hfz5_1, hfz5_2, hfz5_3⟩ := Sh.b4 BK351.out) | ((with_reducible refine Sh.k 60 ?_); refine Sh.gB (some 10) Try.func60 #[.int .i64 a0_0, .int .i64 a0_1, .slice A1 l1.length c1, .int .i64 2] (impl_isTermOf.calls k a0_0 a0_1 _ _ l1 2 t352 _ (Sh.cB HR1.out) HC1.out A3.out) fun w6 hb => ?_; replace BK351 := Sh.ab BK351 hb; replace HB := Sh.hb hb; (try clear hb); (try clear hb2); (try clear hk); (try clear hi)))
 go_ret
 exact ⟨Sh.eR, Sh.bw⟩
theorem impl_Command_61.gen (g : Nat) (lb : Array Value) (eg : ∀ args w, (callFunc g args).run Try.prog w = .ok (.enter g args) w) (q : S50 → Option Bool) (A0 : Option Addr) (c0 : Nat) (l0 : List (S50)) (r : Int) (w : World) (hr0 : Kd.C k50 w A0 l0.length l0) (hc0 : l0.length ≤ c0)
  (hp : ∀ (W : World) (x : S50) (b : Bool) (A0 : Option Addr) (c0 : Nat) (A1 : Option Addr) (c1 : Nat), Below w.heap.size w W → x ∈ l0 → q x = some b → x.f0.length ≤ c0 → Kd.C k73 W A0 x.f0.length x.f0 → x.f1.length ≤ c1 → Kd.C k52 W A1 x.f1.length x.f1 → Calls Try.prog g (#[.agg #[.slice A0 x.f0.length c0, .slice A1 x.f1.length c1]] ++ lb) W fun e w' => e = .returned (.bool b) ∧ Below W.heap.size W w')
  (h : idxO q l0 0 = some r) : Calls Try.prog 61 #[.slice A0 l0.length c0, .func (.func g) #[] lb] w fun e w' => e = .returned (.int .i64 r) ∧ Below w.heap.size w w' := by
 have HR := am_ hr0
 have HP := am_ hp
 have HH := am_ h
 have hn : l0.length ≤ 9223372036854775807 := hr0.2.1
 clear hr0 hp h
 go_enter Try.func61, Try.ntmps61
 go_wp2
 go_loopg [5, 8] l0.length (fun gg _ s8 wr => ∃ kk : Nat, kk ≤ l0.length ∧ l0.length - kk ≤ gg ∧ s8 = .int .i64 kk ∧ Aside0 (idxO q (l0.drop kk) kk = some r) ∧ Aside0 (Below w.heap.size w wr))
 case atStart => exact ⟨0, Nat.zero_le _, by omega, rfl, HH, ⟨Below.refl _ _⟩⟩
 case round =>
  obtain ⟨kk, hkk, hg, rfl, HA, HB⟩ := hrel
  clear HH
  by_cases hlt : kk < l0.length
  ·have hltz : (kk : Int) < (l0.length : Int) := by omega
   have h0z : 0 ≤ (kk : Int) := by omega
   obtain ⟨ad, A0, c0, A1, c1, e, hx0, hx1, la0, ga0, la1, ga1⟩ := at_T50 HR.out (kk : Int) h0z hltz
   have er : rd_T50 l0 (kk : Int) = l0.getD kk z50 := by simp [rd_T50]
   rw [er] at hx0 hx1 la0 ga0 la1 ga1
   have hA := HA.out
   rw [drop_getD hlt z50] at hA
   obtain ⟨b, hb, hA2⟩ := Option.bind_eq_some_iff.mp hA
   have HA2 := am_ hA2
   have hin := getD_in hlt (z50 : S50)
   have hcall := HP.out wr _ b A0 c0 A1 c1 HB.out hin hb la0 (Kd.C_below ga0 HB.out) la1 (Kd.C_below ga1 HB.out)
   generalize l0.getD kk z50 = y at hx0 hx1 la0 ga0 la1 ga1 hcall
   clear HA hA hA2 hb er hin
   clear la0 ga0 la1 ga1
   cases e
   simp only [Int.toNat_natCast] at hx0 hx1
   try replace hx0 := Sh.cw hx0
   try replace hx1 := Sh.cw hx1
   cases b with
   | true =>
    go_wp2_with (go_at_fn g; refine hcall.mono ?_; rintro e w' ⟨rfl, hb2⟩)
    go_ret
    have h3 := HA2.out
    simp only [if_true] at h3
    exact ⟨by rw [← Option.some.inj h3]; rfl, below_step HB.out hb2⟩
   | false =>
    go_wp2_with (go_at_fn g; refine hcall.mono ?_; rintro e w' ⟨rfl, hb2⟩)
    go_roundg (l0.length - (kk + 1))
    case measure => omega
    case rel =>
     refine ⟨kk + 1, by omega, by omega, by go_num, ⟨by have h3 := HA2.out; simpa using h3⟩, ⟨below_step HB.out hb2⟩⟩
  ·have hltz : ¬ (kk : Int) < (l0.length : Int) := by omega
   have hA := HA.out
   rw [List.drop_of_length_le (by omega)] at hA
   have h4 : (-1 : Int) = r := Option.some.inj hA
   subst h4
   clear HA hA
   have : kk = l0.length := by omega
   subst this
   go_wp2
   go_ret
   exact ⟨rfl, HB.out⟩
theorem impl_Command_46.gen (g : Nat) (lb : Array Value) (eg : ∀ args w, (callFunc g args).run Try.prog w = .ok (.enter g args) w) (q : S50 → Option Bool) (A0 : Option Addr) (c0 : Nat) (l0 : List (S50)) (r : Bool) (w : World) (hr0 : Kd.C k50 w A0 l0.length l0) (hc0 : l0.length ≤ c0)
  (hp : ∀ (W : World) (x : S50) (b : Bool) (A0 : Option Addr) (c0 : Nat) (A1 : Option Addr) (c1 : Nat), Below w.heap.size w W → x ∈ l0 → q x = some b → x.f0.length ≤ c0 → Kd.C k73 W A0 x.f0.length x.f0 → x.f1.length ≤ c1 → Kd.C k52 W A1 x.f1.length x.f1 → Calls Try.prog g (#[.agg #[.slice A0 x.f0.length c0, .slice A1 x.f1.length c1]] ++ lb) W fun e w' => e = .returned (.bool b) ∧ Below W.heap.size W w')
  (h : anyO q l0 = some r) : Calls Try.prog 46 #[.slice A0 l0.length c0, .func (.func g) #[] lb] w fun e w' => e = .returned (.bool r) ∧ Below w.heap.size w w' := by
 obtain ⟨i, hi, hd⟩ := idxO_of_anyO l0 r 0 (Int.le_refl 0) h
 have HC := am_ (impl_Command_61.gen g lb eg q A0 c0 l0 i w hr0 hc0 hp hi)
 have HD := am_ hd
 clear hr0 hp h hi hd
 go_enter Try.func46, Try.ntmps46
 go_wp2_with (go_at_call 61; refine HC.out.mono ?_; rintro e w' ⟨rfl, hb2⟩)
 go_ret
 exact ⟨by rw [← HD.out]; rfl, hb2⟩
def impl_Program_isCommand.l0 : Nat → List (S52) → Int → Int → Int → Int → List (S73) → List (S50) → List (S73) → List (S52) → Option (Bool)
 | 0, _, _, _, _, _, _, _, _, _ => none
 | k + 1, x13, x14, x15, x354000, x354001, x354002, x354003, x355000, x355001 => if x15 < x14 then (if 0 ≤ x15 then (if x15 < (x13.length : Int) then (if ((rd_T52 x13 x15).f0) < 0 then (some false) else (if ((rd_T52 x13 x15).f0) ≥ x354001 then (some false) else (if x15 > 0 then (if 0 ≤ (wrap64 (x15 - 1)) then (if (wrap64 (x15 - 1)) < (x355001.length : Int) then (if ((rd_T52 x355001 (wrap64 (x15 - 1))).f0) ≥ ((rd_T52 x13 x15).f0) then (some false) else ((impl_isTermOf.f k x354000 x354001 ((rd_T52 x13 x15).f1) 1).bind fun t359 => (if t359 = true then (impl_Program_isCommand.l0 k x13 x14 (wrap64 (x15 + 1)) x354000 x354001 x354002 x354003 x355000 x355001) else (some false)))) else (none)) else (none)) else ((impl_isTermOf.f k x354000 x354001 ((rd_T52 x13 x15).f1) 1).bind fun t360 => (if t360 = true then (impl_Program_isCommand.l0 k x13 x14 (wrap64 (x15 + 1)) x354000 x354001 x354002 x354003 x355000 x355001) else (some false)))))) else (none)) else (none)) else (some true)
def impl_Program_isCommand.f (k : Nat) (a0_0 : Int) (a0_1 : Int) (l0_2 : List (S73)) (l0_3 : List (S50)) (l1_0 : List (S73)) (l1_1 : List (S52)) : Option (Bool) := (impl_Program_isCondition.f k a0_0 a0_1 l0_2 l0_3 l1_0).bind fun t355 => (if t355 = true then (impl_Program_isCommand.l0 k l1_1 (l1_1.length : Int) 0 a0_0 a0_1 l0_2 l0_3 l1_0 l1_1) else (some false))
theorem impl_Program_isCommand.mono_l : ∀ k, (∀ y0 y1 y2 y3 y4 y5 y6 y7 y8, LeO (impl_Program_isCommand.l0 k y0 y1 y2 y3 y4 y5 y6 y7 y8) (impl_Program_isCommand.l0 (k + 1) y0 y1 y2 y3 y4 y5 y6 y7 y8))
 | 0 => fun _ _ _ _ _ _ _ _ _ r h => by simp [impl_Program_isCommand.l0] at h
 | k + 1 => by
  have ih0 := impl_Program_isCommand.mono_l k
  ·intro y0 y1 y2 y3 y4 y5 y6 y7 y8
   unfold impl_Program_isCommand.l0
   repeat' with_reducible first | apply ih0 | apply impl_Program_isCondition.mono | apply impl_isTermOf.mono | exact LeO.refl _ | exact LeO.none _ | apply LeO.ite | refine LeO.bind ?_ fun _ => ?_
theorem impl_Program_isCommand.mono : ∀ a0 a1 a2 a3 a4 a5 k, LeO (impl_Program_isCommand.f k a0 a1 a2 a3 a4 a5) (impl_Program_isCommand.f (k + 1) a0 a1 a2 a3 a4 a5) := by
 intro a0 a1 a2 a3 a4 a5 k
 have ih0 := impl_Program_isCommand.mono_l k
 unfold impl_Program_isCommand.f
 repeat' with_reducible first | apply ih0 | apply impl_Program_isCondition.mono | apply impl_isTermOf.mono | exact LeO.refl _ | exact LeO.none _ | apply LeO.ite | refine LeO.bind ?_ fun _ => ?_
def impl_Program_isCommand.T6 : Bool × List (List Nat × List Nat) := (true, [([], []), ([0], [0]), ([1], [1]), ([2], [2]), ([3], [3]), ([4, 3], [3, 4]), ([3], [3]), ([6, 3], [3, 6]), ([5, 7, 3], [3, 5, 7]), ([3, 8], [3, 8]), ([9, 3], [9]), ([10], [10]), ([11, 10], [10, 11]), ([12, 10, 10], [10, 12]), ([13], [13]), ([14, 13], [13, 14]), ([13], [13]), ([16, 13], [13, 16]), ([15, 17, 13], [13, 15, 17]), ([18, 13], [13, 18]), ([19, 13], [13, 19]), ([13], [13]), ([21, 13], [13, 21]), ([20, 22, 13], [13, 20, 22]), ([13, 23, 10], [10, 13, 23]), ([10, 24], [10, 24]), ([25, 13], [25]), ([26], [26]), ([27, 26], [26, 27]), ([26], [26]), ([29, 26], [26, 29]), ([26], [26]), ([31, 26], [26, 31]), ([28, 30, 32, 26, 26], [26, 28, 30, 32]), ([33, 26], [26, 33]), ([26, 34], [26, 34])])
def impl_Program_isCommand.B6 : List Nat := [0, 1, 3, 7, 15, 31, 15, 79, 255, 511, 1023, 2047, 4095, 8191, 16383, 32767, 16383, 81919, 262143, 524287, 1048575, 16383, 2113535, 8388607, 16777215, 33554431, 67108863, 134217727, 268435455, 134217727, 671088639, 134217727, 2281701375, 8589934591, 17179869183, 34359738367]
theorem impl_Program_isCommand.tab6 : rtab .any (opsOf Try.f48 6) = impl_Program_isCommand.T6 := by kernel_rfl
theorem impl_Program_isCommand.bits6 : waitsOk impl_Program_isCommand.T6.2 impl_Program_isCommand.B6 = true := by kernel_rfl
theorem impl_Program_isCommand.calls (k : Nat) (a0_0 : Int) (a0_1 : Int) (A0_2 : Option Addr) (c0_2 : Nat) (l0_2 : List (S73)) (A0_3 : Option Addr) (c0_3 : Nat) (l0_3 : List (S50)) (A1_0 : Option Addr) (c1_0 : Nat) (l1_0 : List (S73)) (A1_1 : Option Addr) (c1_1 : Nat) (l1_1 : List (S52)) (r : Bool) (w : World) (hr0_2 : Kd.C k73 w A0_2 l0_2.length l0_2) (hc0_2 : l0_2.length ≤ c0_2) (hr0_3 : Kd.C k50 w A0_3 l0_3.length l0_3) (hc0_3 : l0_3.length ≤ c0_3) (hr1_0 : Kd.C k73 w A1_0 l1_0.length l1_0) (hc1_0 : l1_0.length ≤ c1_0) (hr1_1 : Kd.C k52 w A1_1 l1_1.length l1_1) (hc1_1 : l1_1.length ≤ c1_1) (h : impl_Program_isCommand.f k a0_0 a0_1 l0_2 l0_3 l1_0 l1_1 = some r) :
  Calls Try.prog 48 #[.agg #[.int .i64 a0_0, .int .i64 a0_1, .slice A0_2 l0_2.length c0_2, .slice A0_3 l0_3.length c0_3], .agg #[.slice A1_0 l1_0.length c1_0, .slice A1_1 l1_1.length c1_1]] w fun e w' => e = .returned (.bool r) ∧ Below w.heap.size w w' := by
 have hu33 := Try.underlying33
 have hu50 := Try.underlying50
 have hu52 := Try.underlying52
 have HR0_2 := am_ hr0_2
 have HC0_2 := am_ hc0_2
 clear hr0_2 hc0_2
 have HR0_3 := am_ hr0_3
 have HC0_3 := am_ hc0_3
 clear hr0_3 hc0_3
 have HR1_0 := am_ hr1_0
 have HC1_0 := am_ hc1_0
 clear hr1_0 hc1_0
 have HR1_1 := am_ hr1_1
 have HC1_1 := am_ hc1_1
 clear hr1_1 hc1_1
 have HB := am_ (Below.refl w.heap.size w)
 have H := h
 clear h
 unfold impl_Program_isCommand.f at H
 obtain ⟨t355, A3, H⟩ := Sh.ba H
 by_cases c4 : t355 = true
 ·subst c4
  rw [if_pos rfl] at H
  have H' := am_ H
  clear H
  go_enter Try.func48, Try.ntmps48
  go_wp2_with (first | ((with_reducible refine Sh.d 2 ?_); refine Sh.bz w (N := 2) (cs := #[.int .i64 a0_0, .int .i64 a0_1, .slice A0_2 l0_2.length c0_2, .slice A0_3 l0_3.length c0_3]) (t := 33) (h := ?_); clear HB; intro gb353 w5 BK353 GE353 HB) | ((with_reducible refine Sh.d 3 ?_); refine Sh.bx (N := 3) (cs := #[.slice A1_0 l1_0.length c1_0, .slice A1_1 l1_1.length c1_1]) (t := 50) (h := ?_); intro gb354 hg w6 hbox hb; have BK354 := am_ hbox; have GE354 := Sh.ag w hg; replace HB := Sh.hb hb; have NB353_354 := am_ (Sh.nl hg BK353.out); have NB354_353 := am_ (Sh.ng hg BK353.out); replace BK353 := Sh.ab BK353 hb; clear hb hbox hg; have hnb7 := NB353_354.out; have hnc7 := NB354_353.out; obtain ⟨hcz8_0, hcz8_1, hcz8_2, hcz8_3, hfz8_0, hfz8_1, hfz8_2, hfz8_3⟩ := Sh.b4 BK353.out; obtain ⟨hcz9_0, hcz9_1, hfz9_0, hfz9_1⟩ := Sh.b2 BK354.out) | ((with_reducible refine Sh.k 45 ?_); refine Sh.gB (some 10) Try.func45 #[.agg #[.int .i64 a0_0, .int .i64 a0_1, .slice A0_2 l0_2.length c0_2, .slice A0_3 l0_3.length c0_3], .slice A1_0 l1_0.length c1_0] (impl_Program_isCondition.calls k a0_0 a0_1 _ _ l0_2 _ _ l0_3 _ _ l1_0 true _ (Sh.cB HR0_2.out) HC0_2.out (Sh.cB HR0_3.out) HC0_3.out (Sh.cB HR1_0.out) HC1_0.out A3.out) fun w10 hb => ?_; replace BK353 := Sh.ab BK353 hb; replace BK354 := Sh.ab BK354 hb; replace HB := Sh.hb hb; (try clear hb); (try clear hb2); (try clear hk); (try clear hi); obtain ⟨hcz11_0, hcz11_1, hfz11_0, hfz11_1⟩ := Sh.b2 BK354.out))
  go_loopg [15] k (fun kq v15 w' => ∃ (x15_1 : Int), v15 = .int .i64 x15_1 ∧ Aside0 (impl_Program_isCommand.l0 kq l1_1 (l1_1.length : Int) x15_1 a0_0 a0_1 l0_2 l0_3 l1_0 l1_1 = some r) ∧ Aside0 (kq ≤ k) ∧ Aside0 (w'.heap[gb353]? = some (.cells #[.int .i64 a0_0, .int .i64 a0_1, (.slice A0_2 l0_2.length c0_2), (.slice A0_3 l0_3.length c0_3)] 33 (0, 0))) ∧ Aside0 (w'.heap[gb354]? = some (.cells #[(.slice A1_0 l1_0.length c1_0), (.slice A1_1 l1_1.length c1_1)] 50 (0, 0))) ∧ Aside0 (Below w.heap.size w w'))
  case atStart => exact ⟨(0), (Sh.es), H', ⟨Nat.le_refl _⟩, ⟨by refine Sh.pl ?_; exact BK353.out⟩, ⟨by refine Sh.pl ?_; exact BK354.out⟩, ⟨Sh.bw⟩⟩
  case round =>
   clear H'
   try clear hcz11_0
   try clear hcz11_1
   try clear hcz8_0
   try clear hcz8_1
   try clear hcz8_2
   try clear hcz8_3
   try clear hcz9_0
   try clear hcz9_1
   try clear hfz11_0
   try clear hfz11_1
   try clear hfz8_0
   try clear hfz8_1
   try clear hfz8_2
   try clear hfz8_3
   try clear hfz9_0
   try clear hfz9_1
   obtain ⟨x15_1, rfl, HA, HK1, BK353, BK354, HB⟩ := hrel
   cases gk with
   | zero => exact absurd HA.out (by simp [impl_Program_isCommand.l0])
   | succ k1 =>
    have H := HA.out
    clear HA
    simp only [impl_Program_isCommand.l0] at H
    by_cases c12 : x15_1 < (l1_1.length : Int)
    ·rw [if_pos c12] at H
     have c12b0 := decide_eq_true c12
     clear c12
     by_cases c13 : 0 ≤ x15_1
     ·rw [if_pos c13] at H
      have c13b0 := decide_eq_true c13
      clear c13
      by_cases c14 : x15_1 < (l1_1.length : Int)
      ·rw [if_pos c14] at H
       have c14b0 := decide_eq_true c14
       clear c14
       by_cases c15 : ((rd_T52 l1_1 x15_1).f0) < 0
       ·rw [if_pos c15] at H
        have c15b0 := decide_eq_true c15
        clear c15
        obtain rfl := Option.some.inj H
        have p356 : 0 ≤ (x15_1 : Int) := Sh.od
        have q356 : x15_1 < (l1_1.length : Int) := Sh.od
        obtain ⟨ad356, A356_1, c356_1, e356, hx356_0, hx356_1, hl356_1, hi356_1⟩ := at_T52 HR1_1.out x15_1 p356 q356
        cases e356
        try replace hx356_0 := Sh.cw hx356_0
        try replace hx356_1 := Sh.cw hx356_1
        have HR356_1 := am_ hi356_1
        have HC356_1 := am_ hl356_1
        clear hi356_1 hl356_1
        replace p356 := eq_true p356
        replace q356 := eq_true q356
        try go_wp2_with (first | ((with_reducible refine Sh.d 6 ?_); refine Sh.bx (N := 6) (cs := #[.int .i64 0, .slice none 0 0]) (t := 52) (h := ?_); intro gb357 hg w16 hbox hb; have BK357 := am_ hbox; have GE357 := Sh.ag w hg; replace HB := Sh.hb hb; have NB353_357 := am_ (Sh.nl hg BK353.out); have NB357_353 := am_ (Sh.ng hg BK353.out); replace BK353 := Sh.ab BK353 hb; have NB354_357 := am_ (Sh.nl hg BK354.out); have NB357_354 := am_ (Sh.ng hg BK354.out); replace BK354 := Sh.ab BK354 hb; clear hb hbox hg; have hnb17 := NB357_353.out; have hnc17 := NB353_357.out; have hnb18 := NB357_354.out; have hnc18 := NB354_357.out; obtain ⟨hcz19_0, hcz19_1, hfz19_0, hfz19_1⟩ := Sh.b2 BK357.out))
        have n0_ : Aside0 (((w16.setCell ⟨gb357, 0, none⟩ (.int .i64 ((rd_T52 l1_1 x15_1).f0))).setCell ⟨gb357, 1, none⟩ (.slice A356_1 ((rd_T52 l1_1 x15_1).f1).length c356_1)).heap[gb353]? = some (.cells #[.int .i64 a0_0, .int .i64 a0_1, .slice A0_2 l0_2.length c0_2, .slice A0_3 l0_3.length c0_3] 33 (0, 0))) := ⟨by refine Sh.pl ?_; refine blk_far ?_ NB353_357.out _; refine Sh.pl ?_; refine blk_far ?_ NB353_357.out _; refine Sh.pl ?_; exact BK353.out⟩
        have n1_ : Aside0 (((w16.setCell ⟨gb357, 0, none⟩ (.int .i64 ((rd_T52 l1_1 x15_1).f0))).setCell ⟨gb357, 1, none⟩ (.slice A356_1 ((rd_T52 l1_1 x15_1).f1).length c356_1)).heap[gb354]? = some (.cells #[.slice A1_0 l1_0.length c1_0, .slice (some ad356) l1_1.length c1_1] 50 (0, 0))) := ⟨by refine Sh.pl ?_; refine blk_far ?_ NB354_357.out _; refine Sh.pl ?_; refine blk_far ?_ NB354_357.out _; refine Sh.pl ?_; exact BK354.out⟩
        have n2_ : Aside0 (((w16.setCell ⟨gb357, 0, none⟩ (.int .i64 ((rd_T52 l1_1 x15_1).f0))).setCell ⟨gb357, 1, none⟩ (.slice A356_1 ((rd_T52 l1_1 x15_1).f1).length c356_1)).heap[gb357]? = some (.cells #[.int .i64 ((rd_T52 l1_1 x15_1).f0), .slice A356_1 ((rd_T52 l1_1 x15_1).f1).length c356_1] 52 (0, 0))) := ⟨by refine Sh.pl ?_; refine blk_put (cs := #[.int .i64 ((rd_T52 l1_1 x15_1).f0), .slice none 0 0]) ?_ 1 _ rfl; refine Sh.pl ?_; refine blk_put (cs := #[.int .i64 0, .slice none 0 0]) ?_ 0 _ rfl; refine Sh.pl ?_; exact BK357.out⟩
        have n3_ : Aside0 (Below w.heap.size w ((w16.setCell ⟨gb357, 0, none⟩ (.int .i64 ((rd_T52 l1_1 x15_1).f0))).setCell ⟨gb357, 1, none⟩ (.slice A356_1 ((rd_T52 l1_1 x15_1).f1).length c356_1))) := ⟨Sh.bw⟩
        (try clear BK353)
        (try clear BK354)
        (try clear BK357)
        (try clear HB)
        generalize ((w16.setCell ⟨gb357, 0, none⟩ (.int .i64 ((rd_T52 l1_1 x15_1).f0))).setCell ⟨gb357, 1, none⟩ (.slice A356_1 ((rd_T52 l1_1 x15_1).f1).length c356_1)) = w20 at n0_ n1_ n2_ n3_ ⊢
        have BK353 := n0_
        have BK354 := n1_
        have BK357 := n2_
        have HB := n3_
        clear n0_ n1_ n2_ n3_
        replace BK353 := am_ (blk_drew BK353.out)
        replace BK354 := am_ (blk_drew BK354.out)
        replace BK357 := am_ (blk_drew BK357.out)
        replace HB := am_ (below_drew1 HB.out)
        refine start_ (n := 36) (S := fun w' => w'.cell? ⟨gb357, 0, none⟩ = some (.int .i64 ((rd_T52 l1_1 x15_1).f0)) ∧ w'.cell? ⟨gb357, 1, none⟩ = some (.slice A356_1 ((rd_T52 l1_1 x15_1).f1).length c356_1)) (ds := []) (Sh.nm 36 0) (by kernel_rfl) rfl rfl Sh.cs (fun hHeld => ?_); refine with_tabW impl_Program_isCommand.tab6 impl_Program_isCommand.bits6 (fun HT_ HW_ => ?_)
        generalize w20.drew = w21 at BK353 BK354 BK357 HB hHeld ⊢
        refine Sh.qA 0 ?_; refine Sh.qT 1 hHeld ?_; refine Sh.qA 2 ?_; refine Sh.qA 3 ?_; refine Sh.qU 4 ?_; refine Sh.qU 5 ?_; refine Sh.qU 6 ?_; refine Sh.qU 7 ?_; refine Sh.qU 8 ?_; refine Sh.qA 9 ?_; refine Sh.qA 10 ?_; refine Sh.qU 11 ?_; refine Sh.qU 12 ?_; refine Sh.qU 13 ?_; refine Sh.qU 14 ?_; refine Sh.qU 15 ?_; refine Sh.qU 16 ?_; refine Sh.qU 17 ?_; refine Sh.qU 18 ?_; refine Sh.qU 19 ?_; refine Sh.qU 20 ?_; refine Sh.qU 21 ?_; refine Sh.qU 22 ?_; refine Sh.qU 23 ?_; refine Sh.qU 24 ?_; refine Sh.qA 25 ?_; refine Sh.qA 26 ?_; refine Sh.qU 27 ?_; refine Sh.qU 28 ?_; refine Sh.qU 29 ?_; refine Sh.qU 30 ?_; refine Sh.qU 31 ?_; refine Sh.qU 32 ?_; refine Sh.qU 33 ?_; refine Sh.qU 34 ?_; refine Sh.qA 35 ?_
        refine done_ (done_of HT_.out (by kernel_rfl)) ?_
        try go_wp2
        go_ret
        exact ⟨Sh.eR, Sh.bw⟩
       ·rw [if_neg c15] at H
        have c15b0 := decide_eq_false c15
        clear c15
        by_cases c22 : ((rd_T52 l1_1 x15_1).f0) ≥ a0_1
        ·rw [if_pos c22] at H
         have c22b0 : decide (a0_1 ≤ ((rd_T52 l1_1 x15_1).f0)) = true := decide_eq_true c22
         clear c22
         obtain rfl := Option.some.inj H
         have p356 : 0 ≤ (x15_1 : Int) := Sh.od
         have q356 : x15_1 < (l1_1.length : Int) := Sh.od
         obtain ⟨ad356, A356_1, c356_1, e356, hx356_0, hx356_1, hl356_1, hi356_1⟩ := at_T52 HR1_1.out x15_1 p356 q356
         cases e356
         try replace hx356_0 := Sh.cw hx356_0
         try replace hx356_1 := Sh.cw hx356_1
         have HR356_1 := am_ hi356_1
         have HC356_1 := am_ hl356_1
         clear hi356_1 hl356_1
         replace p356 := eq_true p356
         replace q356 := eq_true q356
         try go_wp2_with (first | ((with_reducible refine Sh.d 6 ?_); refine Sh.bx (N := 6) (cs := #[.int .i64 0, .slice none 0 0]) (t := 52) (h := ?_); intro gb357 hg w23 hbox hb; have BK357 := am_ hbox; have GE357 := Sh.ag w hg; replace HB := Sh.hb hb; have NB353_357 := am_ (Sh.nl hg BK353.out); have NB357_353 := am_ (Sh.ng hg BK353.out); replace BK353 := Sh.ab BK353 hb; have NB354_357 := am_ (Sh.nl hg BK354.out); have NB357_354 := am_ (Sh.ng hg BK354.out); replace BK354 := Sh.ab BK354 hb; clear hb hbox hg; have hnb24 := NB357_353.out; have hnc24 := NB353_357.out; have hnb25 := NB357_354.out; have hnc25 := NB354_357.out; obtain ⟨hcz26_0, hcz26_1, hfz26_0, hfz26_1⟩ := Sh.b2 BK357.out))
         have n0_ : Aside0 (((w23.setCell ⟨gb357, 0, none⟩ (.int .i64 ((rd_T52 l1_1 x15_1).f0))).setCell ⟨gb357, 1, none⟩ (.slice A356_1 ((rd_T52 l1_1 x15_1).f1).length c356_1)).heap[gb353]? = some (.cells #[.int .i64 a0_0, .int .i64 a0_1, .slice A0_2 l0_2.length c0_2, .slice A0_3 l0_3.length c0_3] 33 (0, 0))) := ⟨by refine Sh.pl ?_; refine blk_far ?_ NB353_357.out _; refine Sh.pl ?_; refine blk_far ?_ NB353_357.out _; refine Sh.pl ?_; exact BK353.out⟩
         have n1_ : Aside0 (((w23.setCell ⟨gb357, 0, none⟩ (.int .i64 ((rd_T52 l1_1 x15_1).f0))).setCell ⟨gb357, 1, none⟩ (.slice A356_1 ((rd_T52 l1_1 x15_1).f1).length c356_1)).heap[gb354]? = some (.cells #[.slice A1_0 l1_0.length c1_0, .slice (some ad356) l1_1.length c1_1] 50 (0, 0))) := ⟨by refine Sh.pl ?_; refine blk_far ?_ NB354_357.out _; refine Sh.pl ?_; refine blk_far ?_ NB354_357.out _; refine Sh.pl ?_; exact BK354.out⟩
         have n2_ : Aside0 (((w23.setCell ⟨gb357, 0, none⟩ (.int .i64 ((rd_T52 l1_1 x15_1).f0))).setCell ⟨gb357, 1, none⟩ (.slice A356_1 ((rd_T52 l1_1 x15_1).f1).length c356_1)).heap[gb357]? = some (.cells #[.int .i64 ((rd_T52 l1_1 x15_1).f0), .slice A356_1 ((rd_T52 l1_1 x15_1).f1).length c356_1] 52 (0, 0))) := ⟨by refine Sh.pl ?_; refine blk_put (cs := #[.int .i64 ((rd_T52 l1_1 x15_1).f0), .slice none 0 0]) ?_ 1 _ rfl; refine Sh.pl ?_; refine blk_put (cs := #[.int .i64 0, .slice none 0 0]) ?_ 0 _ rfl; refine Sh.pl ?_; exact BK357.out⟩
         have n3_ : Aside0 (Below w.heap.size w ((w23.setCell ⟨gb357, 0, none⟩ (.int .i64 ((rd_T52 l1_1 x15_1).f0))).setCell ⟨gb357, 1, none⟩ (.slice A356_1 ((rd_T52 l1_1 x15_1).f1).length c356_1))) := ⟨Sh.bw⟩
         (try clear BK353)
         (try clear BK354)
         (try clear BK357)
         (try clear HB)
         generalize ((w23.setCell ⟨gb357, 0, none⟩ (.int .i64 ((rd_T52 l1_1 x15_1).f0))).setCell ⟨gb357, 1, none⟩ (.slice A356_1 ((rd_T52 l1_1 x15_1).f1).length c356_1)) = w27 at n0_ n1_ n2_ n3_ ⊢
         have BK353 := n0_
         have BK354 := n1_
         have BK357 := n2_
         have HB := n3_
         clear n0_ n1_ n2_ n3_
         replace BK353 := am_ (blk_drew BK353.out)
         replace BK354 := am_ (blk_drew BK354.out)
         replace BK357 := am_ (blk_drew BK357.out)
         replace HB := am_ (below_drew1 HB.out)
         refine start_ (n := 36) (S := fun w' => w'.cell? ⟨gb357, 0, none⟩ = some (.int .i64 ((rd_T52 l1_1 x15_1).f0)) ∧ w'.cell? ⟨gb357, 1, none⟩ = some (.slice A356_1 ((rd_T52 l1_1 x15_1).f1).length c356_1) ∧ w'.cell? ⟨gb353, 0, none⟩ = some (.int .i64 a0_0) ∧ w'.cell? ⟨gb353, 1, none⟩ = some (.int .i64 a0_1) ∧ w'.cell? ⟨gb353, 2, none⟩ = some (.slice A0_2 l0_2.length c0_2) ∧ w'.cell? ⟨gb353, 3, none⟩ = some (.slice A0_3 l0_3.length c0_3)) (ds := []) (Sh.nm 36 0) (by kernel_rfl) rfl rfl Sh.cs (fun hHeld => ?_); refine with_tabW impl_Program_isCommand.tab6 impl_Program_isCommand.bits6 (fun HT_ HW_ => ?_)
         generalize w27.drew = w28 at BK353 BK354 BK357 HB hHeld ⊢
         refine Sh.qA 0 ?_; refine Sh.qT 1 hHeld ?_; refine Sh.qA 2 ?_; refine Sh.qA 3 ?_; refine Sh.qA 4 ?_; refine Sh.qA 6 ?_; refine Sh.qT 5 hHeld ?_; refine Sh.qT 7 hHeld ?_; refine Sh.qA 8 ?_; refine Sh.qA 9 ?_; refine Sh.qA 10 ?_; refine Sh.qU 11 ?_; refine Sh.qU 12 ?_; refine Sh.qU 13 ?_; refine Sh.qU 14 ?_; refine Sh.qU 15 ?_; refine Sh.qU 16 ?_; refine Sh.qU 17 ?_; refine Sh.qU 18 ?_; refine Sh.qU 19 ?_; refine Sh.qU 20 ?_; refine Sh.qU 21 ?_; refine Sh.qU 22 ?_; refine Sh.qU 23 ?_; refine Sh.qU 24 ?_; refine Sh.qA 25 ?_; refine Sh.qA 26 ?_; refine Sh.qU 27 ?_; refine Sh.qU 28 ?_; refine Sh.qU 29 ?_; refine Sh.qU 30 ?_; refine Sh.qU 31 ?_; refine Sh.qU 32 ?_; refine Sh.qU 33 ?_; refine Sh.qU 34 ?_; refine Sh.qA 35 ?_
         refine done_ (done_of HT_.out (by kernel_rfl)) ?_
         try go_wp2
         go_ret
         exact ⟨Sh.eR, Sh.bw⟩
        ·rw [if_neg c22] at H
         have c22b0 : decide (a0_1 ≤ ((rd_T52 l1_1 x15_1).f0)) = false := decide_eq_false c22
         clear c22
         by_cases c29 : x15_1 > 0
         ·rw [if_pos c29] at H
          have c29b0 : decide (0 < x15_1) = true := decide_eq_true c29
          clear c29
          obtain ⟨ji30, hj1⟩ : ∃ j_ : Int, (wrap64 (x15_1 - 1)) = j_ := ⟨_, rfl⟩
          replace H : (if 0 ≤ (ji30) then (if (ji30) < (l1_1.length : Int) then (if ((rd_T52 l1_1 (ji30)).f0) ≥ ((rd_T52 l1_1 x15_1).f0) then (some false) else ((impl_isTermOf.f k1 a0_0 a0_1 ((rd_T52 l1_1 x15_1).f1) 1).bind fun t359 => (if t359 = true then (impl_Program_isCommand.l0 k1 l1_1 (l1_1.length : Int) (wrap64 (x15_1 + 1)) a0_0 a0_1 l0_2 l0_3 l1_0 l1_1) else (some false)))) else (none)) else (none)) = some r := by first | (rw [hj1] at H; exact H) | (simp only [hj1] at H ⊢; exact H)
          have hji30w : (IntKind.i64.wrap (x15_1 - 1)) = ji30 := (i64_w _).trans hj1
          by_cases c31 : 0 ≤ (ji30)
          ·rw [if_pos c31] at H
           have c31b0 := decide_eq_true c31
           clear c31
           by_cases c32 : (ji30) < (l1_1.length : Int)
           ·rw [if_pos c32] at H
            have c32b0 := decide_eq_true c32
            clear c32
            by_cases c33 : ((rd_T52 l1_1 (ji30)).f0) ≥ ((rd_T52 l1_1 x15_1).f0)
            ·rw [if_pos c33] at H
             have c33b0 : decide (((rd_T52 l1_1 x15_1).f0) ≤ ((rd_T52 l1_1 (ji30)).f0)) = true := decide_eq_true c33
             clear c33
             obtain rfl := Option.some.inj H
             have p356 : 0 ≤ (x15_1 : Int) := Sh.od
             have q356 : x15_1 < (l1_1.length : Int) := Sh.od
             obtain ⟨ad356, A356_1, c356_1, e356, hx356_0, hx356_1, hl356_1, hi356_1⟩ := at_T52 HR1_1.out x15_1 p356 q356
             cases e356
             try replace hx356_0 := Sh.cw hx356_0
             try replace hx356_1 := Sh.cw hx356_1
             have HR356_1 := am_ hi356_1
             have HC356_1 := am_ hl356_1
             clear hi356_1 hl356_1
             replace p356 := eq_true p356
             replace q356 := eq_true q356
             try go_wp2_with (first | ((with_reducible refine Sh.d 6 ?_); refine Sh.bx (N := 6) (cs := #[.int .i64 0, .slice none 0 0]) (t := 52) (h := ?_); intro gb357 hg w34 hbox hb; have BK357 := am_ hbox; have GE357 := Sh.ag w hg; replace HB := Sh.hb hb; have NB353_357 := am_ (Sh.nl hg BK353.out); have NB357_353 := am_ (Sh.ng hg BK353.out); replace BK353 := Sh.ab BK353 hb; have NB354_357 := am_ (Sh.nl hg BK354.out); have NB357_354 := am_ (Sh.ng hg BK354.out); replace BK354 := Sh.ab BK354 hb; clear hb hbox hg; have hnb35 := NB357_353.out; have hnc35 := NB353_357.out; have hnb36 := NB357_354.out; have hnc36 := NB354_357.out; obtain ⟨hcz37_0, hcz37_1, hfz37_0, hfz37_1⟩ := Sh.b2 BK357.out))
             have n0_ : Aside0 (((w34.setCell ⟨gb357, 0, none⟩ (.int .i64 ((rd_T52 l1_1 x15_1).f0))).setCell ⟨gb357, 1, none⟩ (.slice A356_1 ((rd_T52 l1_1 x15_1).f1).length c356_1)).heap[gb353]? = some (.cells #[.int .i64 a0_0, .int .i64 a0_1, .slice A0_2 l0_2.length c0_2, .slice A0_3 l0_3.length c0_3] 33 (0, 0))) := ⟨by refine Sh.pl ?_; refine blk_far ?_ NB353_357.out _; refine Sh.pl ?_; refine blk_far ?_ NB353_357.out _; refine Sh.pl ?_; exact BK353.out⟩
             have n1_ : Aside0 (((w34.setCell ⟨gb357, 0, none⟩ (.int .i64 ((rd_T52 l1_1 x15_1).f0))).setCell ⟨gb357, 1, none⟩ (.slice A356_1 ((rd_T52 l1_1 x15_1).f1).length c356_1)).heap[gb354]? = some (.cells #[.slice A1_0 l1_0.length c1_0, .slice (some ad356) l1_1.length c1_1] 50 (0, 0))) := ⟨by refine Sh.pl ?_; refine blk_far ?_ NB354_357.out _; refine Sh.pl ?_; refine blk_far ?_ NB354_357.out _; refine Sh.pl ?_; exact BK354.out⟩
             have n2_ : Aside0 (((w34.setCell ⟨gb357, 0, none⟩ (.int .i64 ((rd_T52 l1_1 x15_1).f0))).setCell ⟨gb357, 1, none⟩ (.slice A356_1 ((rd_T52 l1_1 x15_1).f1).length c356_1)).heap[gb357]? = some (.cells #[.int .i64 ((rd_T52 l1_1 x15_1).f0), .slice A356_1 ((rd_T52 l1_1 x15_1).f1).length c356_1] 52 (0, 0))) := ⟨by refine Sh.pl ?_; refine blk_put (cs := #[.int .i64 ((rd_T52 l1_1 x15_1).f0), .slice none 0 0]) ?_ 1 _ rfl; refine Sh.pl ?_; refine blk_put (cs := #[.int .i64 0, .slice none 0 0]) ?_ 0 _ rfl; refine Sh.pl ?_; exact BK357.out⟩
             have n3_ : Aside0 (Below w.heap.size w ((w34.setCell ⟨gb357, 0, none⟩ (.int .i64 ((rd_T52 l1_1 x15_1).f0))).setCell ⟨gb357, 1, none⟩ (.slice A356_1 ((rd_T52 l1_1 x15_1).f1).length c356_1))) := ⟨Sh.bw⟩
             (try clear BK353)
             (try clear BK354)
             (try clear BK357)
             (try clear HB)
             generalize ((w34.setCell ⟨gb357, 0, none⟩ (.int .i64 ((rd_T52 l1_1 x15_1).f0))).setCell ⟨gb357, 1, none⟩ (.slice A356_1 ((rd_T52 l1_1 x15_1).f1).length c356_1)) = w38 at n0_ n1_ n2_ n3_ ⊢
             have BK353 := n0_
             have BK354 := n1_
             have BK357 := n2_
             have HB := n3_
             clear n0_ n1_ n2_ n3_
             replace BK353 := am_ (blk_drew BK353.out)
             replace BK354 := am_ (blk_drew BK354.out)
             replace BK357 := am_ (blk_drew BK357.out)
             replace HB := am_ (below_drew1 HB.out)
             have p358 : 0 ≤ ((ji30) : Int) := Sh.od
             have q358 : (ji30) < (l1_1.length : Int) := Sh.od
             obtain ⟨ad358, A358_1, c358_1, e358, hx358_0, hx358_1, hl358_1, hi358_1⟩ := at_T52 HR1_1.out (ji30) p358 q358
             have hw358_1 := hx358_1
             have hw358_0 := hx358_0
             obtain rfl : ad356 = ad358 := (by injection e358)
             try replace hx358_0 := Sh.cw hx358_0
             try replace hx358_1 := Sh.cw hx358_1
             have HR358_1 := am_ hi358_1
             have HC358_1 := am_ hl358_1
             clear hi358_1 hl358_1
             replace p358 := eq_true p358
             replace q358 := eq_true q358
             refine start_ (n := 36) (S := fun w' => w'.cell? ⟨gb357, 0, none⟩ = some (.int .i64 ((rd_T52 l1_1 x15_1).f0)) ∧ w'.cell? ⟨gb357, 1, none⟩ = some (.slice A356_1 ((rd_T52 l1_1 x15_1).f1).length c356_1) ∧ w'.cell? ⟨gb353, 0, none⟩ = some (.int .i64 a0_0) ∧ w'.cell? ⟨gb353, 1, none⟩ = some (.int .i64 a0_1) ∧ w'.cell? ⟨gb353, 2, none⟩ = some (.slice A0_2 l0_2.length c0_2) ∧ w'.cell? ⟨gb353, 3, none⟩ = some (.slice A0_3 l0_3.length c0_3) ∧ w'.cell? ⟨gb354, 0, none⟩ = some (.slice A1_0 l1_0.length c1_0) ∧ w'.cell? ⟨gb354, 1, none⟩ = some (.slice (some ad356) l1_1.length c1_1) ∧ w'.cell? (ad356.add (((ji30)).toNat * 2)) = some (.int .i64 ((rd_T52 l1_1 (ji30)).f0)) ∧ w'.cell? ⟨(ad356.add (((ji30)).toNat * 2)).block, (ad356.add (((ji30)).toNat * 2)).off + 1, none⟩ = some (.slice A358_1 ((rd_T52 l1_1 (ji30)).f1).length c358_1)) (ds := []) (Sh.nm 36 0) (by kernel_rfl) rfl rfl Sh.cs (fun hHeld => ?_); refine with_tabW impl_Program_isCommand.tab6 impl_Program_isCommand.bits6 (fun HT_ HW_ => ?_)
             generalize w38.drew = w39 at BK353 BK354 BK357 HB HR358_1 hx358_0 hx358_1 hHeld ⊢
             refine Sh.qA 0 ?_; refine Sh.qT 1 hHeld ?_; refine Sh.qA 2 ?_; refine Sh.qA 3 ?_; refine Sh.qA 4 ?_; refine Sh.qA 6 ?_; refine Sh.qT 5 hHeld ?_; refine Sh.qT 7 hHeld ?_; refine Sh.qA 8 ?_; refine Sh.qA 9 ?_; refine Sh.qA 10 ?_; refine Sh.qA 11 ?_; refine Sh.qA 12 ?_; refine Sh.qA 13 ?_; refine Sh.qA 14 ?_; refine Sh.qA 16 ?_; refine Sh.qA 17 ?_; refine Sh.qA 21 ?_; refine Sh.qT 15 hHeld ?_; refine Sh.qA 18 ?_; refine Sh.qA 19 ?_; refine Sh.qT 20 hHeld ?_; refine Sh.qT 22 hHeld ?_; refine Sh.qA 23 ?_; refine Sh.qA 24 ?_; refine Sh.qA 25 ?_; refine Sh.qA 26 ?_; refine Sh.qU 27 ?_; refine Sh.qU 28 ?_; refine Sh.qU 29 ?_; refine Sh.qU 30 ?_; refine Sh.qU 31 ?_; refine Sh.qU 32 ?_; refine Sh.qU 33 ?_; refine Sh.qU 34 ?_; refine Sh.qA 35 ?_
             refine done_ (done_of HT_.out (by kernel_rfl)) ?_
             try go_wp2
             go_ret
             exact ⟨by first | rfl | (simp [errW_none, errW_some] <;> rfl) | (simp only [← hj1]; first | rfl | (simp [errW_none, errW_some] <;> rfl)) | (simp [*, errW_none, errW_some] <;> rfl), Sh.bw⟩
            ·rw [if_neg c33] at H
             have c33b0 : decide (((rd_T52 l1_1 x15_1).f0) ≤ ((rd_T52 l1_1 (ji30)).f0)) = false := decide_eq_false c33
             clear c33
             obtain ⟨t359, A40, H⟩ := Sh.ba H
             by_cases c41 : t359 = true
             ·subst c41
              rw [if_pos rfl] at H
              have H' := am_ H
              clear H
              have p356 : 0 ≤ (x15_1 : Int) := Sh.od
              have q356 : x15_1 < (l1_1.length : Int) := Sh.od
              obtain ⟨ad356, A356_1, c356_1, e356, hx356_0, hx356_1, hl356_1, hi356_1⟩ := at_T52 HR1_1.out x15_1 p356 q356
              cases e356
              try replace hx356_0 := Sh.cw hx356_0
              try replace hx356_1 := Sh.cw hx356_1
              have HR356_1 := am_ hi356_1
              have HC356_1 := am_ hl356_1
              clear hi356_1 hl356_1
              replace p356 := eq_true p356
              replace q356 := eq_true q356
              try go_wp2_with (first | ((with_reducible refine Sh.d 6 ?_); refine Sh.bx (N := 6) (cs := #[.int .i64 0, .slice none 0 0]) (t := 52) (h := ?_); intro gb357 hg w42 hbox hb; have BK357 := am_ hbox; have GE357 := Sh.ag w hg; replace HB := Sh.hb hb; have NB353_357 := am_ (Sh.nl hg BK353.out); have NB357_353 := am_ (Sh.ng hg BK353.out); replace BK353 := Sh.ab BK353 hb; have NB354_357 := am_ (Sh.nl hg BK354.out); have NB357_354 := am_ (Sh.ng hg BK354.out); replace BK354 := Sh.ab BK354 hb; clear hb hbox hg; have hnb43 := NB357_353.out; have hnc43 := NB353_357.out; have hnb44 := NB357_354.out; have hnc44 := NB354_357.out; obtain ⟨hcz45_0, hcz45_1, hfz45_0, hfz45_1⟩ := Sh.b2 BK357.out))
              have n0_ : Aside0 (((w42.setCell ⟨gb357, 0, none⟩ (.int .i64 ((rd_T52 l1_1 x15_1).f0))).setCell ⟨gb357, 1, none⟩ (.slice A356_1 ((rd_T52 l1_1 x15_1).f1).length c356_1)).heap[gb353]? = some (.cells #[.int .i64 a0_0, .int .i64 a0_1, .slice A0_2 l0_2.length c0_2, .slice A0_3 l0_3.length c0_3] 33 (0, 0))) := ⟨by refine Sh.pl ?_; refine blk_far ?_ NB353_357.out _; refine Sh.pl ?_; refine blk_far ?_ NB353_357.out _; refine Sh.pl ?_; exact BK353.out⟩
              have n1_ : Aside0 (((w42.setCell ⟨gb357, 0, none⟩ (.int .i64 ((rd_T52 l1_1 x15_1).f0))).setCell ⟨gb357, 1, none⟩ (.slice A356_1 ((rd_T52 l1_1 x15_1).f1).length c356_1)).heap[gb354]? = some (.cells #[.slice A1_0 l1_0.length c1_0, .slice (some ad356) l1_1.length c1_1] 50 (0, 0))) := ⟨by refine Sh.pl ?_; refine blk_far ?_ NB354_357.out _; refine Sh.pl ?_; refine blk_far ?_ NB354_357.out _; refine Sh.pl ?_; exact BK354.out⟩
              have n2_ : Aside0 (((w42.setCell ⟨gb357, 0, none⟩ (.int .i64 ((rd_T52 l1_1 x15_1).f0))).setCell ⟨gb357, 1, none⟩ (.slice A356_1 ((rd_T52 l1_1 x15_1).f1).length c356_1)).heap[gb357]? = some (.cells #[.int .i64 ((rd_T52 l1_1 x15_1).f0), .slice A356_1 ((rd_T52 l1_1 x15_1).f1).length c356_1] 52 (0, 0))) := ⟨by refine Sh.pl ?_; refine blk_put (cs := #[.int .i64 ((rd_T52 l1_1 x15_1).f0), .slice none 0 0]) ?_ 1 _ rfl; refine Sh.pl ?_; refine blk_put (cs := #[.int .i64 0, .slice none 0 0]) ?_ 0 _ rfl; refine Sh.pl ?_; exact BK357.out⟩
              have n3_ : Aside0 (Below w.heap.size w ((w42.setCell ⟨gb357, 0, none⟩ (.int .i64 ((rd_T52 l1_1 x15_1).f0))).setCell ⟨gb357, 1, none⟩ (.slice A356_1 ((rd_T52 l1_1 x15_1).f1).length c356_1))) := ⟨Sh.bw⟩
              (try clear BK353)
              (try clear BK354)
              (try clear BK357)
              (try clear HB)
              generalize ((w42.setCell ⟨gb357, 0, none⟩ (.int .i64 ((rd_T52 l1_1 x15_1).f0))).setCell ⟨gb357, 1, none⟩ (.slice A356_1 ((rd_T52 l1_1 x15_1).f1).length c356_1)) = w46 at n0_ n1_ n2_ n3_ ⊢
              have BK353 := n0_
              have BK354 := n1_
              have BK357 := n2_
              have HB := n3_
              clear n0_ n1_ n2_ n3_
              replace BK353 := am_ (blk_drew BK353.out)
              replace BK354 := am_ (blk_drew BK354.out)
              replace BK357 := am_ (blk_drew BK357.out)
              replace HB := am_ (below_drew1 HB.out)
              have p358 : 0 ≤ ((ji30) : Int) := Sh.od
              have q358 : (ji30) < (l1_1.length : Int) := Sh.od
              obtain ⟨ad358, A358_1, c358_1, e358, hx358_0, hx358_1, hl358_1, hi358_1⟩ := at_T52 HR1_1.out (ji30) p358 q358
              have hw358_1 := hx358_1
              have hw358_0 := hx358_0
              obtain rfl : ad356 = ad358 := (by injection e358)
              try replace hx358_0 := Sh.cw hx358_0
              try replace hx358_1 := Sh.cw hx358_1
              have HR358_1 := am_ hi358_1
              have HC358_1 := am_ hl358_1
              clear hi358_1 hl358_1
              replace p358 := eq_true p358
              replace q358 := eq_true q358
              refine start_ (n := 36) (S := fun w' => w'.cell? ⟨gb357, 0, none⟩ = some (.int .i64 ((rd_T52 l1_1 x15_1).f0)) ∧ w'.cell? ⟨gb357, 1, none⟩ = some (.slice A356_1 ((rd_T52 l1_1 x15_1).f1).length c356_1) ∧ w'.cell? ⟨gb353, 0, none⟩ = some (.int .i64 a0_0) ∧ w'.cell? ⟨gb353, 1, none⟩ = some (.int .i64 a0_1) ∧ w'.cell? ⟨gb353, 2, none⟩ = some (.slice A0_2 l0_2.length c0_2) ∧ w'.cell? ⟨gb353, 3, none⟩ = some (.slice A0_3 l0_3.length c0_3) ∧ w'.cell? ⟨gb354, 0, none⟩ = some (.slice A1_0 l1_0.length c1_0) ∧ w'.cell? ⟨gb354, 1, none⟩ = some (.slice (some ad356) l1_1.length c1_1) ∧ w'.cell? (ad356.add (((ji30)).toNat * 2)) = some (.int .i64 ((rd_T52 l1_1 (ji30)).f0)) ∧ w'.cell? ⟨(ad356.add (((ji30)).toNat * 2)).block, (ad356.add (((ji30)).toNat * 2)).off + 1, none⟩ = some (.slice A358_1 ((rd_T52 l1_1 (ji30)).f1).length c358_1)) (ds := []) (Sh.nm 36 0) (by kernel_rfl) rfl rfl Sh.cs (fun hHeld => ?_); refine with_tabW impl_Program_isCommand.tab6 impl_Program_isCommand.bits6 (fun HT_ HW_ => ?_)
              generalize w46.drew = w47 at BK353 BK354 BK357 HB HR358_1 hx358_0 hx358_1 hHeld ⊢
              refine Sh.qA 0 ?_; refine Sh.qT 1 hHeld ?_; refine Sh.qA 2 ?_; refine Sh.qA 3 ?_; refine Sh.qA 4 ?_; refine Sh.qA 6 ?_; refine Sh.qT 5 hHeld ?_; refine Sh.qT 7 hHeld ?_; refine Sh.qA 8 ?_; refine Sh.qA 9 ?_; refine Sh.qA 10 ?_; refine Sh.qA 11 ?_; refine Sh.qA 12 ?_; refine Sh.qA 13 ?_; refine Sh.qA 14 ?_; refine Sh.qA 16 ?_; refine Sh.qA 17 ?_; refine Sh.qA 21 ?_; refine Sh.qT 15 hHeld ?_; refine Sh.qA 18 ?_; refine Sh.qA 19 ?_; refine Sh.qT 20 hHeld ?_; refine Sh.qT 22 hHeld ?_; refine Sh.qA 23 ?_; refine Sh.qA 24 ?_; refine Sh.qA 25 ?_; refine Sh.qA 26 ?_; refine Sh.qA 27 ?_; refine Sh.qA 29 ?_; refine Sh.qA 31 ?_; refine Sh.qT 28 hHeld ?_; refine Sh.qT 30 hHeld ?_; refine Sh.qT 32 hHeld ?_
              refine Sh.oC 33 Try.func60 #[.int .i64 a0_0, .int .i64 a0_1, .slice A356_1 ((rd_T52 l1_1 x15_1).f1).length c356_1, .int .i64 1] fun K hK => ?_
              with_reducible refine (impl_isTermOf.calls k1 a0_0 a0_1 _ _ ((rd_T52 l1_1 x15_1).f1) 1 true _ (Sh.cB HR356_1.out) HC356_1.out A40.out).mono ?_
              rintro e w48 ⟨rfl, hb⟩
              refine ⟨_, rfl, ?_⟩
              replace BK353 := Sh.ab BK353 hb
              replace BK354 := Sh.ab BK354 hb
              replace BK357 := Sh.ab BK357 hb
              replace HB := Sh.hb hb
              (try clear hb)
              (try clear hb2)
              (try clear hk)
              (try clear hi)
              refine Sh.kN hK Sh.cs fun hHeld => ?_
              clear hK K
              refine Sh.qA 34 ?_; refine Sh.qA 35 ?_
              refine done_ (done_of HT_.out (by kernel_rfl)) ?_
              try go_wp2
              go_roundg k1
              case measure => have := HK1.out; omega
              case rel => exact ⟨(wrap64 (x15_1 + 1)), (Sh.es), H', ⟨by have := HK1.out; omega⟩, ⟨by refine Sh.pl ?_; exact BK353.out⟩, ⟨by refine Sh.pl ?_; exact BK354.out⟩, ⟨Sh.bw⟩⟩
             ·replace c41 := Bool.eq_false_iff.mpr c41
              subst c41
              rw [Sh.nf] at H
              obtain rfl := Option.some.inj H
              have p356 : 0 ≤ (x15_1 : Int) := Sh.od
              have q356 : x15_1 < (l1_1.length : Int) := Sh.od
              obtain ⟨ad356, A356_1, c356_1, e356, hx356_0, hx356_1, hl356_1, hi356_1⟩ := at_T52 HR1_1.out x15_1 p356 q356
              cases e356
              try replace hx356_0 := Sh.cw hx356_0
              try replace hx356_1 := Sh.cw hx356_1
              have HR356_1 := am_ hi356_1
              have HC356_1 := am_ hl356_1
              clear hi356_1 hl356_1
              replace p356 := eq_true p356
              replace q356 := eq_true q356
              try go_wp2_with (first | ((with_reducible refine Sh.d 6 ?_); refine Sh.bx (N := 6) (cs := #[.int .i64 0, .slice none 0 0]) (t := 52) (h := ?_); intro gb357 hg w49 hbox hb; have BK357 := am_ hbox; have GE357 := Sh.ag w hg; replace HB := Sh.hb hb; have NB353_357 := am_ (Sh.nl hg BK353.out); have NB357_353 := am_ (Sh.ng hg BK353.out); replace BK353 := Sh.ab BK353 hb; have NB354_357 := am_ (Sh.nl hg BK354.out); have NB357_354 := am_ (Sh.ng hg BK354.out); replace BK354 := Sh.ab BK354 hb; clear hb hbox hg; have hnb50 := NB357_353.out; have hnc50 := NB353_357.out; have hnb51 := NB357_354.out; have hnc51 := NB354_357.out; obtain ⟨hcz52_0, hcz52_1, hfz52_0, hfz52_1⟩ := Sh.b2 BK357.out))
              have n0_ : Aside0 (((w49.setCell ⟨gb357, 0, none⟩ (.int .i64 ((rd_T52 l1_1 x15_1).f0))).setCell ⟨gb357, 1, none⟩ (.slice A356_1 ((rd_T52 l1_1 x15_1).f1).length c356_1)).heap[gb353]? = some (.cells #[.int .i64 a0_0, .int .i64 a0_1, .slice A0_2 l0_2.length c0_2, .slice A0_3 l0_3.length c0_3] 33 (0, 0))) := ⟨by refine Sh.pl ?_; refine blk_far ?_ NB353_357.out _; refine Sh.pl ?_; refine blk_far ?_ NB353_357.out _; refine Sh.pl ?_; exact BK353.out⟩
              have n1_ : Aside0 (((w49.setCell ⟨gb357, 0, none⟩ (.int .i64 ((rd_T52 l1_1 x15_1).f0))).setCell ⟨gb357, 1, none⟩ (.slice A356_1 ((rd_T52 l1_1 x15_1).f1).length c356_1)).heap[gb354]? = some (.cells #[.slice A1_0 l1_0.length c1_0, .slice (some ad356) l1_1.length c1_1] 50 (0, 0))) := ⟨by refine Sh.pl ?_; refine blk_far ?_ NB354_357.out _; refine Sh.pl ?_; refine blk_far ?_ NB354_357.out _; refine Sh.pl ?_; exact BK354.out⟩
              have n2_ : Aside0 (((w49.setCell ⟨gb357, 0, none⟩ (.int .i64 ((rd_T52 l1_1 x15_1).f0))).setCell ⟨gb357, 1, none⟩ (.slice A356_1 ((rd_T52 l1_1 x15_1).f1).length c356_1)).heap[gb357]? = some (.cells #[.int .i64 ((rd_T52 l1_1 x15_1).f0), .slice A356_1 ((rd_T52 l1_1 x15_1).f1).length c356_1] 52 (0, 0))) := ⟨by refine Sh.pl ?_; refine blk_put (cs := #[.int .i64 ((rd_T52 l1_1 x15_1).f0), .slice none 0 0]) ?_ 1 _ rfl; refine Sh.pl ?_; refine blk_put (cs := #[.int .i64 0, .slice none 0 0]) ?_ 0 _ rfl; refine Sh.pl ?_; exact BK357.out⟩
              have n3_ : Aside0 (Below w.heap.size w ((w49.setCell ⟨gb357, 0, none⟩ (.int .i64 ((rd_T52 l1_1 x15_1).f0))).setCell ⟨gb357, 1, none⟩ (.slice A356_1 ((rd_T52 l1_1 x15_1).f1).length c356_1))) := ⟨Sh.bw⟩
              (try clear BK353)
              (try clear BK354)
              (try clear BK357)
              (try clear HB)
              generalize ((w49.setCell ⟨gb357, 0, none⟩ (.int .i64 ((rd_T52 l1_1 x15_1).f0))).setCell ⟨gb357, 1, none⟩ (.slice A356_1 ((rd_T52 l1_1 x15_1).f1).length c356_1)) = w53 at n0_ n1_ n2_ n3_ ⊢
              have BK353 := n0_
              have BK354 := n1_
              have BK357 := n2_
              have HB := n3_
              clear n0_ n1_ n2_ n3_
              replace BK353 := am_ (blk_drew BK353.out)
              replace BK354 := am_ (blk_drew BK354.out)
              replace BK357 := am_ (blk_drew BK357.out)
              replace HB := am_ (below_drew1 HB.out)
              have p358 : 0 ≤ ((ji30) : Int) := Sh.od
              have q358 : (ji30) < (l1_1.length : Int) := Sh.od
              obtain ⟨ad358, A358_1, c358_1, e358, hx358_0, hx358_1, hl358_1, hi358_1⟩ := at_T52 HR1_1.out (ji30) p358 q358
              have hw358_1 := hx358_1
              have hw358_0 := hx358_0
              obtain rfl : ad356 = ad358 := (by injection e358)
              try replace hx358_0 := Sh.cw hx358_0
              try replace hx358_1 := Sh.cw hx358_1
              have HR358_1 := am_ hi358_1
              have HC358_1 := am_ hl358_1
              clear hi358_1 hl358_1
              replace p358 := eq_true p358
              replace q358 := eq_true q358
              refine start_ (n := 36) (S := fun w' => w'.cell? ⟨gb357, 0, none⟩ = some (.int .i64 ((rd_T52 l1_1 x15_1).f0)) ∧ w'.cell? ⟨gb357, 1, none⟩ = some (.slice A356_1 ((rd_T52 l1_1 x15_1).f1).length c356_1) ∧ w'.cell? ⟨gb353, 0, none⟩ = some (.int .i64 a0_0) ∧ w'.cell? ⟨gb353, 1, none⟩ = some (.int .i64 a0_1) ∧ w'.cell? ⟨gb353, 2, none⟩ = some (.slice A0_2 l0_2.length c0_2) ∧ w'.cell? ⟨gb353, 3, none⟩ = some (.slice A0_3 l0_3.length c0_3) ∧ w'.cell? ⟨gb354, 0, none⟩ = some (.slice A1_0 l1_0.length c1_0) ∧ w'.cell? ⟨gb354, 1, none⟩ = some (.slice (some ad356) l1_1.length c1_1) ∧ w'.cell? (ad356.add (((ji30)).toNat * 2)) = some (.int .i64 ((rd_T52 l1_1 (ji30)).f0)) ∧ w'.cell? ⟨(ad356.add (((ji30)).toNat * 2)).block, (ad356.add (((ji30)).toNat * 2)).off + 1, none⟩ = some (.slice A358_1 ((rd_T52 l1_1 (ji30)).f1).length c358_1)) (ds := []) (Sh.nm 36 0) (by kernel_rfl) rfl rfl Sh.cs (fun hHeld => ?_); refine with_tabW impl_Program_isCommand.tab6 impl_Program_isCommand.bits6 (fun HT_ HW_ => ?_)
              generalize w53.drew = w54 at BK353 BK354 BK357 HB HR358_1 hx358_0 hx358_1 hHeld ⊢
              refine Sh.qA 0 ?_; refine Sh.qT 1 hHeld ?_; refine Sh.qA 2 ?_; refine Sh.qA 3 ?_; refine Sh.qA 4 ?_; refine Sh.qA 6 ?_; refine Sh.qT 5 hHeld ?_; refine Sh.qT 7 hHeld ?_; refine Sh.qA 8 ?_; refine Sh.qA 9 ?_; refine Sh.qA 10 ?_; refine Sh.qA 11 ?_; refine Sh.qA 12 ?_; refine Sh.qA 13 ?_; refine Sh.qA 14 ?_; refine Sh.qA 16 ?_; refine Sh.qA 17 ?_; refine Sh.qA 21 ?_; refine Sh.qT 15 hHeld ?_; refine Sh.qA 18 ?_; refine Sh.qA 19 ?_; refine Sh.qT 20 hHeld ?_; refine Sh.qT 22 hHeld ?_; refine Sh.qA 23 ?_; refine Sh.qA 24 ?_; refine Sh.qA 25 ?_; refine Sh.qA 26 ?_; refine Sh.qA 27 ?_; refine Sh.qA 29 ?_; refine Sh.qA 31 ?_; refine Sh.qT 28 hHeld ?_; refine Sh.qT 30 hHeld ?_; refine Sh.qT 32 hHeld ?_
              refine Sh.oC 33 Try.func60 #[.int .i64 a0_0, .int .i64 a0_1, .slice A356_1 ((rd_T52 l1_1 x15_1).f1).length c356_1, .int .i64 1] fun K hK => ?_
              with_reducible refine (impl_isTermOf.calls k1 a0_0 a0_1 _ _ ((rd_T52 l1_1 x15_1).f1) 1 false _ (Sh.cB HR356_1.out) HC356_1.out A40.out).mono ?_
              rintro e w55 ⟨rfl, hb⟩
              refine ⟨_, rfl, ?_⟩
              replace BK353 := Sh.ab BK353 hb
              replace BK354 := Sh.ab BK354 hb
              replace BK357 := Sh.ab BK357 hb
              replace HB := Sh.hb hb
              (try clear hb)
              (try clear hb2)
              (try clear hk)
              (try clear hi)
              refine Sh.kN hK Sh.cs fun hHeld => ?_
              clear hK K
              refine Sh.qA 34 ?_; refine Sh.qA 35 ?_
              refine done_ (done_of HT_.out (by kernel_rfl)) ?_
              try go_wp2
              go_ret
              exact ⟨by first | rfl | (simp [errW_none, errW_some] <;> rfl) | (simp only [← hj1]; first | rfl | (simp [errW_none, errW_some] <;> rfl)) | (simp [*, errW_none, errW_some] <;> rfl), Sh.bw⟩
           ·rw [if_neg c32] at H
            exact absurd H (by simp)
          ·rw [if_neg c31] at H
           exact absurd H (by simp)
         ·rw [if_neg c29] at H
          have c29b0 : decide (0 < x15_1) = false := decide_eq_false c29
          clear c29
          obtain ⟨t360, A56, H⟩ := Sh.ba H
          by_cases c57 : t360 = true
          ·subst c57
           rw [if_pos rfl] at H
           have H' := am_ H
           clear H
           have p356 : 0 ≤ (x15_1 : Int) := Sh.od
           have q356 : x15_1 < (l1_1.length : Int) := Sh.od
           obtain ⟨ad356, A356_1, c356_1, e356, hx356_0, hx356_1, hl356_1, hi356_1⟩ := at_T52 HR1_1.out x15_1 p356 q356
           cases e356
           try replace hx356_0 := Sh.cw hx356_0
           try replace hx356_1 := Sh.cw hx356_1
           have HR356_1 := am_ hi356_1
           have HC356_1 := am_ hl356_1
           clear hi356_1 hl356_1
           replace p356 := eq_true p356
           replace q356 := eq_true q356
           try go_wp2_with (first | ((with_reducible refine Sh.d 6 ?_); refine Sh.bx (N := 6) (cs := #[.int .i64 0, .slice none 0 0]) (t := 52) (h := ?_); intro gb357 hg w58 hbox hb; have BK357 := am_ hbox; have GE357 := Sh.ag w hg; replace HB := Sh.hb hb; have NB353_357 := am_ (Sh.nl hg BK353.out); have NB357_353 := am_ (Sh.ng hg BK353.out); replace BK353 := Sh.ab BK353 hb; have NB354_357 := am_ (Sh.nl hg BK354.out); have NB357_354 := am_ (Sh.ng hg BK354.out); replace BK354 := Sh.ab BK354 hb; clear hb hbox hg; have hnb59 := NB357_353.out; have hnc59 := NB353_357.out; have hnb60 := NB357_354.out; have hnc60 := NB354_357.out; obtain ⟨hcz61_0, hcz61_1, hfz61_0, hfz61_1⟩ := Sh.b2 BK357.out))
           have n0_ : Aside0 (((w58.setCell ⟨gb357, 0, none⟩ (.int .i64 ((rd_T52 l1_1 x15_1).f0))).setCell ⟨gb357, 1, none⟩ (.slice A356_1 ((rd_T52 l1_1 x15_1).f1).length c356_1)).heap[gb353]? = some (.cells #[.int .i64 a0_0, .int .i64 a0_1, .slice A0_2 l0_2.length c0_2, .slice A0_3 l0_3.length c0_3] 33 (0, 0))) := ⟨by refine Sh.pl ?_; refine blk_far ?_ NB353_357.out _; refine Sh.pl ?_; refine blk_far ?_ NB353_357.out _; refine Sh.pl ?_; exact BK353.out⟩
           have n1_ : Aside0 (((w58.setCell ⟨gb357, 0, none⟩ (.int .i64 ((rd_T52 l1_1 x15_1).f0))).setCell ⟨gb357, 1, none⟩ (.slice A356_1 ((rd_T52 l1_1 x15_1).f1).length c356_1)).heap[gb354]? = some (.cells #[.slice A1_0 l1_0.length c1_0, .slice (some ad356) l1_1.length c1_1] 50 (0, 0))) := ⟨by refine Sh.pl ?_; refine blk_far ?_ NB354_357.out _; refine Sh.pl ?_; refine blk_far ?_ NB354_357.out _; refine Sh.pl ?_; exact BK354.out⟩
           have n2_ : Aside0 (((w58.setCell ⟨gb357, 0, none⟩ (.int .i64 ((rd_T52 l1_1 x15_1).f0))).setCell ⟨gb357, 1, none⟩ (.slice A356_1 ((rd_T52 l1_1 x15_1).f1).length c356_1)).heap[gb357]? = some (.cells #[.int .i64 ((rd_T52 l1_1 x15_1).f0), .slice A356_1 ((rd_T52 l1_1 x15_1).f1).length c356_1] 52 (0, 0))) := ⟨by refine Sh.pl ?_; refine blk_put (cs := #[.int .i64 ((rd_T52 l1_1 x15_1).f0), .slice none 0 0]) ?_ 1 _ rfl; refine Sh.pl ?_; refine blk_put (cs := #[.int .i64 0, .slice none 0 0]) ?_ 0 _ rfl; refine Sh.pl ?_; exact BK357.out⟩
           have n3_ : Aside0 (Below w.heap.size w ((w58.setCell ⟨gb357, 0, none⟩ (.int .i64 ((rd_T52 l1_1 x15_1).f0))).setCell ⟨gb357, 1, none⟩ (.slice A356_1 ((rd_T52 l1_1 x15_1).f1).length c356_1))) := ⟨Sh.bw⟩
           (try clear BK353)
           (try clear BK354)
           (try clear BK357)
           (try clear HB)
           generalize ((w58.setCell ⟨gb357, 0, none⟩ (.int .i64 ((rd_T52 l1_1 x15_1).f0))).setCell ⟨gb357, 1, none⟩ (.slice A356_1 ((rd_T52 l1_1 x15_1).f1).length c356_1)) = w62 at n0_ n1_ n2_ n3_ ⊢
           have BK353 := n0_
           have BK354 := n1_
           have BK357 := n2_
           have HB := n3_
           clear n0_ n1_ n2_ n3_
           replace BK353 := am_ (blk_drew BK353.out)
           replace BK354 := am_ (blk_drew BK354.out)
           replace BK357 := am_ (blk_drew BK357.out)
           replace HB := am_ (below_drew1 HB.out)
           refine start_ (n := 36) (S := fun w' => w'.cell? ⟨gb357, 0, none⟩ = some (.int .i64 ((rd_T52 l1_1 x15_1).f0)) ∧ w'.cell? ⟨gb357, 1, none⟩ = some (.slice A356_1 ((rd_T52 l1_1 x15_1).f1).length c356_1) ∧ w'.cell? ⟨gb353, 0, none⟩ = some (.int .i64 a0_0) ∧ w'.cell? ⟨gb353, 1, none⟩ = some (.int .i64 a0_1) ∧ w'.cell? ⟨gb353, 2, none⟩ = some (.slice A0_2 l0_2.length c0_2) ∧ w'.cell? ⟨gb353, 3, none⟩ = some (.slice A0_3 l0_3.length c0_3)) (ds := []) (Sh.nm 36 0) (by kernel_rfl) rfl rfl Sh.cs (fun hHeld => ?_); refine with_tabW impl_Program_isCommand.tab6 impl_Program_isCommand.bits6 (fun HT_ HW_ => ?_)
           generalize w62.drew = w63 at BK353 BK354 BK357 HB hHeld ⊢
           refine Sh.qA 0 ?_; refine Sh.qT 1 hHeld ?_; refine Sh.qA 2 ?_; refine Sh.qA 3 ?_; refine Sh.qA 4 ?_; refine Sh.qA 6 ?_; refine Sh.qT 5 hHeld ?_; refine Sh.qT 7 hHeld ?_; refine Sh.qA 8 ?_; refine Sh.qA 9 ?_; refine Sh.qA 10 ?_; refine Sh.qA 11 ?_; refine Sh.qA 12 ?_; refine Sh.qA 13 ?_; refine Sh.qU 14 ?_; refine Sh.qU 15 ?_; refine Sh.qU 16 ?_; refine Sh.qU 17 ?_; refine Sh.qU 18 ?_; refine Sh.qU 19 ?_; refine Sh.qU 20 ?_; refine Sh.qU 21 ?_; refine Sh.qU 22 ?_; refine Sh.qU 23 ?_; refine Sh.qA 24 ?_; refine Sh.qA 25 ?_; refine Sh.qA 26 ?_; refine Sh.qA 27 ?_; refine Sh.qA 29 ?_; refine Sh.qA 31 ?_; refine Sh.qT 28 hHeld ?_; refine Sh.qT 30 hHeld ?_; refine Sh.qT 32 hHeld ?_
           refine Sh.oC 33 Try.func60 #[.int .i64 a0_0, .int .i64 a0_1, .slice A356_1 ((rd_T52 l1_1 x15_1).f1).length c356_1, .int .i64 1] fun K hK => ?_
           with_reducible refine (impl_isTermOf.calls k1 a0_0 a0_1 _ _ ((rd_T52 l1_1 x15_1).f1) 1 true _ (Sh.cB HR356_1.out) HC356_1.out A56.out).mono ?_
           rintro e w64 ⟨rfl, hb⟩
           refine ⟨_, rfl, ?_⟩
           replace BK353 := Sh.ab BK353 hb
           replace BK354 := Sh.ab BK354 hb
           replace BK357 := Sh.ab BK357 hb
           replace HB := Sh.hb hb
           (try clear hb)
           (try clear hb2)
           (try clear hk)
           (try clear hi)
           refine Sh.kN hK Sh.cs fun hHeld => ?_
           clear hK K
           refine Sh.qA 34 ?_; refine Sh.qA 35 ?_
           refine done_ (done_of HT_.out (by kernel_rfl)) ?_
           try go_wp2
           go_roundg k1
           case measure => have := HK1.out; omega
           case rel => exact ⟨(wrap64 (x15_1 + 1)), (Sh.es), H', ⟨by have := HK1.out; omega⟩, ⟨by refine Sh.pl ?_; exact BK353.out⟩, ⟨by refine Sh.pl ?_; exact BK354.out⟩, ⟨Sh.bw⟩⟩
          ·replace c57 := Bool.eq_false_iff.mpr c57
           subst c57
           rw [Sh.nf] at H
           obtain rfl := Option.some.inj H
           have p356 : 0 ≤ (x15_1 : Int) := Sh.od
           have q356 : x15_1 < (l1_1.length : Int) := Sh.od
           obtain ⟨ad356, A356_1, c356_1, e356, hx356_0, hx356_1, hl356_1, hi356_1⟩ := at_T52 HR1_1.out x15_1 p356 q356
           cases e356
           try replace hx356_0 := Sh.cw hx356_0
           try replace hx356_1 := Sh.cw hx356_1
           have HR356_1 := am_ hi356_1
           have HC356_1 := am_ hl356_1
           clear hi356_1 hl356_1
           replace p356 := eq_true p356
           replace q356 := eq_true q356
           try go_wp2_with (first | ((with_reducible refine Sh.d 6 ?_); refine Sh.bx (N := 6) (cs := #[.int .i64 0, .slice none 0 0]) (t := 52) (h := ?_); intro gb357 hg w65 hbox hb; have BK357 := am_ hbox; have GE357 := Sh.ag w hg; replace HB := Sh.hb hb; have NB353_357 := am_ (Sh.nl hg BK353.out); have NB357_353 := am_ (Sh.ng hg BK353.out); replace BK353 := Sh.ab BK353 hb; have NB354_357 := am_ (Sh.nl hg BK354.out); have NB357_354 := am_ (Sh.ng hg BK354.out); replace BK354 := Sh.ab BK354 hb; clear hb hbox hg; have hnb66 := NB357_353.out; have hnc66 := NB353_357.out; have hnb67 := NB357_354.out; have hnc67 := NB354_357.out; obtain ⟨hcz68_0, hcz68_1, hfz68_0, hfz68_1⟩ := Sh.b2 BK357.out))
           have n0_ : Aside0 (((w65.setCell ⟨gb357, 0, none⟩ (.int .i64 ((rd_T52 l1_1 x15_1).f0))).setCell ⟨gb357, 1, none⟩ (.slice A356_1 ((rd_T52 l1_1 x15_1).f1).length c356_1)).heap[gb353]? = some (.cells #[.int .i64 a0_0, .int .i64 a0_1, .slice A0_2 l0_2.length c0_2, .slice A0_3 l0_3.length c0_3] 33 (0, 0))) := ⟨by refine Sh.pl ?_; refine blk_far ?_ NB353_357.out _; refine Sh.pl ?_; refine blk_far ?_ NB353_357.out _; refine Sh.pl ?_; exact BK353.out⟩
           have n1_ : Aside0 (((w65.setCell ⟨gb357, 0, none⟩ (.int .i64 ((rd_T52 l1_1 x15_1).f0))).setCell ⟨gb357, 1, none⟩ (.slice A356_1 ((rd_T52 l1_1 x15_1).f1).length c356_1)).heap[gb354]? = some (.cells #[.slice A1_0 l1_0.length c1_0, .slice (some ad356) l1_1.length c1_1] 50 (0, 0))) := ⟨by refine Sh.pl ?_; refine blk_far ?_ NB354_357.out _; refine Sh.pl ?_; refine blk_far ?_ NB354_357.out _; refine Sh.pl ?_; exact BK354.out⟩
           have n2_ : Aside0 (((w65.setCell ⟨gb357, 0, none⟩ (.int .i64 ((rd_T52 l1_1 x15_1).f0))).setCell ⟨gb357, 1, none⟩ (.slice A356_1 ((rd_T52 l1_1 x15_1).f1).length c356_1)).heap[gb357]? = some (.cells #[.int .i64 ((rd_T52 l1_1 x15_1).f0), .slice A356_1 ((rd_T52 l1_1 x15_1).f1).length c356_1] 52 (0, 0))) := ⟨by refine Sh.pl ?_; refine blk_put (cs := #[.int .i64 ((rd_T52 l1_1 x15_1).f0), .slice none 0 0]) ?_ 1 _ rfl; refine Sh.pl ?_; refine blk_put (cs := #[.int .i64 0, .slice none 0 0]) ?_ 0 _ rfl; refine Sh.pl ?_; exact BK357.out⟩
           have n3_ : Aside0 (Below w.heap.size w ((w65.setCell ⟨gb357, 0, none⟩ (.int .i64 ((rd_T52 l1_1 x15_1).f0))).setCell ⟨gb357, 1, none⟩ (.slice A356_1 ((rd_T52 l1_1 x15_1).f1).length c356_1))) := ⟨Sh.bw⟩
           (try clear BK353)
           (try clear BK354)
           (try clear BK357)
           (try clear HB)
           generalize ((w65.setCell ⟨gb357, 0, none⟩ (.int .i64 ((rd_T52 l1_1 x15_1).f0))).setCell ⟨gb357, 1, none⟩ (.slice A356_1 ((rd_T52 l1_1 x15_1).f1).length c356_1)) = w69 at n0_ n1_ n2_ n3_ ⊢
           have BK353 := n0_
           have BK354 := n1_
           have BK357 := n2_
           have HB := n3_
           clear n0_ n1_ n2_ n3_
           replace BK353 := am_ (blk_drew BK353.out)
           replace BK354 := am_ (blk_drew BK354.out)
           replace BK357 := am_ (blk_drew BK357.out)
           replace HB := am_ (below_drew1 HB.out)
           refine start_ (n := 36) (S := fun w' => w'.cell? ⟨gb357, 0, none⟩ = some (.int .i64 ((rd_T52 l1_1 x15_1).f0)) ∧ w'.cell? ⟨gb357, 1, none⟩ = some (.slice A356_1 ((rd_T52 l1_1 x15_1).f1).length c356_1) ∧ w'.cell? ⟨gb353, 0, none⟩ = some (.int .i64 a0_0) ∧ w'.cell? ⟨gb353, 1, none⟩ = some (.int .i64 a0_1) ∧ w'.cell? ⟨gb353, 2, none⟩ = some (.slice A0_2 l0_2.length c0_2) ∧ w'.cell? ⟨gb353, 3, none⟩ = some (.slice A0_3 l0_3.length c0_3)) (ds := []) (Sh.nm 36 0) (by kernel_rfl) rfl rfl Sh.cs (fun hHeld => ?_); refine with_tabW impl_Program_isCommand.tab6 impl_Program_isCommand.bits6 (fun HT_ HW_ => ?_)
           generalize w69.drew = w70 at BK353 BK354 BK357 HB hHeld ⊢
           refine Sh.qA 0 ?_; refine Sh.qT 1 hHeld ?_; refine Sh.qA 2 ?_; refine Sh.qA 3 ?_; refine Sh.qA 4 ?_; refine Sh.qA 6 ?_; refine Sh.qT 5 hHeld ?_; refine Sh.qT 7 hHeld ?_; refine Sh.qA 8 ?_; refine Sh.qA 9 ?_; refine Sh.qA 10 ?_; refine Sh.qA 11 ?_; refine Sh.qA 12 ?_; refine Sh.qA 13 ?_; refine Sh.qU 14 ?_; refine Sh.qU 15 ?_; refine Sh.qU 16 ?_; refine Sh.qU 17 ?_; refine Sh.qU 18 ?_; refine Sh.qU 19 ?_; refine Sh.qU 20 ?_; refine Sh.qU 21 ?_; refine Sh.qU 22 ?_; refine Sh.qU 23 ?_; refine Sh.qA 24 ?_; refine Sh.qA 25 ?_; refine Sh.qA 26 ?_; refine Sh.qA 27 ?_; refine Sh.qA 29 ?_; refine Sh.qA 31 ?_; refine Sh.qT 28 hHeld ?_; refine Sh.qT 30 hHeld ?_; refine Sh.qT 32 hHeld ?_
           refine Sh.oC 33 Try.func60 #[.int .i64 a0_0, .int .i64 a0_1, .slice A356_1 ((rd_T52 l1_1 x15_1).f1).length c356_1, .int .i64 1] fun K hK => ?_
           with_reducible refine (impl_isTermOf.calls k1 a0_0 a0_1 _ _ ((rd_T52 l1_1 x15_1).f1) 1 false _ (Sh.cB HR356_1.out) HC356_1.out A56.out).mono ?_
           rintro e w71 ⟨rfl, hb⟩
           refine ⟨_, rfl, ?_⟩
           replace BK353 := Sh.ab BK353 hb
           replace BK354 := Sh.ab BK354 hb
           replace BK357 := Sh.ab BK357 hb
           replace HB := Sh.hb hb
           (try clear hb)
           (try clear hb2)
           (try clear hk)
           (try clear hi)
           refine Sh.kN hK Sh.cs fun hHeld => ?_
           clear hK K
           refine Sh.qA 34 ?_; refine Sh.qA 35 ?_
           refine done_ (done_of HT_.out (by kernel_rfl)) ?_
           try go_wp2
           go_ret
           exact ⟨Sh.eR, Sh.bw⟩
      ·rw [if_neg c14] at H
       exact absurd H (by simp)
     ·rw [if_neg c13] at H
      exact absurd H (by simp)
    ·rw [if_neg c12] at H
     have c12b0 := decide_eq_false c12
     clear c12
     obtain rfl := Option.some.inj H
     go_wp2
     go_ret
     exact ⟨Sh.eR, Sh.bw⟩
 ·replace c4 := Bool.eq_false_iff.mpr c4
  subst c4
  rw [Sh.nf] at H
  obtain rfl := Option.some.inj H
  go_enter Try.func48, Try.ntmps48
  go_wp2_with (first | ((with_reducible refine Sh.d 2 ?_); refine Sh.bz w (N := 2) (cs := #[.int .i64 a0_0, .int .i64 a0_1, .slice A0_2 l0_2.length c0_2, .slice A0_3 l0_3.length c0_3]) (t := 33) (h := ?_); clear HB; intro gb353 w72 BK353 GE353 HB) | ((with_reducible refine Sh.d 3 ?_); refine Sh.bx (N := 3) (cs := #[.slice A1_0 l1_0.length c1_0, .slice A1_1 l1_1.length c1_1]) (t := 50) (h := ?_); intro gb354 hg w73 hbox hb; have BK354 := am_ hbox; have GE354 := Sh.ag w hg; replace HB := Sh.hb hb; have NB353_354 := am_ (Sh.nl hg BK353.out); have NB354_353 := am_ (Sh.ng hg BK353.out); replace BK353 := Sh.ab BK353 hb; clear hb hbox hg; have hnb74 := NB353_354.out; have hnc74 := NB354_353.out; obtain ⟨hcz75_0, hcz75_1, hcz75_2, hcz75_3, hfz75_0, hfz75_1, hfz75_2, hfz75_3⟩ := Sh.b4 BK353.out; obtain ⟨hcz76_0, hcz76_1, hfz76_0, hfz76_1⟩ := Sh.b2 BK354.out) | ((with_reducible refine Sh.k 45 ?_); refine Sh.gB (some 10) Try.func45 #[.agg #[.int .i64 a0_0, .int .i64 a0_1, .slice A0_2 l0_2.length c0_2, .slice A0_3 l0_3.length c0_3], .slice A1_0 l1_0.length c1_0] (impl_Program_isCondition.calls k a0_0 a0_1 _ _ l0_2 _ _ l0_3 _ _ l1_0 false _ (Sh.cB HR0_2.out) HC0_2.out (Sh.cB HR0_3.out) HC0_3.out (Sh.cB HR1_0.out) HC1_0.out A3.out) fun w77 hb => ?_; replace BK353 := Sh.ab BK353 hb; replace BK354 := Sh.ab BK354 hb; replace HB := Sh.hb hb; (try clear hb); (try clear hb2); (try clear hk); (try clear hi)))
  go_ret
  exact ⟨Sh.eR, Sh.bw⟩
def impl_GoodProgram_1.f (k : Nat) (l0_0 : List (S73)) (l0_1 : List (S52)) (a1_0 : Int) (a1_1 : Int) (l1_2 : List (S73)) (l1_3 : List (S50)) : Option (Bool) := (impl_Program_isCommand.f k a1_0 a1_1 l1_2 l1_3 l0_0 l0_1).bind fun t362 => (some (!t362))
theorem impl_GoodProgram_1.mono : ∀ a0 a1 a2 a3 a4 a5 k, LeO (impl_GoodProgram_1.f k a0 a1 a2 a3 a4 a5) (impl_GoodProgram_1.f (k + 1) a0 a1 a2 a3 a4 a5) := by
 intro a0 a1 a2 a3 a4 a5 k
 unfold impl_GoodProgram_1.f
 repeat' with_reducible first | apply impl_Program_isCommand.mono | exact LeO.refl _ | exact LeO.none _ | apply LeO.ite | refine LeO.bind ?_ fun _ => ?_
theorem impl_GoodProgram_1.calls (k : Nat) (A0_0 : Option Addr) (c0_0 : Nat) (l0_0 : List (S73)) (A0_1 : Option Addr) (c0_1 : Nat) (l0_1 : List (S52)) (bp1 : Nat) (a1_0 : Int) (a1_1 : Int) (A1_2 : Option Addr) (c1_2 : Nat) (l1_2 : List (S73)) (A1_3 : Option Addr) (c1_3 : Nat) (l1_3 : List (S50)) (r : Bool) (w : World) (hr0_0 : Kd.C k73 w A0_0 l0_0.length l0_0) (hc0_0 : l0_0.length ≤ c0_0) (hr0_1 : Kd.C k52 w A0_1 l0_1.length l0_1) (hc0_1 : l0_1.length ≤ c0_1) (hr1_2 : Kd.C k73 w A1_2 l1_2.length l1_2) (hc1_2 : l1_2.length ≤ c1_2) (hr1_3 : Kd.C k50 w A1_3 l1_3.length l1_3) (hc1_3 : l1_3.length ≤ c1_3) (hb1 : w.heap[bp1]? = some (.cells #[.int .i64 a1_0, .int .i64 a1_1, .slice A1_2 l1_2.length c1_2, .slice A1_3 l1_3.length c1_3] 33 (0, 0))) (h : impl_GoodProgram_1.f k l0_0 l0_1 a1_0 a1_1 l1_2 l1_3 = some r) :
  Calls Try.prog 47 #[.agg #[.slice A0_0 l0_0.length c0_0, .slice A0_1 l0_1.length c0_1], .pointer (some ⟨bp1, 0, none⟩)] w fun e w' => e = .returned (.bool r) ∧ Below w.heap.size w w' := by
 have hu50 := Try.underlying50
 have hu33 := Try.underlying33
 have HR0_0 := am_ hr0_0
 have HC0_0 := am_ hc0_0
 clear hr0_0 hc0_0
 have HR0_1 := am_ hr0_1
 have HC0_1 := am_ hc0_1
 clear hr0_1 hc0_1
 have HR1_2 := am_ hr1_2
 have HC1_2 := am_ hc1_2
 clear hr1_2 hc1_2
 have HR1_3 := am_ hr1_3
 have HC1_3 := am_ hc1_3
 clear hr1_3 hc1_3
 have HX1 := am_ hb1
 clear hb1
 have HB := am_ (Below.refl w.heap.size w)
 have H := h
 clear h
 unfold impl_GoodProgram_1.f at H
 obtain ⟨t362, A3, H⟩ := Sh.ba H
 obtain rfl := Option.some.inj H
 go_enter Try.func47, Try.ntmps47
 go_wp2_with (first | ((with_reducible refine Sh.d 2 ?_); refine Sh.bx (N := 2) (cs := #[.slice A0_0 l0_0.length c0_0, .slice A0_1 l0_1.length c0_1]) (t := 50) (h := ?_); intro gb361 hg w4 hbox hb; have BK361 := am_ hbox; have GE361 := Sh.ag w hg; replace HB := Sh.hb hb; have NB1_361 := am_ ((by rw [hg]; exact Nat.ne_of_lt (blk_lt (g := bp1) (o := .cells #[.int .i64 a1_0, .int .i64 a1_1, .slice A1_2 l1_2.length c1_2, .slice A1_3 l1_3.length c1_3] 33 (0, 0)) (Sh.pl HX1.out)) : bp1 ≠ gb361)); have NB361_1 := am_ ((by rw [hg]; exact Nat.ne_of_gt (blk_lt (g := bp1) (o := .cells #[.int .i64 a1_0, .int .i64 a1_1, .slice A1_2 l1_2.length c1_2, .slice A1_3 l1_3.length c1_3] 33 (0, 0)) (Sh.pl HX1.out)) : gb361 ≠ bp1)); replace HX1 := am_ (blk_below (g := bp1) (o := .cells #[.int .i64 a1_0, .int .i64 a1_1, .slice A1_2 l1_2.length c1_2, .slice A1_3 l1_3.length c1_3] 33 (0, 0)) (Sh.pl HX1.out) hb); clear hb hbox hg; have hnb5 := NB1_361.out; have hnc5 := NB361_1.out; have hcz6_0 : w4.cell? ⟨bp1, 0, none⟩ = some (.int .i64 a1_0) := (blk_cell HX1.out 0).trans rfl; have hcz6_1 : w4.cell? ⟨bp1, 1, none⟩ = some (.int .i64 a1_1) := (blk_cell HX1.out 1).trans rfl; have hcz6_2 : w4.cell? ⟨bp1, 2, none⟩ = some (.slice A1_2 l1_2.length c1_2) := (blk_cell HX1.out 2).trans rfl; have hcz6_3 : w4.cell? ⟨bp1, 3, none⟩ = some (.slice A1_3 l1_3.length c1_3) := (blk_cell HX1.out 3).trans rfl; have hfz6_0 := blk_frozen HX1.out 0; have hfz6_1 := blk_frozen HX1.out 1; have hfz6_2 := blk_frozen HX1.out 2; have hfz6_3 := blk_frozen HX1.out 3; obtain ⟨hcz7_0, hcz7_1, hfz7_0, hfz7_1⟩ := Sh.b2 BK361.out) | ((with_reducible refine Sh.k 48 ?_); refine Sh.gB (some 6) Try.func48 #[.agg #[.int .i64 a1_0, .int .i64 a1_1, .slice A1_2 l1_2.length c1_2, .slice A1_3 l1_3.length c1_3], .agg #[.slice A0_0 l0_0.length c0_0, .slice A0_1 l0_1.length c0_1]] (impl_Program_isCommand.calls k a1_0 a1_1 _ _ l1_2 _ _ l1_3 _ _ l0_0 _ _ l0_1 t362 _ (Sh.cB HR1_2.out) HC1_2.out (Sh.cB HR1_3.out) HC1_3.out (Sh.cB HR0_0.out) HC0_0.out (Sh.cB HR0_1.out) HC0_1.out A3.out) fun w8 hb => ?_; replace HX1 := am_ (blk_below (g := bp1) (o := .cells #[.int .i64 a1_0, .int .i64 a1_1, .slice A1_2 l1_2.length c1_2, .slice A1_3 l1_3.length c1_3] 33 (0, 0)) (Sh.pl HX1.out) hb); replace BK361 := Sh.ab BK361 hb; replace HB := Sh.hb hb; (try clear hb); (try clear hb2); (try clear hk); (try clear hi)))
 go_ret
 exact ⟨Sh.eR, Sh.bw⟩
def impl_Command_46_by_impl_GoodProgram_1.f (k : Nat) (l0 : List (S50)) (a1_0 : Int) (a1_1 : Int) (l1_2 : List (S73)) (l1_3 : List (S50)) : Option (Bool) := anyO (fun x_ => impl_GoodProgram_1.f k x_.f0 x_.f1 a1_0 a1_1 l1_2 l1_3) l0
theorem impl_Command_46_by_impl_GoodProgram_1.mono : ∀ a0 a1 a2 a3 a4 k, LeO (impl_Command_46_by_impl_GoodProgram_1.f k a0 a1 a2 a3 a4) (impl_Command_46_by_impl_GoodProgram_1.f (k + 1) a0 a1 a2 a3 a4) := by
 intro a0 a1 a2 a3 a4 k
 unfold impl_Command_46_by_impl_GoodProgram_1.f
 with_reducible exact anyO_mono (fun x_ => impl_GoodProgram_1.mono (S50.f0 x_) (S50.f1 x_) a1 a2 a3 a4 k) a0
theorem impl_Command_46_by_impl_GoodProgram_1.calls (k : Nat) (A0 : Option Addr) (c0 : Nat) (l0 : List (S50)) (bp1 : Nat) (a1_0 : Int) (a1_1 : Int) (A1_2 : Option Addr) (c1_2 : Nat) (l1_2 : List (S73)) (A1_3 : Option Addr) (c1_3 : Nat) (l1_3 : List (S50)) (r : Bool) (w : World) (hr0 : Kd.C k50 w A0 l0.length l0) (hc0 : l0.length ≤ c0) (hr1_2 : Kd.C k73 w A1_2 l1_2.length l1_2) (hc1_2 : l1_2.length ≤ c1_2) (hr1_3 : Kd.C k50 w A1_3 l1_3.length l1_3) (hc1_3 : l1_3.length ≤ c1_3) (hb1 : w.heap[bp1]? = some (.cells #[.int .i64 a1_0, .int .i64 a1_1, .slice A1_2 l1_2.length c1_2, .slice A1_3 l1_3.length c1_3] 33 (0, 0))) (h : impl_Command_46_by_impl_GoodProgram_1.f k l0 a1_0 a1_1 l1_2 l1_3 = some r) :
  Calls Try.prog 46 #[.slice A0 l0.length c0, .func (.func 47) #[] #[.pointer (some ⟨bp1, 0, none⟩)]] w fun e w' => e = .returned (.bool r) ∧ Below w.heap.size w w' := by
 refine impl_Command_46.gen 47 #[.pointer (some ⟨bp1, 0, none⟩)] (enters_of Try.func47 (by kernel_rfl) rfl) _ A0 c0 l0 r w hr0 hc0 ?_ h
 intro W x b A0 c0 A1 c1 hB_ hin_ hq_ hl0_ hC0_ hl1_ hC1_
 refine (impl_GoodProgram_1.calls k _ _ x.f0 _ _ x.f1 bp1 a1_0 a1_1 _ _ l1_2 _ _ l1_3 b W hC0_ hl0_ hC1_ hl1_ (Kd.C_below hr1_2 hB_) hc1_2 (Kd.C_below hr1_3 hB_) hc1_3 ((hB_.block _ (blk_lt hb1)).trans hb1) hq_).mono ?_
 rintro e w' ⟨rfl, hd_⟩
 exact ⟨rfl, hd_⟩
def impl_GoodProgram.f (k : Nat) (a0_0 : Int) (a0_1 : Int) (l0_2 : List (S73)) (l0_3 : List (S50)) : Option (Bool) := (impl_isWide.f a0_0).bind fun t364 => (if t364 = true then ((impl_isVars.f a0_1).bind fun t365 => (if t365 = true then ((impl_Program_isCondition.f k a0_0 a0_1 l0_2 l0_3 l0_2).bind fun t366 => (if t366 = true then (if (l0_3.length : Int) < 1 then (some false) else (if (l0_3.length : Int) > 6 then (some false) else ((impl_Command_46_by_impl_GoodProgram_1.f k l0_3 a0_0 a0_1 l0_2 l0_3).bind fun t367 => (some (!t367))))) else (some false))) else (some false))) else (some false))
theorem impl_GoodProgram.mono : ∀ a0 a1 a2 a3 k, LeO (impl_GoodProgram.f k a0 a1 a2 a3) (impl_GoodProgram.f (k + 1) a0 a1 a2 a3) := by
 intro a0 a1 a2 a3 k
 unfold impl_GoodProgram.f
 repeat' with_reducible first | apply impl_Command_46_by_impl_GoodProgram_1.mono | apply impl_Program_isCondition.mono | exact LeO.refl _ | exact LeO.none _ | apply LeO.ite | refine LeO.bind ?_ fun _ => ?_
theorem impl_GoodProgram.calls (k : Nat) (a0_0 : Int) (a0_1 : Int) (A0_2 : Option Addr) (c0_2 : Nat) (l0_2 : List (S73)) (A0_3 : Option Addr) (c0_3 : Nat) (l0_3 : List (S50)) (r : Bool) (w : World) (hr0_2 : Kd.C k73 w A0_2 l0_2.length l0_2) (hc0_2 : l0_2.length ≤ c0_2) (hr0_3 : Kd.C k50 w A0_3 l0_3.length l0_3) (hc0_3 : l0_3.length ≤ c0_3) (h : impl_GoodProgram.f k a0_0 a0_1 l0_2 l0_3 = some r) :
  Calls Try.prog 24 #[.agg #[.int .i64 a0_0, .int .i64 a0_1, .slice A0_2 l0_2.length c0_2, .slice A0_3 l0_3.length c0_3]] w fun e w' => e = .returned (.bool r) ∧ Below w.heap.size w w' := by
 have hu33 := Try.underlying33
 have HR0_2 := am_ hr0_2
 have HC0_2 := am_ hc0_2
 clear hr0_2 hc0_2
 have HR0_3 := am_ hr0_3
 have HC0_3 := am_ hc0_3
 clear hr0_3 hc0_3
 have HB := am_ (Below.refl w.heap.size w)
 have H := h
 clear h
 unfold impl_GoodProgram.f at H
 obtain ⟨t364, A2, H⟩ := Sh.ba H
 by_cases c3 : t364 = true
 ·subst c3
  rw [if_pos rfl] at H
  obtain ⟨t365, A4, H⟩ := Sh.ba H
  by_cases c5 : t365 = true
  ·subst c5
   rw [if_pos rfl] at H
   obtain ⟨t366, A6, H⟩ := Sh.ba H
   by_cases c7 : t366 = true
   ·subst c7
    rw [if_pos rfl] at H
    by_cases c8 : (l0_3.length : Int) < 1
    ·rw [if_pos c8] at H
     have c8b0 := decide_eq_true c8
     have c8b1 : decide (l0_3.length < 1) = true := decide_eq_true (by omega)
     clear c8
     obtain rfl := Option.some.inj H
     go_enter Try.func24, Try.ntmps24
     go_wp2_with (first | ((with_reducible refine Sh.d 1 ?_); (try (refine gate_guard (by rfl) ?_; dsimp only)); refine Sh.bz w (N := 1) (cs := #[.int .i64 a0_0, .int .i64 a0_1, .slice A0_2 l0_2.length c0_2, .slice A0_3 l0_3.length c0_3]) (t := 33) (h := ?_); clear HB; intro gb363 w9 BK363 GE363 HB; obtain ⟨hcz10_0, hcz10_1, hcz10_2, hcz10_3, hfz10_0, hfz10_1, hfz10_2, hfz10_3⟩ := Sh.b4 BK363.out) | ((with_reducible refine Sh.k 43 ?_); refine Sh.gD (some 5) Try.func43 #[.int .i64 a0_0] (impl_isWide.calls a0_0 true _ A2.out) fun nd => ?_) | (go_at_call 44; (with_reducible refine (impl_isVars.calls a0_1 true _ A4.out).mono ?_); rintro e w' ⟨rfl, ⟨nd, rfl⟩⟩) | (go_at_call 45; (with_reducible refine (impl_Program_isCondition.calls k a0_0 a0_1 _ _ l0_2 _ _ l0_3 _ _ l0_2 true _ (Sh.cB HR0_2.out) HC0_2.out (Sh.cB HR0_3.out) HC0_3.out (Sh.cB HR0_2.out) HC0_2.out A6.out).mono ?_); rintro e w11 ⟨rfl, hb⟩; replace BK363 := Sh.ab BK363 hb; replace HB := Sh.hb hb; (try clear hb); (try clear hb2); (try clear hk); (try clear hi); obtain ⟨hcz12_0, hcz12_1, hcz12_2, hcz12_3, hfz12_0, hfz12_1, hfz12_2, hfz12_3⟩ := Sh.b4 BK363.out))
     go_ret
     exact ⟨Sh.eR, Sh.bw⟩
    ·rw [if_neg c8] at H
     have c8b0 := decide_eq_false c8
     have c8b1 : decide (l0_3.length < 1) = false := decide_eq_false (by omega)
     clear c8
     by_cases c13 : (l0_3.length : Int) > 6
     ·rw [if_pos c13] at H
      have c13b0 : decide (6 < (l0_3.length : Int)) = true := decide_eq_true c13
      have c13b1 : decide (6 < l0_3.length) = true := decide_eq_true (by omega)
      clear c13
      obtain rfl := Option.some.inj H
      go_enter Try.func24, Try.ntmps24
      go_wp2_with (first | ((with_reducible refine Sh.d 1 ?_); (try (refine gate_guard (by rfl) ?_; dsimp only)); refine Sh.bz w (N := 1) (cs := #[.int .i64 a0_0, .int .i64 a0_1, .slice A0_2 l0_2.length c0_2, .slice A0_3 l0_3.length c0_3]) (t := 33) (h := ?_); clear HB; intro gb363 w14 BK363 GE363 HB; obtain ⟨hcz15_0, hcz15_1, hcz15_2, hcz15_3, hfz15_0, hfz15_1, hfz15_2, hfz15_3⟩ := Sh.b4 BK363.out) | ((with_reducible refine Sh.k 43 ?_); refine Sh.gD (some 5) Try.func43 #[.int .i64 a0_0] (impl_isWide.calls a0_0 true _ A2.out) fun nd => ?_) | (go_at_call 44; (with_reducible refine (impl_isVars.calls a0_1 true _ A4.out).mono ?_); rintro e w' ⟨rfl, ⟨nd, rfl⟩⟩) | (go_at_call 45; (with_reducible refine (impl_Program_isCondition.calls k a0_0 a0_1 _ _ l0_2 _ _ l0_3 _ _ l0_2 true _ (Sh.cB HR0_2.out) HC0_2.out (Sh.cB HR0_3.out) HC0_3.out (Sh.cB HR0_2.out) HC0_2.out A6.out).mono ?_); rintro e w16 ⟨rfl, hb⟩; replace BK363 := Sh.ab BK363 hb; replace HB := Sh.hb hb; (try clear hb); (try clear hb2); (try clear hk); (try clear hi); obtain ⟨hcz17_0, hcz17_1, hcz17_2, hcz17_3, hfz17_0, hfz17_1, hfz17_2, hfz17_3⟩ := Sh.b4 BK363.out))
      go_ret
      exact ⟨Sh.eR, Sh.bw⟩
     ·rw [if_neg c13] at H
      have c13b0 : decide (6 < (l0_3.length : Int)) = false := decide_eq_false c13
      have c13b1 : decide (6 < l0_3.length) = false := decide_eq_false (by omega)
      clear c13
      obtain ⟨t367, A18, H⟩ := Sh.ba H
      obtain rfl := Option.some.inj H
      go_enter Try.func24, Try.ntmps24
      go_wp2_with (first | ((with_reducible refine Sh.d 1 ?_); (try (refine gate_guard (by rfl) ?_; dsimp only)); refine Sh.bz w (N := 1) (cs := #[.int .i64 a0_0, .int .i64 a0_1, .slice A0_2 l0_2.length c0_2, .slice A0_3 l0_3.length c0_3]) (t := 33) (h := ?_); clear HB; intro gb363 w19 BK363 GE363 HB; obtain ⟨hcz20_0, hcz20_1, hcz20_2, hcz20_3, hfz20_0, hfz20_1, hfz20_2, hfz20_3⟩ := Sh.b4 BK363.out) | ((with_reducible refine Sh.k 43 ?_); refine Sh.gD (some 5) Try.func43 #[.int .i64 a0_0] (impl_isWide.calls a0_0 true _ A2.out) fun nd => ?_) | (go_at_call 44; (with_reducible refine (impl_isVars.calls a0_1 true _ A4.out).mono ?_); rintro e w' ⟨rfl, ⟨nd, rfl⟩⟩) | (go_at_call 45; (with_reducible refine (impl_Program_isCondition.calls k a0_0 a0_1 _ _ l0_2 _ _ l0_3 _ _ l0_2 true _ (Sh.cB HR0_2.out) HC0_2.out (Sh.cB HR0_3.out) HC0_3.out (Sh.cB HR0_2.out) HC0_2.out A6.out).mono ?_); rintro e w21 ⟨rfl, hb⟩; replace BK363 := Sh.ab BK363 hb; replace HB := Sh.hb hb; (try clear hb); (try clear hb2); (try clear hk); (try clear hi); obtain ⟨hcz22_0, hcz22_1, hcz22_2, hcz22_3, hfz22_0, hfz22_1, hfz22_2, hfz22_3⟩ := Sh.b4 BK363.out) | ((with_reducible refine Sh.k 46 ?_); refine Sh.gL (some 35) Try.func46 #[.slice A0_3 l0_3.length c0_3, .func (.func 47) #[] #[.pointer (some ⟨gb363, 0, none⟩)]] (h := ?_); (with_reducible refine (impl_Command_46_by_impl_GoodProgram_1.calls k _ _ l0_3 gb363 a0_0 a0_1 A0_2 c0_2 l0_2 A0_3 c0_3 l0_3 t367 _ (Sh.cB HR0_3.out) HC0_3.out (Sh.cB HR0_2.out) HC0_2.out (Sh.cB HR0_3.out) HC0_3.out ?side7 A18.out).mono ?_); (case side7 => refine Sh.pl ?_; exact BK363.out); rintro e w23 ⟨rfl, hb⟩; refine ⟨_, rfl, ?_⟩; replace BK363 := Sh.ab BK363 hb; replace HB := Sh.hb hb; (try clear hb); (try clear hb2); (try clear hk); (try clear hi)))
      go_ret
      exact ⟨Sh.eR, Sh.bw⟩
   ·replace c7 := Bool.eq_false_iff.mpr c7
    subst c7
    rw [Sh.nf] at H
    obtain rfl := Option.some.inj H
    go_enter Try.func24, Try.ntmps24
    go_wp2_with (first | ((with_reducible refine Sh.d 1 ?_); (try (refine gate_guard (by rfl) ?_; dsimp only)); refine Sh.bz w (N := 1) (cs := #[.int .i64 a0_0, .int .i64 a0_1, .slice A0_2 l0_2.length c0_2, .slice A0_3 l0_3.length c0_3]) (t := 33) (h := ?_); clear HB; intro gb363 w24 BK363 GE363 HB; obtain ⟨hcz25_0, hcz25_1, hcz25_2, hcz25_3, hfz25_0, hfz25_1, hfz25_2, hfz25_3⟩ := Sh.b4 BK363.out) | ((with_reducible refine Sh.k 43 ?_); refine Sh.gD (some 5) Try.func43 #[.int .i64 a0_0] (impl_isWide.calls a0_0 true _ A2.out) fun nd => ?_) | (go_at_call 44; (with_reducible refine (impl_isVars.calls a0_1 true _ A4.out).mono ?_); rintro e w' ⟨rfl, ⟨nd, rfl⟩⟩) | (go_at_call 45; (with_reducible refine (impl_Program_isCondition.calls k a0_0 a0_1 _ _ l0_2 _ _ l0_3 _ _ l0_2 false _ (Sh.cB HR0_2.out) HC0_2.out (Sh.cB HR0_3.out) HC0_3.out (Sh.cB HR0_2.out) HC0_2.out A6.out).mono ?_); rintro e w26 ⟨rfl, hb⟩; replace BK363 := Sh.ab BK363 hb; replace HB := Sh.hb hb; (try clear hb); (try clear hb2); (try clear hk); (try clear hi)))
    go_ret
    exact ⟨Sh.eR, Sh.bw⟩
  ·replace c5 := Bool.eq_false_iff.mpr c5
   subst c5
   rw [Sh.nf] at H
   obtain rfl := Option.some.inj H
   go_enter Try.func24, Try.ntmps24
   go_wp2_with (first | ((with_reducible refine Sh.d 1 ?_); (try (refine gate_guard (by rfl) ?_; dsimp only)); refine Sh.bz w (N := 1) (cs := #[.int .i64 a0_0, .int .i64 a0_1, .slice A0_2 l0_2.length c0_2, .slice A0_3 l0_3.length c0_3]) (t := 33) (h := ?_); clear HB; intro gb363 w27 BK363 GE363 HB; obtain ⟨hcz28_0, hcz28_1, hcz28_2, hcz28_3, hfz28_0, hfz28_1, hfz28_2, hfz28_3⟩ := Sh.b4 BK363.out) | ((with_reducible refine Sh.k 43 ?_); refine Sh.gD (some 5) Try.func43 #[.int .i64 a0_0] (impl_isWide.calls a0_0 true _ A2.out) fun nd => ?_) | (go_at_call 44; (with_reducible refine (impl_isVars.calls a0_1 false _ A4.out).mono ?_); rintro e w' ⟨rfl, ⟨nd, rfl⟩⟩))
   go_ret
   exact ⟨Sh.eR, Sh.bw⟩
 ·replace c3 := Bool.eq_false_iff.mpr c3
  subst c3
  rw [Sh.nf] at H
  obtain rfl := Option.some.inj H
  go_enter Try.func24, Try.ntmps24
  go_wp2_with (first | ((with_reducible refine Sh.d 1 ?_); (try (refine gate_guard (by rfl) ?_; dsimp only)); refine Sh.bz w (N := 1) (cs := #[.int .i64 a0_0, .int .i64 a0_1, .slice A0_2 l0_2.length c0_2, .slice A0_3 l0_3.length c0_3]) (t := 33) (h := ?_); clear HB; intro gb363 w29 BK363 GE363 HB; obtain ⟨hcz30_0, hcz30_1, hcz30_2, hcz30_3, hfz30_0, hfz30_1, hfz30_2, hfz30_3⟩ := Sh.b4 BK363.out) | ((with_reducible refine Sh.k 43 ?_); refine Sh.gD (some 5) Try.func43 #[.int .i64 a0_0] (impl_isWide.calls a0_0 false _ A2.out) fun nd => ?_))
  go_ret
  exact ⟨Sh.eR, Sh.bw⟩
def impl_Program_isCommandNo.f (a0_0 : Int) (a0_1 : Int) (l0_2 : List (S73)) (l0_3 : List (S50)) (a1 : Int) : Option (Bool) := if a1 ≥ 0 then (some (decide (a1 < (l0_3.length : Int)))) else (some false)
theorem impl_Program_isCommandNo.calls (a0_0 : Int) (a0_1 : Int) (A0_2 : Option Addr) (c0_2 : Nat) (l0_2 : List (S73)) (A0_3 : Option Addr) (c0_3 : Nat) (l0_3 : List (S50)) (a1 : Int) (r : Bool) (w : World) (hr0_2 : Kd.C k73 w A0_2 l0_2.length l0_2) (hc0_2 : l0_2.length ≤ c0_2) (hr0_3 : Kd.C k50 w A0_3 l0_3.length l0_3) (hc0_3 : l0_3.length ≤ c0_3) (h : impl_Program_isCommandNo.f a0_0 a0_1 l0_2 l0_3 a1 = some r) :
  Calls Try.prog 25 #[.agg #[.int .i64 a0_0, .int .i64 a0_1, .slice A0_2 l0_2.length c0_2, .slice A0_3 l0_3.length c0_3], .int .i64 a1] w fun e w' => e = .returned (.bool r) ∧ Below w.heap.size w w' := by
 have hu33 := Try.underlying33
 have HR0_2 := am_ hr0_2
 have HC0_2 := am_ hc0_2
 clear hr0_2 hc0_2
 have HR0_3 := am_ hr0_3
 have HC0_3 := am_ hc0_3
 clear hr0_3 hc0_3
 have HB := am_ (Below.refl w.heap.size w)
 have H := h
 clear h
 unfold impl_Program_isCommandNo.f at H
 by_cases c3 : a1 ≥ 0
 ·rw [if_pos c3] at H
  have c3b0 : decide (0 ≤ a1) = true := decide_eq_true c3
  clear c3
  obtain rfl := Option.some.inj H
  go_enter Try.func25, Try.ntmps25
  go_wp2_with (first | ((with_reducible refine Sh.d 2 ?_); (try (refine gate_guard (by rfl) ?_; dsimp only)); refine Sh.bz w (N := 2) (cs := #[.int .i64 a0_0, .int .i64 a0_1, .slice A0_2 l0_2.length c0_2, .slice A0_3 l0_3.length c0_3]) (t := 33) (h := ?_); clear HB; intro gb368 w4 BK368 GE368 HB; obtain ⟨hcz5_0, hcz5_1, hcz5_2, hcz5_3, hfz5_0, hfz5_1, hfz5_2, hfz5_3⟩ := Sh.b4 BK368.out))
  go_ret
  exact ⟨Sh.eR, Sh.bw⟩
 ·rw [if_neg c3] at H
  have c3b0 : decide (0 ≤ a1) = false := decide_eq_false c3
  clear c3
  obtain rfl := Option.some.inj H
  go_enter Try.func25, Try.ntmps25
  go_wp2_with (first | ((with_reducible refine Sh.d 2 ?_); (try (refine gate_guard (by rfl) ?_; dsimp only)); refine Sh.bz w (N := 2) (cs := #[.int .i64 a0_0, .int .i64 a0_1, .slice A0_2 l0_2.length c0_2, .slice A0_3 l0_3.length c0_3]) (t := 33) (h := ?_); clear HB; intro gb368 w6 BK368 GE368 HB))
  go_ret
  exact ⟨Sh.eR, Sh.bw⟩
def slices_Sort_int_int.f (l0 : List Int) : Option (List Int) := if l0.length < 4611686018427387904 then some (l0.mergeSort fun x y => decide (x ≤ y)) else none
theorem slices_Sort_int_int.calls (P0_ : Nat → Prop) (u9000_ : Value) (l0 : List Int) (r1 : List Int) (w0 w : World) (hB : Below w0.heap.size w0 w) (ho0 : Kd.R (Kd.int .i64) 3 w w0.heap.size P0_ u9000_ l0) (h : slices_Sort_int_int.f l0 = some r1) :
  Calls Try.prog 27 #[u9000_] w fun e w' => e = .returned (.tuple #[]) ∧ Kd.R (Kd.int .i64) 3 w' w0.heap.size (fun k_ => (P0_ k_ ∨ w.heap.size ≤ k_)) u9000_ r1 ∧ Below w0.heap.size w0 w' ∧ Kept w w' (fun k_ => P0_ k_) := by
 have hl : l0.length < 4611686018427387904 := by
  rcases Nat.lt_or_ge l0.length 4611686018427387904 with h1 | h1
  ·exact h1
  ·rw [slices_Sort_int_int.f, if_neg (by omega)] at h; cases h
 rw [slices_Sort_int_int.f, if_pos hl] at h
 obtain rfl := Option.some.inj h
 have hok := ho0.1
 obtain ⟨hlen, ⟨rfl, hz⟩ | ⟨g, cap, cur, rfl, hbase, hb, h1, h2, h3, h4⟩⟩ := Kd.own_of_R ho0
 ·have hn : l0 = [] := List.length_eq_zero_iff.1 hz
  subst hn
  refine (Try.slices_Sort_int_none none 0 w).mono ?_
  rintro e w' ⟨rfl, rfl⟩
  exact ⟨rfl, by rw [List.mergeSort_nil]; exact Kd.R_nil _ _ _ _ _, hB, Kept.refl _ _⟩
 ·have ht : cur.toList.take l0.length = l0.map (Value.int .i64) := by rw [Nat.mul_one] at h4; exact h4
  have hl2 : (l0.mergeSort fun x y => decide (x ≤ y)).length = l0.length := List.length_mergeSort l0
  refine (Try.slices_Sort_int g 0 cap l0 w (holds_of_blockI hb ht) (blk_lt hb) hl).mono ?_
  rintro e w' ⟨rfl, n, os, rfl⟩
  have hs := ownsRow_sortedI (n := n) (os := os) (ts := l0.mergeSort fun x y => decide (x ≤ y)) hl2 hbase hb h1 h2 h3
  have hg := grownBy_sortedI (w := w) (g := g) (n := n) (os := os) (l0.mergeSort fun x y => decide (x ≤ y)).toArray
  refine ⟨rfl, Kd.R_of_own (h1 := fun _ => rfl) ?_ (fun k hk => .inl (hok k hk)), hB.grown hg hB.size (fun j hj => by cases hj; exact hbase), Kept.of_grown (S := fun k_ => P0_ k_) hg (Kept.refl _ _) (fun k e_ => .inl (hok k e_))⟩
  rw [hl2]
  exact hs
def slices_Compact_int_int.f (l0 : List Int) : Option (List Int) := if l0.length < 4611686018427387904 then some (Go.Lib.compact l0) else none
theorem slices_Compact_int_int.calls (P0_ : Nat → Prop) (u9000_ : Value) (l0 : List Int) (r1 : List Int) (w0 w : World) (hB : Below w0.heap.size w0 w) (ho0 : Kd.R (Kd.int .i64) 3 w w0.heap.size P0_ u9000_ l0) (h : slices_Compact_int_int.f l0 = some r1) :
  Calls Try.prog 28 #[u9000_] w fun e w' => ∃ v0_ : Value, e = .returned (v0_) ∧ Kd.R (Kd.int .i64) 3 w' w0.heap.size (fun k_ => (P0_ k_ ∨ w.heap.size ≤ k_)) v0_ r1 ∧ Below w0.heap.size w0 w' ∧ Kept w w' (fun k_ => P0_ k_) := by
 have hl : l0.length < 4611686018427387904 := by
  rcases Nat.lt_or_ge l0.length 4611686018427387904 with h1 | h1
  ·exact h1
  ·rw [slices_Compact_int_int.f, if_neg (by omega)] at h; cases h
 rw [slices_Compact_int_int.f, if_pos hl] at h
 obtain rfl := Option.some.inj h
 have hok := ho0.1
 have hown := Kd.own_of_R ho0
 obtain ⟨hlen, ⟨rfl, hz⟩ | ⟨g, cap, cur, rfl, hbase, hb, h1, h2, h3, h4⟩⟩ := hown
 ·have hn : l0 = [] := List.length_eq_zero_iff.1 hz
  subst hn
  refine (Try.slices_Compact_int_empty none 0 w).mono ?_
  rintro e w' ⟨rfl, rfl⟩
  exact ⟨_, rfl, Kd.R_nil _ _ _ _ _, hB, Kept.refl _ _⟩
 ·have ht : cur.toList.take l0.length = l0.map (Value.int .i64) := by rw [Nat.mul_one] at h4; exact h4
  have hle := Go.Lib.compact_length_le l0
  have hown := Kd.own_of_R ho0
  refine (Try.slices_Compact_int g 0 cap l0 w (holds_of_blockI hb ht) (by omega) h1).mono ?_
  rintro e w' ⟨rfl, q, rfl⟩
  have hc := Go.Lib.ownsRow_putRow (enc := Value.int .i64) (q := q) (k := (Go.Lib.compact l0).length) (ys := Go.Lib.compact l0 ++ List.replicate (l0.length - (Go.Lib.compact l0).length) 0) hown (by simp; omega) (by omega)
  rw [List.take_left] at hc
  have hg : w.grownBy (Go.Sort.putRow (Value.int .i64) (Go.Sort.ahead w q) g 0 (Go.Lib.compact l0 ++ List.replicate (l0.length - (Go.Lib.compact l0).length) 0).toArray) (some g) := by
   have := grownBy_sortedI (w := w) (g := g) (n := q) (os := #[]) (Go.Lib.compact l0 ++ List.replicate (l0.length - (Go.Lib.compact l0).length) 0).toArray
   rwa [Go.Sort.grow_empty] at this
  exact ⟨_, rfl, Kd.R_of_own (h1 := fun _ => rfl) hc (fun k hk => .inl (hok k hk)), Go.Lib.below_putRow hB hbase, Kept.of_grown (S := fun k_ => P0_ k_) hg (Kept.refl _ _) (fun k e_ => .inl (hok k e_))⟩
def impl_varsIn.l0 : Nat → List Int → List (S73) → Int → Int → Option (List Int)
 | 0, _, _, _, _ => none
 | k + 1, x3, x7, x8, x9 => if x9 < x8 then (if 0 ≤ x9 then (if x9 < (x7.length : Int) then (if ((rd_T73 x7 x9).f0) = 2 then (if x3.length < 17592186044416 then (impl_varsIn.l0 k (x3 ++ [wrap64 ((rd_T73 x7 x9).f1)]) x7 x8 (wrap64 (x9 + 1))) else (none)) else (impl_varsIn.l0 k x3 x7 x8 (wrap64 (x9 + 1)))) else (none)) else (none)) else ((slices_Sort_int_int.f x3).bind fun t499 => ((slices_Compact_int_int.f t499).bind fun t500 => (some t500)))
def impl_varsIn.f (k : Nat) (l0 : List (S73)) : Option (List Int) := impl_varsIn.l0 k (([] : List Int)) l0 (l0.length : Int) 0
theorem impl_varsIn.mono_l : ∀ k, (∀ y0 y1 y2 y3, LeO (impl_varsIn.l0 k y0 y1 y2 y3) (impl_varsIn.l0 (k + 1) y0 y1 y2 y3))
 | 0 => fun _ _ _ _ r h => by simp [impl_varsIn.l0] at h
 | k + 1 => by
  have ih0 := impl_varsIn.mono_l k
  ·intro y0 y1 y2 y3
   unfold impl_varsIn.l0
   repeat' with_reducible first | apply ih0 | exact LeO.refl _ | exact LeO.none _ | apply LeO.ite | refine LeO.bind ?_ fun _ => ?_
theorem impl_varsIn.mono : ∀ a0 k, LeO (impl_varsIn.f k a0) (impl_varsIn.f (k + 1) a0) := by
 intro a0 k
 have ih0 := impl_varsIn.mono_l k
 unfold impl_varsIn.f
 repeat' with_reducible first | apply ih0 | exact LeO.refl _ | exact LeO.none _ | apply LeO.ite | refine LeO.bind ?_ fun _ => ?_
theorem impl_varsIn.calls (k : Nat) (A0 : Option Addr) (c0 : Nat) (l0 : List (S73)) (r : List Int) (w : World) (hr0 : Kd.C k73 w A0 l0.length l0) (hc0 : l0.length ≤ c0) (h : impl_varsIn.f k l0 = some r) :
  Calls Try.prog 26 #[.slice A0 l0.length c0] w fun e w' => ∃ v0_ : Value, e = .returned (v0_) ∧ Kd.R (Kd.int .i64) 3 w' w.heap.size (fun _ => True) v0_ r ∧ Below w.heap.size w w' := by
 have hu73 := Try.underlying73
 have HR0 := am_ hr0
 have HC0 := am_ hc0
 clear hr0 hc0
 have HB := am_ (Below.refl w.heap.size w)
 have H := h
 clear h
 unfold impl_varsIn.f at H
 obtain ⟨y491, hy491⟩ : ∃ y_ : List Int, y_ = (([] : List Int)) := ⟨_, rfl⟩
 replace H : (impl_varsIn.l0 k y491 l0 (l0.length : Int) 0) = some r := by first | (rw [hy491]; with_reducible exact H) | (have H2_ := (Option.bind_some _ _).symm.trans H; rw [hy491]; with_reducible exact H2_) | (have H2_ := (Option.bind_some _ _).symm.trans H; with_reducible exact H2_) | with_reducible exact H | (rw [hy491]; exact H) | exact H
 have Ny491 := am_ hy491
 clear hy491
 have H' := am_ H
 clear H
 go_enter Try.func26, Try.ntmps26
 go_wp2_with (first | ((with_reducible refine Sh.d 6 ?_); refine Kd.R_lit (Kd.int .i64) _ 3 ?hg (N := 6) ?hd (xs := ([] : List Int)) (inner := []) (ok := fun _ => True) (okp := fun _ => True) ?hr ?hp (fun _ hk => hk) trivial (Below.refl _ _) (Nat.le_refl _) (by simp) ?_; (case hd => rfl); (case hg => rfl); (case hr => first | (go_simp; done) | (go_simp; rfl)); (case hp => exact (Reps.none _ _)); intro v492 w2 ho3 hb hg_ hnew_; clear hg_ hnew_; (first | rw [← Ny491.out] at ho3 | (simp only [Int.reduceToNat] at ho3; rw [← Ny491.out] at ho3)); have HO493 := am_ (Kd.R_lower ho3 (below_size Sh.bw)); replace HB := Sh.hb hb; clear hb ho3))
 go_loopg [3, 9] k (fun kq v3 v9 w' => ∃ (x3_1 : List Int) (x9_1 : Int), v9 = .int .i64 x9_1 ∧ Aside0 (impl_varsIn.l0 kq x3_1 l0 (l0.length : Int) x9_1 = some r) ∧ Aside0 (kq ≤ k) ∧ Aside0 (Kd.R (Kd.int .i64) 3 w' w.heap.size (fun _ => True) v3 x3_1) ∧ Aside0 (Below w.heap.size w w'))
 case atStart => exact ⟨(y491), (0), (Sh.es), H', ⟨Nat.le_refl _⟩, ⟨Sh.rl HO493.out⟩, ⟨Sh.bw⟩⟩
 case round =>
  clear H'
  obtain ⟨x3_1, x9_1, rfl, HA, HK1, HO_3, HB⟩ := hrel
  cases gk with
  | zero => exact absurd HA.out (by simp [impl_varsIn.l0])
  | succ k1 =>
   have H := HA.out
   clear HA
   simp only [impl_varsIn.l0] at H
   by_cases c4 : x9_1 < (l0.length : Int)
   ·rw [if_pos c4] at H
    have c4b0 := decide_eq_true c4
    clear c4
    by_cases c5 : 0 ≤ x9_1
    ·rw [if_pos c5] at H
     have c5b0 := decide_eq_true c5
     clear c5
     by_cases c6 : x9_1 < (l0.length : Int)
     ·rw [if_pos c6] at H
      have c6b0 := decide_eq_true c6
      clear c6
      by_cases c7 : ((rd_T73 l0 x9_1).f0) = 2
      ·rw [if_pos c7] at H
       have c7b0 : (((rd_T73 l0 x9_1).f0) == 2) = true := beq_iff_eq.mpr c7
       have c7b1 : (((rd_T73 l0 x9_1).f0) != 2) = false := bne_eq_false_iff_eq.mpr c7
       clear c7
       by_cases c8 : x3_1.length < 17592186044416
       ·rw [if_pos c8] at H
        have LMc8 := am_ c8
        clear c8
        obtain ⟨y496, hy496⟩ : ∃ y_ : List Int, y_ = (x3_1 ++ [wrap64 ((rd_T73 l0 x9_1).f1)]) := ⟨_, rfl⟩
        replace H : (impl_varsIn.l0 k1 y496 l0 (l0.length : Int) (wrap64 (x9_1 + 1))) = some r := by first | (rw [hy496]; with_reducible exact H) | (have H2_ := (Option.bind_some _ _).symm.trans H; rw [hy496]; with_reducible exact H2_) | (have H2_ := (Option.bind_some _ _).symm.trans H; with_reducible exact H2_) | with_reducible exact H | (rw [hy496]; exact H) | exact H
        have Ny496 := am_ hy496
        clear hy496
        have H' := am_ H
        clear H
        have p494 : 0 ≤ (x9_1 : Int) := Sh.od
        have q494 : x9_1 < (l0.length : Int) := Sh.od
        obtain ⟨ad494, e494, hx494_0, hx494_1⟩ := at_T73 HR0.out x9_1 p494 q494
        cases e494
        try replace hx494_0 := Sh.cw hx494_0
        try replace hx494_1 := Sh.cw hx494_1
        replace p494 := eq_true p494
        replace q494 := eq_true q494
        go_wp2_with (first | ((with_reducible refine Sh.d 5 ?_); refine Sh.bx (N := 5) (cs := #[.int .i64 0, .int .u64 0]) (t := 73) (h := ?_); intro gb495 hg w9 hbox hb; replace HO_3 := am_ (Kd.R_below (Sh.rl HO_3.out) hb); have BK495 := am_ hbox; have GE495 := Sh.ag w hg; replace HB := Sh.hb hb; clear hb hbox hg; obtain ⟨hcz10_0, hcz10_1, hfz10_0, hfz10_1⟩ := Sh.b2 BK495.out) | ((with_reducible refine gate_builtin (b := .append) (xs := #[.tmp 16, .tmp 20]) rfl ?_); at_builtin; refine Kd.R_append (Kd.int .i64) (w0 := w) w.heap.size rfl (.tmp 16) (.tmp 20) 27 3 (.int .i64 0) 8 rfl Try.underlying27 info3 rfl (by decide) (by omega) u3 x3_1 (wrap64 ((rd_T73 l0 x9_1).f1)) [.int .i64 (wrap64 ((rd_T73 l0 x9_1).f1))] (fun _ => True) (fun _ => False) rfl (by first | (go_simp; done) | (go_simp; rfl)) ?aP (fun _ hk => hk.elim) ?aF ?aO ?aB ?aS ?aL ?_; (case aP => exact rfl); (case aB => exact Sh.bw); (case aF => exact (fun _ _ => trivial)); (case aO => exact (Sh.rl (Kd.R_mono (Kd.R_far (p := ⟨gb495, 1, none⟩) (Kd.R_far (p := ⟨gb495, 0, none⟩) (Kd.R_types HO_3.out BK495.out (by decide)) (fun _ hk => hk.2) (.int .i64 ((rd_T73 l0 x9_1).f0))) (fun _ hk => hk.2) (.int .u64 ((rd_T73 l0 x9_1).f1))) (fun _ hk => trivial)))); (case aS => exact (below_size Sh.bw)); (case aL => have := LMc8.out; omega); intro v497 w11 ho hb hg hat; rw [← Ny496.out] at ho; have n0_ := am_ (blk_grown (g := gb495) (o := .cells #[.int .i64 ((rd_T73 l0 x9_1).f0), .int .u64 ((rd_T73 l0 x9_1).f1)] 73 (0, 0)) (by refine Sh.pl ?_; refine blk_put (cs := #[.int .i64 ((rd_T73 l0 x9_1).f0), .int .u64 0]) ?_ 1 _ rfl; refine Sh.pl ?_; refine blk_put (cs := #[.int .i64 0, .int .u64 0]) ?_ 0 _ rfl; refine Sh.pl ?_; exact BK495.out) hg (Kd.R_ne HO_3.out BK495.out (by decide))); have n1_ := am_ hb; have n2_ := am_ ho; clear BK495; clear HB; clear HO_3; have BK495 := n0_; have HB := n1_; have HO498 := n2_; clear n0_ n1_ n2_; clear ho hb hg hat))
        go_roundg k1
        case measure => have := HK1.out; omega
        case rel => exact ⟨(y496), (wrap64 (x9_1 + 1)), (Sh.es), H', ⟨by have := HK1.out; omega⟩, ⟨Sh.rl HO498.out⟩, ⟨Sh.bw⟩⟩
       ·rw [if_neg c8] at H
        exact absurd H (by simp)
      ·rw [if_neg c7] at H
       have c7b0 : (((rd_T73 l0 x9_1).f0) == 2) = false := beq_eq_false_iff_ne.mpr c7
       have c7b1 : (((rd_T73 l0 x9_1).f0) != 2) = true := bne_iff_ne.mpr c7
       have H' := am_ H
       clear H
       have p494 : 0 ≤ (x9_1 : Int) := Sh.od
       have q494 : x9_1 < (l0.length : Int) := Sh.od
       obtain ⟨ad494, e494, hx494_0, hx494_1⟩ := at_T73 HR0.out x9_1 p494 q494
       cases e494
       try replace hx494_0 := Sh.cw hx494_0
       try replace hx494_1 := Sh.cw hx494_1
       replace p494 := eq_true p494
       replace q494 := eq_true q494
       go_wp2_with (first | ((with_reducible refine Sh.d 5 ?_); refine Sh.bx (N := 5) (cs := #[.int .i64 0, .int .u64 0]) (t := 73) (h := ?_); intro gb495 hg w12 hbox hb; replace HO_3 := am_ (Kd.R_below (Sh.rl HO_3.out) hb); have BK495 := am_ hbox; have GE495 := Sh.ag w hg; replace HB := Sh.hb hb; clear hb hbox hg; obtain ⟨hcz13_0, hcz13_1, hfz13_0, hfz13_1⟩ := Sh.b2 BK495.out))
       go_roundg k1
       case measure => have := HK1.out; omega
       case rel => exact ⟨(x3_1), (wrap64 (x9_1 + 1)), (Sh.es), H', ⟨by have := HK1.out; omega⟩, ⟨Sh.rl (Kd.R_mono (Kd.R_far (p := ⟨gb495, 1, none⟩) (Kd.R_far (p := ⟨gb495, 0, none⟩) (Kd.R_types HO_3.out BK495.out (by decide)) (fun _ hk => hk.2) (.int .i64 ((rd_T73 l0 x9_1).f0))) (fun _ hk => hk.2) (.int .u64 ((rd_T73 l0 x9_1).f1))) (fun _ hk => trivial))⟩, ⟨Sh.bw⟩⟩
     ·rw [if_neg c6] at H
      exact absurd H (by simp)
    ·rw [if_neg c5] at H
     exact absurd H (by simp)
   ·rw [if_neg c4] at H
    have c4b0 := decide_eq_false c4
    clear c4
    obtain ⟨t499, A14, H⟩ := Sh.ba H
    obtain ⟨t500, A15, H⟩ := Sh.ba H
    obtain rfl := Option.some.inj H
    obtain ⟨Ao16, co16, eo16⟩ := Kd.R_slice HO_3.out
    subst eo16
    go_wp2_with (first | ((with_reducible refine Sh.k 27 ?_); refine Sh.gL (some 24) Try.func27 #[.slice Ao16 x3_1.length co16] (h := ?_); (with_reducible refine (slices_Sort_int_int.calls (fun k_ => some k_ = (.slice Ao16 x3_1.length co16 : Value).ownBlock) (.slice Ao16 x3_1.length co16) x3_1 t499 w _ ?side1 ?side2 A14.out).mono ?_); (case side1 => repeat (first | (with_reducible first | exact HB.out | apply below_alloc | apply pw_below_drewN | apply below_drew1) | exact HB.out)); (case side2 => exact Kd.R_tight rfl HO_3.out); rintro e w17 ⟨rfl, hy0, hb, hkp⟩; refine ⟨_, rfl, ?_⟩; replace HO_3 := am_ (Kd.R_reok rfl hy0 (fun k_ e_ => HO_3.out.1 k_ e_)); replace HB := am_ hb; (try clear hb); (try clear hkp); (try clear hy0)) | ((with_reducible refine Sh.k 28 ?_); refine Sh.gL (some 26) Try.func28 #[.slice Ao16 x3_1.length co16] (h := ?_); (with_reducible refine (slices_Compact_int_int.calls (fun k_ => some k_ = (.slice Ao16 x3_1.length co16 : Value).ownBlock) (.slice Ao16 x3_1.length co16) t499 t500 w _ ?side1 ?side2 A15.out).mono ?_); (case side1 => repeat (first | (with_reducible first | exact HB.out | apply below_alloc | apply pw_below_drewN | apply below_drew1) | exact HB.out)); (case side2 => exact Kd.R_tight rfl HO_3.out); rintro e w18 ⟨v501, rfl, ho0, hb, hkp⟩; refine ⟨_, rfl, ?_⟩; have n0_ := am_ (Kd.R_mono (ok' := fun k_ => True) ho0 (fun k_ hk_ => trivial)); have n1_ := am_ hb; clear HB; clear HO_3; have HO502 := n0_; have HB := n1_; clear n0_ n1_; (try clear hb); (try clear hkp); (try clear ho0)))
    go_ret
    exact ⟨_, Sh.eR, Sh.rl HO502.out, Sh.bw⟩
end Go.Proofs.Ytjenmoopbmklfaa.P
