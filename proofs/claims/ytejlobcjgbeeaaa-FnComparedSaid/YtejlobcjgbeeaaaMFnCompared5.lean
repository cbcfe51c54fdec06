/- Go functions of this seat as Lean functions, and the proofs that the calls come to what these say; printed by a program of this session. No condition. -/
import Derived.Test.YtejlobcjgbeeaaaP0
import Derived.Test.YtejlobcjgbeeaaaMFnCompared1
import Derived.Test.YtejlobcjgbeeaaaMFnCompared3
import Derived.Test.YtejlobcjgbeeaaaMFnCompared4
set_option linter.unusedVariables false
set_option linter.unusedSimpArgs false
set_option maxHeartbeats 40000000
set_option maxRecDepth 100000
namespace Go.Proofs.Ytejlobcjgbeeaaa.P
open Go.RowKit Go.Proofs.YtejlobcjgbeeaaaW.PrintWords Go.Proofs.YtejlobcjgbeeaaaW.PrintLast Go.Proofs.YtejlobcjgbeeaaaW.PrintMore Go.Proofs.Ytejlobcjgbeeaaa.Hof
attribute [local go_sem] max2_int min2_int max_two min_two max_three min_three max_four min_four
mutual
def laws_FnCompared.j0 : Nat → List Int → List Int → List Int → Int → Bool → Bool → Int → List (S66) → List Int → Int → List (S66) → List Int → Option (Bool)
 | 0, _, _, _, _, _, _, _, _, _, _, _, _ => none
 | k + 1, x1, x6, x7, x9, x10, x64, x489000, x489001, x489002, x499000, x499001, x499002 => if x64 = true then (some false) else ((impl_EqGates.f k x499000 x499001 x499002 x6 x7).bind fun bt510 => ((spec_EqGates.f k x499000 x499001 x499002 x6 x7).bind fun bt520 => (if (bt510.2.2.2.2 != bt520.2.2.2.2) = true then (laws_FnCompared.j1 k x1 x6 x7 x9 x10 bt510.2.2.2.1 bt510.2.2.2.2 true x489000 x489001 x489002 bt510.1 bt510.2.1 bt510.2.2.1) else ((laws_sameCircuit.f k bt510.1 bt510.2.1 bt510.2.2.1 bt520.1 bt520.2.1 bt520.2.2.1).bind fun t530 => (if t530 = true then (laws_FnCompared.j1 k x1 x6 x7 x9 x10 bt510.2.2.2.1 bt510.2.2.2.2 (bt510.2.2.2.1 != bt520.2.2.2.1) x489000 x489001 x489002 bt510.1 bt510.2.1 bt510.2.2.1) else (laws_FnCompared.j1 k x1 x6 x7 x9 x10 bt510.2.2.2.1 bt510.2.2.2.2 true x489000 x489001 x489002 bt510.1 bt510.2.1 bt510.2.2.1))))))
def laws_FnCompared.j1 : Nat → List Int → List Int → List Int → Int → Bool → Int → Bool → Bool → Int → List (S66) → List Int → Int → List (S66) → List Int → Option (Bool)
 | 0, _, _, _, _, _, _, _, _, _, _, _, _, _, _ => none
 | k + 1, x1, x6, x7, x9, x10, x15, x16, x94, x489000, x489001, x489002, x520000, x520001, x520002 => if x94 = true then (some false) else (if x10 = true then (laws_FnCompared.j2 k x1 x6 x7 x9 x15 (!x16) x489000 x489001 x489002 x520000 x520001 x520002) else (laws_FnCompared.j2 k x1 x6 x7 x9 x15 true x489000 x489001 x489002 x520000 x520001 x520002))
def laws_FnCompared.j2 : Nat → List Int → List Int → List Int → Int → Int → Bool → Int → List (S66) → List Int → Int → List (S66) → List Int → Option (Bool)
 | 0, _, _, _, _, _, _, _, _, _, _, _, _ => none
 | k + 1, x1, x6, x7, x9, x15, x100, x489000, x489001, x489002, x520000, x520001, x520002 => if x100 = true then (some true) else (laws_FnCompared.l0 k x1 x6 x7 x9 x15 ([] : List Bool) 0 x489000 x489001 x489002 x520000 x520001 x520002)
def laws_FnCompared.l0 : Nat → List Int → List Int → List Int → Int → Int → List Bool → Int → Int → List (S66) → List Int → Int → List (S66) → List Int → Option (Bool)
 | 0, _, _, _, _, _, _, _, _, _, _, _, _, _ => none
 | k + 1, x1, x6, x7, x9, x15, x20, x21, x489000, x489001, x489002, x520000, x520001, x520002 => if x21 < x489000 then ((laws_numberOf.f k x1).bind fun t531 => (if 0 ≤ (IntKind.u64.wrap (x21)) then (if x20.length < 140737488355328 then (laws_FnCompared.l0 k x1 x6 x7 x9 x15 (x20 ++ [((Go.bits .and .i64 (shr .i64 t531 (IntKind.u64.wrap (x21))) 1) == 1)]) (wrap64 (x21 + 1)) x489000 x489001 x489002 x520000 x520001 x520002) else (none)) else (none))) else ((impl_AllWires.f k x520000 x520001 x520002 x20).bind fun bt535 => (if bt535.2 = true then (if (bt535.1.length : Int) = (wrap64 ((wrap64 ((wrap64 ((x489001.length : Int) + x489000)) + 2)) + (wrap64 (9 * (x6.length : Int))))) then (if x9 < 0 then (laws_FnCompared.j4 k x6 x7 x9 x15 bt535.1 bt535.2 true x489000 x489001 x489002) else (if x9 ≥ (bt535.1.length : Int) then (laws_FnCompared.j4 k x6 x7 x9 x15 bt535.1 bt535.2 true x489000 x489001 x489002) else (if x15 < 0 then (laws_FnCompared.j4 k x6 x7 x9 x15 bt535.1 bt535.2 true x489000 x489001 x489002) else (laws_FnCompared.j4 k x6 x7 x9 x15 bt535.1 bt535.2 (decide (x15 ≥ (bt535.1.length : Int))) x489000 x489001 x489002)))) else (laws_FnCompared.j4 k x6 x7 x9 x15 bt535.1 bt535.2 true x489000 x489001 x489002)) else (laws_FnCompared.j4 k x6 x7 x9 x15 bt535.1 bt535.2 true x489000 x489001 x489002)))
def laws_FnCompared.j4 : Nat → List Int → List Int → Int → Int → List Bool → Bool → Bool → Int → List (S66) → List Int → Option (Bool)
 | 0, _, _, _, _, _, _, _, _, _, _ => none
 | k + 1, x6, x7, x9, x15, x22, x23, x160, x489000, x489001, x489002 => if x160 = true then (some false) else ((laws_carried.f k x22 x6).bind fun t539 => ((laws_carried.f k x22 x7).bind fun t540 => (if x23 = true then (if (x22.length : Int) = (wrap64 ((wrap64 ((wrap64 ((x489001.length : Int) + x489000)) + 2)) + (wrap64 (9 * (x6.length : Int))))) then (if 0 ≤ x9 then (if x9 < (x22.length : Int) then (if ((rdOf false x22 x9) == (decide (t539 < t540))) = true then (if 0 ≤ x15 then (if x15 < (x22.length : Int) then (some ((rdOf false x22 x15) == (t539 == t540))) else (none)) else (none)) else (some false)) else (none)) else (none)) else (some false)) else (some false))))
end
def laws_FnCompared.f (k : Nat) (l0 : List Int) (l1 : List Int) : Option (Bool) := (laws_big.f l0 l1).bind fun t474 => (if t474 = true then (some true) else ((spec_DrawLessGates.f k l0).bind fun bt475 => ((impl_LessGates.f k bt475.1 bt475.2.1 bt475.2.2.1 bt475.2.2.2.1 bt475.2.2.2.2).bind fun bt489 => ((spec_LessGates.f k bt475.1 bt475.2.1 bt475.2.2.1 bt475.2.2.2.1 bt475.2.2.2.2).bind fun bt499 => (if (bt489.2.2.2.2 != bt499.2.2.2.2) = true then (laws_FnCompared.j0 k l1 bt475.2.2.2.1 bt475.2.2.2.2 bt489.2.2.2.1 bt489.2.2.2.2 true bt475.1 bt475.2.1 bt475.2.2.1 bt489.1 bt489.2.1 bt489.2.2.1) else ((laws_sameCircuit.f k bt489.1 bt489.2.1 bt489.2.2.1 bt499.1 bt499.2.1 bt499.2.2.1).bind fun t509 => (if t509 = true then (laws_FnCompared.j0 k l1 bt475.2.2.2.1 bt475.2.2.2.2 bt489.2.2.2.1 bt489.2.2.2.2 (bt489.2.2.2.1 != bt499.2.2.2.1) bt475.1 bt475.2.1 bt475.2.2.1 bt489.1 bt489.2.1 bt489.2.2.1) else (laws_FnCompared.j0 k l1 bt475.2.2.2.1 bt475.2.2.2.2 bt489.2.2.2.1 bt489.2.2.2.2 true bt475.1 bt475.2.1 bt475.2.2.1 bt489.1 bt489.2.1 bt489.2.2.1))))))))
theorem laws_FnCompared.mono_l : ∀ k, (∀ y0 y1 y2 y3 y4 y5 y6 y7 y8 y9 y10 y11, LeO (laws_FnCompared.j0 k y0 y1 y2 y3 y4 y5 y6 y7 y8 y9 y10 y11) (laws_FnCompared.j0 (k + 1) y0 y1 y2 y3 y4 y5 y6 y7 y8 y9 y10 y11)) ∧ (∀ y0 y1 y2 y3 y4 y5 y6 y7 y8 y9 y10 y11 y12 y13, LeO (laws_FnCompared.j1 k y0 y1 y2 y3 y4 y5 y6 y7 y8 y9 y10 y11 y12 y13) (laws_FnCompared.j1 (k + 1) y0 y1 y2 y3 y4 y5 y6 y7 y8 y9 y10 y11 y12 y13)) ∧ (∀ y0 y1 y2 y3 y4 y5 y6 y7 y8 y9 y10 y11, LeO (laws_FnCompared.j2 k y0 y1 y2 y3 y4 y5 y6 y7 y8 y9 y10 y11) (laws_FnCompared.j2 (k + 1) y0 y1 y2 y3 y4 y5 y6 y7 y8 y9 y10 y11)) ∧ (∀ y0 y1 y2 y3 y4 y5 y6 y7 y8 y9 y10 y11 y12, LeO (laws_FnCompared.l0 k y0 y1 y2 y3 y4 y5 y6 y7 y8 y9 y10 y11 y12) (laws_FnCompared.l0 (k + 1) y0 y1 y2 y3 y4 y5 y6 y7 y8 y9 y10 y11 y12)) ∧ (∀ y0 y1 y2 y3 y4 y5 y6 y7 y8 y9, LeO (laws_FnCompared.j4 k y0 y1 y2 y3 y4 y5 y6 y7 y8 y9) (laws_FnCompared.j4 (k + 1) y0 y1 y2 y3 y4 y5 y6 y7 y8 y9))
 | 0 => ⟨fun _ _ _ _ _ _ _ _ _ _ _ _ r h => by simp [laws_FnCompared.j0] at h, fun _ _ _ _ _ _ _ _ _ _ _ _ _ _ r h => by simp [laws_FnCompared.j1] at h, fun _ _ _ _ _ _ _ _ _ _ _ _ r h => by simp [laws_FnCompared.j2] at h, fun _ _ _ _ _ _ _ _ _ _ _ _ _ r h => by simp [laws_FnCompared.l0] at h, fun _ _ _ _ _ _ _ _ _ _ r h => by simp [laws_FnCompared.j4] at h⟩
 | k + 1 => by
  obtain ⟨ih0, ih1, ih2, ih3, ih4⟩ := laws_FnCompared.mono_l k
  and_intros <;> intros
  all_goals (first | unfold laws_FnCompared.j0 | unfold laws_FnCompared.j1 | unfold laws_FnCompared.j2 | unfold laws_FnCompared.l0 | unfold laws_FnCompared.j4)
  all_goals repeat' with_reducible first | apply ih0 | apply ih1 | apply ih2 | apply ih3 | apply ih4 | apply impl_AllWires.mono | apply impl_EqGates.mono | apply impl_LessGates.mono | apply laws_carried.mono | apply laws_numberOf.mono | apply laws_sameCircuit.mono | apply spec_DrawLessGates.mono | apply spec_EqGates.mono | apply spec_LessGates.mono | exact LeO.refl _ | exact LeO.none _ | apply LeO.ite | refine LeO.bind ?_ fun _ => ?_
theorem laws_FnCompared.mono : ∀ a0 a1 k, LeO (laws_FnCompared.f k a0 a1) (laws_FnCompared.f (k + 1) a0 a1) := by
 intro a0 a1 k
 obtain ⟨ih0, ih1, ih2, ih3, ih4⟩ := laws_FnCompared.mono_l k
 unfold laws_FnCompared.f
 repeat' with_reducible first | apply ih0 | apply ih1 | apply ih2 | apply ih3 | apply ih4 | apply impl_AllWires.mono | apply impl_EqGates.mono | apply impl_LessGates.mono | apply laws_carried.mono | apply laws_numberOf.mono | apply laws_sameCircuit.mono | apply spec_DrawLessGates.mono | apply spec_EqGates.mono | apply spec_LessGates.mono | exact LeO.refl _ | exact LeO.none _ | apply LeO.ite | refine LeO.bind ?_ fun _ => ?_
theorem laws_FnCompared.calls (k : Nat) (A0 : Option Addr) (c0 : Nat) (l0 : List Int) (A1 : Option Addr) (c1 : Nat) (l1 : List Int) (r : Bool) (w : World) (hr0 : Kd.C (Kd.int .u8) w A0 l0.length l0) (hc0 : l0.length ≤ c0) (hr1 : Kd.C (Kd.int .u8) w A1 l1.length l1) (hc1 : l1.length ≤ c1) (h : laws_FnCompared.f k l0 l1 = some r) :
  Calls Try.prog 4 #[.slice A0 l0.length c0, .slice A1 l1.length c1] w fun e w' => e = .returned (.bool r) ∧ Below w.heap.size w w' := by
 have hu27 := Try.underlying27
 have HR0 := am_ hr0
 have HC0 := am_ hc0
 clear hr0 hc0
 have HR1 := am_ hr1
 have HC1 := am_ hc1
 clear hr1 hc1
 have HB := am_ (Below.refl w.heap.size w)
 have H := h
 clear h
 unfold laws_FnCompared.f at H
 obtain ⟨t474, A3, H⟩ := Sh.ba H
 by_cases c4 : t474 = true
 ·subst c4
  rw [if_pos rfl] at H
  obtain rfl := Option.some.inj H
  go_enter Try.func4, Try.ntmps4
  go_wp2_with (first | ((with_reducible refine Sh.k 5 ?_); refine Sh.gL (some 28) Try.func5 #[.slice A0 l0.length c0, .slice A1 l1.length c1] (h := ?_); (with_reducible refine (laws_big.calls _ _ l0 _ _ l1 true _ ?side1 ?side2 ?side3 ?side4 A3.out).mono ?_); (case side1 => repeat (first | exact HR0.out | (with_reducible first | refine Kd.C_alloc ?_ _ | refine Kd.C_drewN ?_ _ | refine Kd.C_drew ?_))); (case side2 => exact HC0.out); (case side3 => repeat (first | exact HR1.out | (with_reducible first | refine Kd.C_alloc ?_ _ | refine Kd.C_drewN ?_ _ | refine Kd.C_drew ?_))); (case side4 => exact HC1.out); rintro e w' ⟨rfl, ⟨nd, rfl⟩⟩; refine ⟨_, rfl, ?_⟩))
  go_ret
  exact ⟨Sh.eR, Sh.bw⟩
 ·replace c4 := Bool.eq_false_iff.mpr c4
  subst c4
  rw [Sh.nf] at H
  obtain ⟨⟨t475, t476, t479, t482, t485⟩, A50, H⟩ := Sh.bd H
  have A5 := am_ A50
  clear A50
  obtain ⟨⟨t489, t490, t493, t496, t497⟩, A60, H⟩ := Sh.bd H
  have A6 := am_ A60
  clear A60
  obtain ⟨⟨t499, t500, t503, t506, t507⟩, A70, H⟩ := Sh.bd H
  have A7 := am_ A70
  clear A70
  have HC8 := am_ H
  clear H
  go_enter Try.func4, Try.ntmps4
  go_upto_region 6 with (first | ((with_reducible refine Sh.k 5 ?_); refine Sh.gL (some 28) Try.func5 #[.slice A0 l0.length c0, .slice A1 l1.length c1] (h := ?_); (with_reducible refine (laws_big.calls _ _ l0 _ _ l1 false _ ?side1 ?side2 ?side3 ?side4 A3.out).mono ?_); (case side1 => repeat (first | exact HR0.out | (with_reducible first | refine Kd.C_alloc ?_ _ | refine Kd.C_drewN ?_ _ | refine Kd.C_drew ?_))); (case side2 => exact HC0.out); (case side3 => repeat (first | exact HR1.out | (with_reducible first | refine Kd.C_alloc ?_ _ | refine Kd.C_drewN ?_ _ | refine Kd.C_drew ?_))); (case side4 => exact HC1.out); rintro e w' ⟨rfl, ⟨nd, rfl⟩⟩; refine ⟨_, rfl, ?_⟩) | ((with_reducible refine Sh.k 18 ?_); refine Sh.gL (some 31) Try.func18 #[.slice A0 l0.length c0] (h := ?_); (with_reducible refine (spec_DrawLessGates.calls k _ _ l0 t475 t476 t479 t482 t485 _ ?side1 ?side2 A5.out).mono ?_); (case side1 => repeat (first | exact HR0.out | (with_reducible first | refine Kd.C_alloc ?_ _ | refine Kd.C_drewN ?_ _ | refine Kd.C_drew ?_))); (case side2 => exact HC0.out); rintro e w9 ⟨v477, v480, v483, v486, rfl, ho0, ho1, ho2, ho3, hb⟩; refine ⟨_, rfl, ?_⟩; have HO478 := am_ (Kd.R_lower ho0 (below_size Sh.bw)); have HO481 := am_ (Kd.R_lower ho1 (below_size Sh.bw)); have HO484 := am_ (Kd.R_lower ho2 (below_size Sh.bw)); have HO487 := am_ (Kd.R_lower ho3 (below_size Sh.bw)); replace HB := Sh.hb hb; (try clear hb); (try clear hb2); (try clear hk); (try clear hi); (try clear ho0); (try clear ho1); (try clear ho2); (try clear ho3)) | ((with_reducible refine Sh.d 5 ?_); (try (refine gate_guard (by rfl) ?_; dsimp only)); refine Sh.bx (N := 5) (cs := #[.int .i64 0, .slice none 0 0, .slice none 0 0]) (t := 27) (h := ?_); intro gb488 hg w10 hbox hb; replace HO478 := am_ (Kd.R_below (Sh.rl HO478.out) hb); replace HO481 := am_ (Kd.R_below (Sh.rl HO481.out) hb); replace HO484 := am_ (Kd.R_below (Sh.rl HO484.out) hb); replace HO487 := am_ (Kd.R_below (Sh.rl HO487.out) hb); have BK488 := am_ hbox; have GE488 := Sh.ag w hg; replace HB := Sh.hb hb; clear hb hbox hg; obtain ⟨hcz11_0, hcz11_1, hcz11_2, hfz11_0, hfz11_1, hfz11_2⟩ := Sh.b3 BK488.out; obtain ⟨Ao12, co12, eo12⟩ := Kd.R_slice HO478.out; subst eo12; obtain ⟨Ao13, co13, eo13⟩ := Kd.R_slice HO481.out; subst eo13; obtain ⟨Ao14, co14, eo14⟩ := Kd.R_slice HO484.out; subst eo14; obtain ⟨Ao15, co15, eo15⟩ := Kd.R_slice HO487.out; subst eo15) | ((with_reducible refine Sh.k 19 ?_); refine Sh.gL (some 39) Try.func19 #[.agg #[.int .i64 t475, .slice Ao12 t476.length co12, .slice Ao13 t479.length co13], .slice Ao14 t482.length co14, .slice Ao15 t485.length co15] (h := ?_); (with_reducible refine (impl_LessGates.calls k t475 _ _ t476 _ _ t479 _ _ t482 _ _ t485 t489 t490 t493 t496 t497 _ ?side1 ?side2 ?side3 ?side4 ?side5 ?side6 ?side7 ?side8 A6.out).mono ?_); (case side1 => refine (Kd.R_reads' (e := 66) (base := w.heap.size) (ok := fun k_ => True) (n := t476.length) (c := co12) ?_).2.2; exact (Sh.rl (Kd.R_mono (Kd.R_far (p := ⟨gb488, 2, none⟩) (Kd.R_far (p := ⟨gb488, 1, none⟩) (Kd.R_far (p := ⟨gb488, 0, none⟩) (Kd.R_types HO478.out BK488.out (by decide)) (fun _ hk => hk.2) (.int .i64 t475)) (fun _ hk => hk.2) (.slice Ao12 t476.length co12)) (fun _ hk => hk.2) (.slice Ao13 t479.length co13)) (fun _ h_ => h_.1)))); (case side2 => exact (Kd.R_reads' HO478.out).2.1); (case side3 => refine (Kd.R_reads' (e := 3) (base := w.heap.size) (ok := fun k_ => (some k_ ≠ (.slice Ao14 t482.length co14 : Value).ownBlock ∧ some k_ ≠ (.slice Ao15 t485.length co15 : Value).ownBlock)) (n := t479.length) (c := co13) ?_).2.2; exact (Sh.rl (Kd.R_mono (Kd.R_far (p := ⟨gb488, 2, none⟩) (Kd.R_far (p := ⟨gb488, 1, none⟩) (Kd.R_far (p := ⟨gb488, 0, none⟩) (Kd.R_types HO481.out BK488.out (by decide)) (fun _ hk => hk.2) (.int .i64 t475)) (fun _ hk => hk.2) (.slice Ao12 t476.length co12)) (fun _ hk => hk.2) (.slice Ao13 t479.length co13)) (fun _ h_ => h_.1)))); (case side4 => exact (Kd.R_reads' HO481.out).2.1); (case side5 => refine (Kd.R_reads' (e := 3) (base := w.heap.size) (ok := fun k_ => (some k_ ≠ (.slice Ao13 t479.length co13 : Value).ownBlock ∧ some k_ ≠ (.slice Ao15 t485.length co15 : Value).ownBlock)) (n := t482.length) (c := co14) ?_).2.2; exact (Sh.rl (Kd.R_mono (Kd.R_far (p := ⟨gb488, 2, none⟩) (Kd.R_far (p := ⟨gb488, 1, none⟩) (Kd.R_far (p := ⟨gb488, 0, none⟩) (Kd.R_types HO484.out BK488.out (by decide)) (fun _ hk => hk.2) (.int .i64 t475)) (fun _ hk => hk.2) (.slice Ao12 t476.length co12)) (fun _ hk => hk.2) (.slice Ao13 t479.length co13)) (fun _ h_ => h_.1)))); (case side6 => exact (Kd.R_reads' HO484.out).2.1); (case side7 => refine (Kd.R_reads' (e := 3) (base := w.heap.size) (ok := fun k_ => (some k_ ≠ (.slice Ao13 t479.length co13 : Value).ownBlock ∧ some k_ ≠ (.slice Ao14 t482.length co14 : Value).ownBlock)) (n := t485.length) (c := co15) ?_).2.2; exact (Sh.rl (Kd.R_mono (Kd.R_far (p := ⟨gb488, 2, none⟩) (Kd.R_far (p := ⟨gb488, 1, none⟩) (Kd.R_far (p := ⟨gb488, 0, none⟩) (Kd.R_types HO487.out BK488.out (by decide)) (fun _ hk => hk.2) (.int .i64 t475)) (fun _ hk => hk.2) (.slice Ao12 t476.length co12)) (fun _ hk => hk.2) (.slice Ao13 t479.length co13)) (fun _ h_ => h_.1)))); (case side8 => exact (Kd.R_reads' HO487.out).2.1); rintro e w16 ⟨v491, v494, rfl, ho0, ho1, hb⟩; refine ⟨_, rfl, ?_⟩; have n0_ := am_ (Kd.R_elder' (Sh.rl (Kd.R_mono (Kd.R_far (p := ⟨gb488, 2, none⟩) (Kd.R_far (p := ⟨gb488, 1, none⟩) (Kd.R_far (p := ⟨gb488, 0, none⟩) (Kd.R_types HO478.out BK488.out (by decide)) (fun _ hk => hk.2) (.int .i64 t475)) (fun _ hk => hk.2) (.slice Ao12 t476.length co12)) (fun _ hk => hk.2) (.slice Ao13 t479.length co13)) (fun _ h_ => h_.1))) (Kd.R_base ho0) hb); have n1_ := am_ (Kd.R_elder' (Sh.rl (Kd.R_mono (Kd.R_far (p := ⟨gb488, 2, none⟩) (Kd.R_far (p := ⟨gb488, 1, none⟩) (Kd.R_far (p := ⟨gb488, 0, none⟩) (Kd.R_types HO481.out BK488.out (by decide)) (fun _ hk => hk.2) (.int .i64 t475)) (fun _ hk => hk.2) (.slice Ao12 t476.length co12)) (fun _ hk => hk.2) (.slice Ao13 t479.length co13)) (fun _ h_ => h_.1))) (Kd.R_base ho1) hb); have n2_ := am_ (Kd.R_elder' (Sh.rl (Kd.R_mono (Kd.R_far (p := ⟨gb488, 2, none⟩) (Kd.R_far (p := ⟨gb488, 1, none⟩) (Kd.R_far (p := ⟨gb488, 0, none⟩) (Kd.R_types HO484.out BK488.out (by decide)) (fun _ hk => hk.2) (.int .i64 t475)) (fun _ hk => hk.2) (.slice Ao12 t476.length co12)) (fun _ hk => hk.2) (.slice Ao13 t479.length co13)) (fun _ h_ => h_.1))) (Kd.R_base ho1) hb); have n3_ := am_ (Kd.R_elder' (Sh.rl (Kd.R_mono (Kd.R_far (p := ⟨gb488, 2, none⟩) (Kd.R_far (p := ⟨gb488, 1, none⟩) (Kd.R_far (p := ⟨gb488, 0, none⟩) (Kd.R_types HO487.out BK488.out (by decide)) (fun _ hk => hk.2) (.int .i64 t475)) (fun _ hk => hk.2) (.slice Ao12 t476.length co12)) (fun _ hk => hk.2) (.slice Ao13 t479.length co13)) (fun _ h_ => h_.1))) (Kd.R_base ho1) hb); have n4_ := am_ (Kd.R_lower (Kd.R_new' ho0 (Kd.R_lt (Sh.rl (Kd.R_mono (Kd.R_far (p := ⟨gb488, 2, none⟩) (Kd.R_far (p := ⟨gb488, 1, none⟩) (Kd.R_far (p := ⟨gb488, 0, none⟩) (Kd.R_types HO478.out BK488.out (by decide)) (fun _ hk => hk.2) (.int .i64 t475)) (fun _ hk => hk.2) (.slice Ao12 t476.length co12)) (fun _ hk => hk.2) (.slice Ao13 t479.length co13)) (fun _ h_ => h_.1))))) (below_size Sh.bw)); have n5_ := am_ (Kd.R_lower (Kd.R_new' (Kd.R_new' (Kd.R_new' ho1 (Kd.R_lt (Sh.rl (Kd.R_mono (Kd.R_far (p := ⟨gb488, 2, none⟩) (Kd.R_far (p := ⟨gb488, 1, none⟩) (Kd.R_far (p := ⟨gb488, 0, none⟩) (Kd.R_types HO481.out BK488.out (by decide)) (fun _ hk => hk.2) (.int .i64 t475)) (fun _ hk => hk.2) (.slice Ao12 t476.length co12)) (fun _ hk => hk.2) (.slice Ao13 t479.length co13)) (fun _ h_ => h_.1))))) (Kd.R_lt (Sh.rl (Kd.R_mono (Kd.R_far (p := ⟨gb488, 2, none⟩) (Kd.R_far (p := ⟨gb488, 1, none⟩) (Kd.R_far (p := ⟨gb488, 0, none⟩) (Kd.R_types HO484.out BK488.out (by decide)) (fun _ hk => hk.2) (.int .i64 t475)) (fun _ hk => hk.2) (.slice Ao12 t476.length co12)) (fun _ hk => hk.2) (.slice Ao13 t479.length co13)) (fun _ h_ => h_.1))))) (Kd.R_lt (Sh.rl (Kd.R_mono (Kd.R_far (p := ⟨gb488, 2, none⟩) (Kd.R_far (p := ⟨gb488, 1, none⟩) (Kd.R_far (p := ⟨gb488, 0, none⟩) (Kd.R_types HO487.out BK488.out (by decide)) (fun _ hk => hk.2) (.int .i64 t475)) (fun _ hk => hk.2) (.slice Ao12 t476.length co12)) (fun _ hk => hk.2) (.slice Ao13 t479.length co13)) (fun _ h_ => h_.1))))) (below_size Sh.bw)); have n6_ := am_ (blk_below (g := gb488) (o := .cells #[.int .i64 t475, .slice Ao12 t476.length co12, .slice Ao13 t479.length co13] 27 (0, 0)) (by refine Sh.pl ?_; refine blk_put (cs := #[.int .i64 t475, .slice Ao12 t476.length co12, .slice none 0 0]) ?_ 2 _ rfl; refine Sh.pl ?_; refine blk_put (cs := #[.int .i64 t475, .slice none 0 0, .slice none 0 0]) ?_ 1 _ rfl; refine Sh.pl ?_; refine blk_put (cs := #[.int .i64 0, .slice none 0 0, .slice none 0 0]) ?_ 0 _ rfl; refine Sh.pl ?_; exact BK488.out) hb); have n7_ := am_ (below_step Sh.bw hb); clear HO478; clear HO481; clear HO484; clear HO487; clear BK488; clear HB; have HO478 := n0_; have HO481 := n1_; have HO484 := n2_; have HO487 := n3_; have HO492 := n4_; have HO495 := n5_; have BK488 := n6_; have HB := n7_; clear n0_ n1_ n2_ n3_ n4_ n5_ n6_ n7_; (try clear hb); (try clear hb2); (try clear hk); (try clear hi); (try clear ho0); (try clear ho1)) | ((with_reducible refine Sh.d 8 ?_); (try (refine gate_guard (by rfl) ?_; dsimp only)); refine Sh.bx (N := 8) (cs := #[.int .i64 0, .slice none 0 0, .slice none 0 0]) (t := 27) (h := ?_); intro gb498 hg w17 hbox hb; replace HO478 := am_ (Kd.R_below (Sh.rl HO478.out) hb); replace HO481 := am_ (Kd.R_below (Sh.rl HO481.out) hb); replace HO484 := am_ (Kd.R_below (Sh.rl HO484.out) hb); replace HO487 := am_ (Kd.R_below (Sh.rl HO487.out) hb); replace HO492 := am_ (Kd.R_below (Sh.rl HO492.out) hb); replace HO495 := am_ (Kd.R_below (Sh.rl HO495.out) hb); have BK498 := am_ hbox; have GE498 := Sh.ag w hg; replace HB := Sh.hb hb; have NB488_498 := am_ (Sh.nl hg BK488.out); have NB498_488 := am_ (Sh.ng hg BK488.out); replace BK488 := Sh.ab BK488 hb; clear hb hbox hg; have hnb18 := NB498_488.out; have hnc18 := NB488_498.out; obtain ⟨hcz19_0, hcz19_1, hcz19_2, hfz19_0, hfz19_1, hfz19_2⟩ := Sh.b3 BK498.out; obtain ⟨Ao20, co20, eo20⟩ := Kd.R_slice HO492.out; subst eo20; obtain ⟨Ao21, co21, eo21⟩ := Kd.R_slice HO495.out; subst eo21; obtain ⟨hcz22_0, hcz22_1, hcz22_2, hfz22_0, hfz22_1, hfz22_2⟩ := Sh.b3 BK488.out) | ((with_reducible refine Sh.k 20 ?_); refine Sh.gL (some 47) Try.func20 #[.agg #[.int .i64 t475, .slice Ao12 t476.length co12, .slice Ao13 t479.length co13], .slice Ao14 t482.length co14, .slice Ao15 t485.length co15] (h := ?_); (with_reducible refine (spec_LessGates.calls k t475 _ _ t476 _ _ t479 _ _ t482 _ _ t485 t499 t500 t503 t506 t507 _ ?side1 ?side2 ?side3 ?side4 ?side5 ?side6 ?side7 ?side8 A7.out).mono ?_); (case side1 => refine (Kd.R_reads' (e := 66) (base := w.heap.size) (ok := fun k_ => (True ∧ some k_ ≠ (.slice Ao20 t490.length co20 : Value).ownBlock)) (n := t476.length) (c := co12) ?_).2.2; exact (Sh.rl (Kd.R_mono (Kd.R_far (p := ⟨gb498, 2, none⟩) (Kd.R_far (p := ⟨gb498, 1, none⟩) (Kd.R_far (p := ⟨gb498, 0, none⟩) (Kd.R_types HO478.out BK498.out (by decide)) (fun _ hk => hk.2) (.int .i64 t489)) (fun _ hk => hk.2) (.slice Ao20 t490.length co20)) (fun _ hk => hk.2) (.slice Ao21 t493.length co21)) (fun _ h_ => h_.1)))); (case side2 => exact (Kd.R_reads' HO478.out).2.1); (case side3 => refine (Kd.R_reads' (e := 3) (base := w.heap.size) (ok := fun k_ => ((some k_ ≠ (.slice Ao14 t482.length co14 : Value).ownBlock ∧ some k_ ≠ (.slice Ao15 t485.length co15 : Value).ownBlock) ∧ some k_ ≠ (.slice Ao21 t493.length co21 : Value).ownBlock)) (n := t479.length) (c := co13) ?_).2.2; exact (Sh.rl (Kd.R_mono (Kd.R_far (p := ⟨gb498, 2, none⟩) (Kd.R_far (p := ⟨gb498, 1, none⟩) (Kd.R_far (p := ⟨gb498, 0, none⟩) (Kd.R_types HO481.out BK498.out (by decide)) (fun _ hk => hk.2) (.int .i64 t489)) (fun _ hk => hk.2) (.slice Ao20 t490.length co20)) (fun _ hk => hk.2) (.slice Ao21 t493.length co21)) (fun _ h_ => h_.1)))); (case side4 => exact (Kd.R_reads' HO481.out).2.1); (case side5 => refine (Kd.R_reads' (e := 3) (base := w.heap.size) (ok := fun k_ => ((some k_ ≠ (.slice Ao13 t479.length co13 : Value).ownBlock ∧ some k_ ≠ (.slice Ao15 t485.length co15 : Value).ownBlock) ∧ some k_ ≠ (.slice Ao21 t493.length co21 : Value).ownBlock)) (n := t482.length) (c := co14) ?_).2.2; exact (Sh.rl (Kd.R_mono (Kd.R_far (p := ⟨gb498, 2, none⟩) (Kd.R_far (p := ⟨gb498, 1, none⟩) (Kd.R_far (p := ⟨gb498, 0, none⟩) (Kd.R_types HO484.out BK498.out (by decide)) (fun _ hk => hk.2) (.int .i64 t489)) (fun _ hk => hk.2) (.slice Ao20 t490.length co20)) (fun _ hk => hk.2) (.slice Ao21 t493.length co21)) (fun _ h_ => h_.1)))); (case side6 => exact (Kd.R_reads' HO484.out).2.1); (case side7 => refine (Kd.R_reads' (e := 3) (base := w.heap.size) (ok := fun k_ => ((some k_ ≠ (.slice Ao13 t479.length co13 : Value).ownBlock ∧ some k_ ≠ (.slice Ao14 t482.length co14 : Value).ownBlock) ∧ some k_ ≠ (.slice Ao21 t493.length co21 : Value).ownBlock)) (n := t485.length) (c := co15) ?_).2.2; exact (Sh.rl (Kd.R_mono (Kd.R_far (p := ⟨gb498, 2, none⟩) (Kd.R_far (p := ⟨gb498, 1, none⟩) (Kd.R_far (p := ⟨gb498, 0, none⟩) (Kd.R_types HO487.out BK498.out (by decide)) (fun _ hk => hk.2) (.int .i64 t489)) (fun _ hk => hk.2) (.slice Ao20 t490.length co20)) (fun _ hk => hk.2) (.slice Ao21 t493.length co21)) (fun _ h_ => h_.1)))); (case side8 => exact (Kd.R_reads' HO487.out).2.1); rintro e w23 ⟨v501, v504, rfl, ho0, ho1, hb⟩; refine ⟨_, rfl, ?_⟩; have n0_ := am_ (Kd.R_elder' (Sh.rl (Kd.R_mono (Kd.R_far (p := ⟨gb498, 2, none⟩) (Kd.R_far (p := ⟨gb498, 1, none⟩) (Kd.R_far (p := ⟨gb498, 0, none⟩) (Kd.R_types HO478.out BK498.out (by decide)) (fun _ hk => hk.2) (.int .i64 t489)) (fun _ hk => hk.2) (.slice Ao20 t490.length co20)) (fun _ hk => hk.2) (.slice Ao21 t493.length co21)) (fun _ h_ => h_.1))) (Kd.R_base ho0) hb); have n1_ := am_ (Kd.R_elder' (Sh.rl (Kd.R_mono (Kd.R_far (p := ⟨gb498, 2, none⟩) (Kd.R_far (p := ⟨gb498, 1, none⟩) (Kd.R_far (p := ⟨gb498, 0, none⟩) (Kd.R_types HO481.out BK498.out (by decide)) (fun _ hk => hk.2) (.int .i64 t489)) (fun _ hk => hk.2) (.slice Ao20 t490.length co20)) (fun _ hk => hk.2) (.slice Ao21 t493.length co21)) (fun _ h_ => h_.1))) (Kd.R_base ho1) hb); have n2_ := am_ (Kd.R_elder' (Sh.rl (Kd.R_mono (Kd.R_far (p := ⟨gb498, 2, none⟩) (Kd.R_far (p := ⟨gb498, 1, none⟩) (Kd.R_far (p := ⟨gb498, 0, none⟩) (Kd.R_types HO484.out BK498.out (by decide)) (fun _ hk => hk.2) (.int .i64 t489)) (fun _ hk => hk.2) (.slice Ao20 t490.length co20)) (fun _ hk => hk.2) (.slice Ao21 t493.length co21)) (fun _ h_ => h_.1))) (Kd.R_base ho1) hb); have n3_ := am_ (Kd.R_elder' (Sh.rl (Kd.R_mono (Kd.R_far (p := ⟨gb498, 2, none⟩) (Kd.R_far (p := ⟨gb498, 1, none⟩) (Kd.R_far (p := ⟨gb498, 0, none⟩) (Kd.R_types HO487.out BK498.out (by decide)) (fun _ hk => hk.2) (.int .i64 t489)) (fun _ hk => hk.2) (.slice Ao20 t490.length co20)) (fun _ hk => hk.2) (.slice Ao21 t493.length co21)) (fun _ h_ => h_.1))) (Kd.R_base ho1) hb); have n4_ := am_ (Kd.R_elder' (Sh.rl (Kd.R_mono (Kd.R_far (p := ⟨gb498, 2, none⟩) (Kd.R_far (p := ⟨gb498, 1, none⟩) (Kd.R_far (p := ⟨gb498, 0, none⟩) (Kd.R_types HO492.out BK498.out (by decide)) (fun _ hk => hk.2) (.int .i64 t489)) (fun _ hk => hk.2) (.slice Ao20 t490.length co20)) (fun _ hk => hk.2) (.slice Ao21 t493.length co21)) (fun _ h_ => h_.1))) (Kd.R_base ho0) hb); have n5_ := am_ (Kd.R_elder' (Sh.rl (Kd.R_mono (Kd.R_far (p := ⟨gb498, 2, none⟩) (Kd.R_far (p := ⟨gb498, 1, none⟩) (Kd.R_far (p := ⟨gb498, 0, none⟩) (Kd.R_types HO495.out BK498.out (by decide)) (fun _ hk => hk.2) (.int .i64 t489)) (fun _ hk => hk.2) (.slice Ao20 t490.length co20)) (fun _ hk => hk.2) (.slice Ao21 t493.length co21)) (fun _ h_ => h_.1))) (Kd.R_base ho1) hb); have n6_ := am_ (Kd.R_lower (Kd.R_new' (Kd.R_new' ho0 (Kd.R_lt (Sh.rl (Kd.R_mono (Kd.R_far (p := ⟨gb498, 2, none⟩) (Kd.R_far (p := ⟨gb498, 1, none⟩) (Kd.R_far (p := ⟨gb498, 0, none⟩) (Kd.R_types HO478.out BK498.out (by decide)) (fun _ hk => hk.2) (.int .i64 t489)) (fun _ hk => hk.2) (.slice Ao20 t490.length co20)) (fun _ hk => hk.2) (.slice Ao21 t493.length co21)) (fun _ h_ => h_.1))))) (Kd.R_lt (Sh.rl (Kd.R_mono (Kd.R_far (p := ⟨gb498, 2, none⟩) (Kd.R_far (p := ⟨gb498, 1, none⟩) (Kd.R_far (p := ⟨gb498, 0, none⟩) (Kd.R_types HO492.out BK498.out (by decide)) (fun _ hk => hk.2) (.int .i64 t489)) (fun _ hk => hk.2) (.slice Ao20 t490.length co20)) (fun _ hk => hk.2) (.slice Ao21 t493.length co21)) (fun _ h_ => h_.1))))) (below_size Sh.bw)); have n7_ := am_ (Kd.R_lower (Kd.R_new' (Kd.R_new' (Kd.R_new' (Kd.R_new' ho1 (Kd.R_lt (Sh.rl (Kd.R_mono (Kd.R_far (p := ⟨gb498, 2, none⟩) (Kd.R_far (p := ⟨gb498, 1, none⟩) (Kd.R_far (p := ⟨gb498, 0, none⟩) (Kd.R_types HO481.out BK498.out (by decide)) (fun _ hk => hk.2) (.int .i64 t489)) (fun _ hk => hk.2) (.slice Ao20 t490.length co20)) (fun _ hk => hk.2) (.slice Ao21 t493.length co21)) (fun _ h_ => h_.1))))) (Kd.R_lt (Sh.rl (Kd.R_mono (Kd.R_far (p := ⟨gb498, 2, none⟩) (Kd.R_far (p := ⟨gb498, 1, none⟩) (Kd.R_far (p := ⟨gb498, 0, none⟩) (Kd.R_types HO484.out BK498.out (by decide)) (fun _ hk => hk.2) (.int .i64 t489)) (fun _ hk => hk.2) (.slice Ao20 t490.length co20)) (fun _ hk => hk.2) (.slice Ao21 t493.length co21)) (fun _ h_ => h_.1))))) (Kd.R_lt (Sh.rl (Kd.R_mono (Kd.R_far (p := ⟨gb498, 2, none⟩) (Kd.R_far (p := ⟨gb498, 1, none⟩) (Kd.R_far (p := ⟨gb498, 0, none⟩) (Kd.R_types HO487.out BK498.out (by decide)) (fun _ hk => hk.2) (.int .i64 t489)) (fun _ hk => hk.2) (.slice Ao20 t490.length co20)) (fun _ hk => hk.2) (.slice Ao21 t493.length co21)) (fun _ h_ => h_.1))))) (Kd.R_lt (Sh.rl (Kd.R_mono (Kd.R_far (p := ⟨gb498, 2, none⟩) (Kd.R_far (p := ⟨gb498, 1, none⟩) (Kd.R_far (p := ⟨gb498, 0, none⟩) (Kd.R_types HO495.out BK498.out (by decide)) (fun _ hk => hk.2) (.int .i64 t489)) (fun _ hk => hk.2) (.slice Ao20 t490.length co20)) (fun _ hk => hk.2) (.slice Ao21 t493.length co21)) (fun _ h_ => h_.1))))) (below_size Sh.bw)); have n8_ := am_ (blk_below (g := gb488) (o := .cells #[.int .i64 t475, .slice Ao12 t476.length co12, .slice Ao13 t479.length co13] 27 (0, 0)) (by refine Sh.pl ?_; refine blk_far ?_ NB488_498.out _; refine Sh.pl ?_; refine blk_far ?_ NB488_498.out _; refine Sh.pl ?_; refine blk_far ?_ NB488_498.out _; refine Sh.pl ?_; exact BK488.out) hb); have n9_ := am_ (blk_below (g := gb498) (o := .cells #[.int .i64 t489, .slice Ao20 t490.length co20, .slice Ao21 t493.length co21] 27 (0, 0)) (by refine Sh.pl ?_; refine blk_put (cs := #[.int .i64 t489, .slice Ao20 t490.length co20, .slice none 0 0]) ?_ 2 _ rfl; refine Sh.pl ?_; refine blk_put (cs := #[.int .i64 t489, .slice none 0 0, .slice none 0 0]) ?_ 1 _ rfl; refine Sh.pl ?_; refine blk_put (cs := #[.int .i64 0, .slice none 0 0, .slice none 0 0]) ?_ 0 _ rfl; refine Sh.pl ?_; exact BK498.out) hb); have n10_ := am_ (below_step Sh.bw hb); clear HO478; clear HO481; clear HO484; clear HO487; clear HO492; clear HO495; clear BK488; clear BK498; clear HB; have HO478 := n0_; have HO481 := n1_; have HO484 := n2_; have HO487 := n3_; have HO492 := n4_; have HO495 := n5_; have HO502 := n6_; have HO505 := n7_; have BK488 := n8_; have BK498 := n9_; have HB := n10_; clear n0_ n1_ n2_ n3_ n4_ n5_ n6_ n7_ n8_ n9_ n10_; (try clear hb); (try clear hb2); (try clear hk); (try clear hi); (try clear ho0); (try clear ho1)) | ((with_reducible refine Sh.d 11 ?_); (try (refine gate_guard (by rfl) ?_; dsimp only)); refine Sh.bx (N := 11) (cs := #[.int .i64 0, .slice none 0 0, .slice none 0 0]) (t := 27) (h := ?_); intro gb508 hg w24 hbox hb; replace HO478 := am_ (Kd.R_below (Sh.rl HO478.out) hb); replace HO481 := am_ (Kd.R_below (Sh.rl HO481.out) hb); replace HO484 := am_ (Kd.R_below (Sh.rl HO484.out) hb); replace HO487 := am_ (Kd.R_below (Sh.rl HO487.out) hb); replace HO492 := am_ (Kd.R_below (Sh.rl HO492.out) hb); replace HO495 := am_ (Kd.R_below (Sh.rl HO495.out) hb); replace HO502 := am_ (Kd.R_below (Sh.rl HO502.out) hb); replace HO505 := am_ (Kd.R_below (Sh.rl HO505.out) hb); have BK508 := am_ hbox; have GE508 := Sh.ag w hg; replace HB := Sh.hb hb; have NB488_508 := am_ (Sh.nl hg BK488.out); have NB508_488 := am_ (Sh.ng hg BK488.out); replace BK488 := Sh.ab BK488 hb; have NB498_508 := am_ (Sh.nl hg BK498.out); have NB508_498 := am_ (Sh.ng hg BK498.out); replace BK498 := Sh.ab BK498 hb; clear hb hbox hg; have hnb25 := NB508_488.out; have hnc25 := NB488_508.out; have hnb26 := NB508_498.out; have hnc26 := NB498_508.out; obtain ⟨hcz27_0, hcz27_1, hcz27_2, hfz27_0, hfz27_1, hfz27_2⟩ := Sh.b3 BK508.out; obtain ⟨Ao28, co28, eo28⟩ := Kd.R_slice HO502.out; subst eo28; obtain ⟨Ao29, co29, eo29⟩ := Kd.R_slice HO505.out; subst eo29))
  (try simp only [Act.put, List.setIfInBounds_toArray, List.set_cons_zero, List.set_cons_succ])
  go_cut [64] (fun v64 wc => ∃ (kq : Nat) (x64_7 : Bool), v64 = .bool x64_7 ∧ Aside0 (laws_FnCompared.j0 kq l1 t482 t485 t496 t497 x64_7 t475 t476 t479 t489 t490 t493 = some r) ∧ Aside0 (kq ≤ k) ∧ Aside0 (Kd.R (Kd.int .i64) 3 wc w.heap.size (fun k_ => some k_ ≠ ((.slice Ao15 t485.length co15) : Value).ownBlock ∧ some k_ ≠ ((.slice Ao13 t479.length co13) : Value).ownBlock ∧ some k_ ≠ ((.slice Ao21 t493.length co21) : Value).ownBlock ∧ some k_ ≠ ((.slice Ao29 t503.length co29) : Value).ownBlock) (.slice Ao14 t482.length co14) t482) ∧ Aside0 (Kd.R (Kd.int .i64) 3 wc w.heap.size (fun k_ => some k_ ≠ ((.slice Ao14 t482.length co14) : Value).ownBlock ∧ some k_ ≠ ((.slice Ao13 t479.length co13) : Value).ownBlock ∧ some k_ ≠ ((.slice Ao21 t493.length co21) : Value).ownBlock ∧ some k_ ≠ ((.slice Ao29 t503.length co29) : Value).ownBlock) (.slice Ao15 t485.length co15) t485) ∧ Aside0 (Kd.R k66 66 wc w.heap.size (fun k_ => some k_ ≠ ((.slice Ao20 t490.length co20) : Value).ownBlock ∧ some k_ ≠ ((.slice Ao28 t500.length co28) : Value).ownBlock) (.slice Ao12 t476.length co12) t476) ∧ Aside0 (Kd.R (Kd.int .i64) 3 wc w.heap.size (fun k_ => some k_ ≠ ((.slice Ao14 t482.length co14) : Value).ownBlock ∧ some k_ ≠ ((.slice Ao15 t485.length co15) : Value).ownBlock ∧ some k_ ≠ ((.slice Ao21 t493.length co21) : Value).ownBlock ∧ some k_ ≠ ((.slice Ao29 t503.length co29) : Value).ownBlock) (.slice Ao13 t479.length co13) t479) ∧ Aside0 (Kd.R k66 66 wc w.heap.size (fun k_ => some k_ ≠ ((.slice Ao12 t476.length co12) : Value).ownBlock ∧ some k_ ≠ ((.slice Ao28 t500.length co28) : Value).ownBlock) (.slice Ao20 t490.length co20) t490) ∧ Aside0 (Kd.R (Kd.int .i64) 3 wc w.heap.size (fun k_ => some k_ ≠ ((.slice Ao14 t482.length co14) : Value).ownBlock ∧ some k_ ≠ ((.slice Ao15 t485.length co15) : Value).ownBlock ∧ some k_ ≠ ((.slice Ao13 t479.length co13) : Value).ownBlock ∧ some k_ ≠ ((.slice Ao29 t503.length co29) : Value).ownBlock) (.slice Ao21 t493.length co21) t493) ∧ Aside0 (Kd.R k66 66 wc w.heap.size (fun k_ => some k_ ≠ ((.slice Ao12 t476.length co12) : Value).ownBlock ∧ some k_ ≠ ((.slice Ao20 t490.length co20) : Value).ownBlock) (.slice Ao28 t500.length co28) t500) ∧ Aside0 (Kd.R (Kd.int .i64) 3 wc w.heap.size (fun k_ => some k_ ≠ ((.slice Ao14 t482.length co14) : Value).ownBlock ∧ some k_ ≠ ((.slice Ao15 t485.length co15) : Value).ownBlock ∧ some k_ ≠ ((.slice Ao13 t479.length co13) : Value).ownBlock ∧ some k_ ≠ ((.slice Ao21 t493.length co21) : Value).ownBlock) (.slice Ao29 t503.length co29) t503) ∧ Aside0 (wc.heap[gb488]? = some (.cells #[.int .i64 t475, (.slice Ao12 t476.length co12), (.slice Ao13 t479.length co13)] 27 (0, 0))) ∧ Aside0 (wc.heap[gb498]? = some (.cells #[.int .i64 t489, (.slice Ao20 t490.length co20), (.slice Ao21 t493.length co21)] 27 (0, 0))) ∧ Aside0 (wc.heap[gb508]? = some (.cells #[.int .i64 t499, (.slice Ao28 t500.length co28), (.slice Ao29 t503.length co29)] 27 (0, 0))) ∧ Aside0 (Below w.heap.size w wc))
  case first =>
   as_aux_lemma =>
    have H := HC8.out
    clear HC8
    by_cases c30 : (t497 != t507) = true
    ·rw [if_pos c30] at H
     have c30b0 : (t497 != t507) = true := c30
     (try (have c30b1 : decide (t497 = t507) = false := by simpa using c30))
     (try (have c30b2 : (t497 == t507) = false := by simpa using c30))
     (try (have c30b3 : ¬ (t497 = t507) := by simpa using c30))
     clear c30
     first | rw [c30b0] | (simp only [i64_w, i32_w]; rw [c30b0]) | skip
     have H' := am_ H
     clear H
     go_wp2
     go_meet
     case rel => exact ⟨_, (true), (Sh.es), H', ⟨Sh.om⟩, ⟨Sh.rl (Kd.R_mono (Kd.R_far (p := ⟨gb508, 2, none⟩) (Kd.R_far (p := ⟨gb508, 1, none⟩) (Kd.R_far (p := ⟨gb508, 0, none⟩) (Kd.R_types HO484.out BK508.out (by decide)) (fun _ hk => hk.2) (.int .i64 t499)) (fun _ hk => hk.2) (.slice Ao28 t500.length co28)) (fun _ hk => hk.2) (.slice Ao29 t503.length co29)) (fun _ h => ⟨h.1.1.1.2, h.1.1.1.1, h.1.1.2, h.1.2⟩))⟩, ⟨Sh.rl (Kd.R_mono (Kd.R_far (p := ⟨gb508, 2, none⟩) (Kd.R_far (p := ⟨gb508, 1, none⟩) (Kd.R_far (p := ⟨gb508, 0, none⟩) (Kd.R_types HO487.out BK508.out (by decide)) (fun _ hk => hk.2) (.int .i64 t499)) (fun _ hk => hk.2) (.slice Ao28 t500.length co28)) (fun _ hk => hk.2) (.slice Ao29 t503.length co29)) (fun _ h => ⟨h.1.1.1.2, h.1.1.1.1, h.1.1.2, h.1.2⟩))⟩, ⟨Sh.rl (Kd.R_mono (Kd.R_far (p := ⟨gb508, 2, none⟩) (Kd.R_far (p := ⟨gb508, 1, none⟩) (Kd.R_far (p := ⟨gb508, 0, none⟩) (Kd.R_types HO478.out BK508.out (by decide)) (fun _ hk => hk.2) (.int .i64 t499)) (fun _ hk => hk.2) (.slice Ao28 t500.length co28)) (fun _ hk => hk.2) (.slice Ao29 t503.length co29)) (fun _ h => ⟨h.1.1.2, h.1.2⟩))⟩, ⟨Sh.rl (Kd.R_mono (Kd.R_far (p := ⟨gb508, 2, none⟩) (Kd.R_far (p := ⟨gb508, 1, none⟩) (Kd.R_far (p := ⟨gb508, 0, none⟩) (Kd.R_types HO481.out BK508.out (by decide)) (fun _ hk => hk.2) (.int .i64 t499)) (fun _ hk => hk.2) (.slice Ao28 t500.length co28)) (fun _ hk => hk.2) (.slice Ao29 t503.length co29)) (fun _ h => ⟨h.1.1.1.1, h.1.1.1.2, h.1.1.2, h.1.2⟩))⟩, ⟨Sh.rl (Kd.R_mono (Kd.R_far (p := ⟨gb508, 2, none⟩) (Kd.R_far (p := ⟨gb508, 1, none⟩) (Kd.R_far (p := ⟨gb508, 0, none⟩) (Kd.R_types HO492.out BK508.out (by decide)) (fun _ hk => hk.2) (.int .i64 t499)) (fun _ hk => hk.2) (.slice Ao28 t500.length co28)) (fun _ hk => hk.2) (.slice Ao29 t503.length co29)) (fun _ h => ⟨h.1.1.2, h.1.2⟩))⟩, ⟨Sh.rl (Kd.R_mono (Kd.R_far (p := ⟨gb508, 2, none⟩) (Kd.R_far (p := ⟨gb508, 1, none⟩) (Kd.R_far (p := ⟨gb508, 0, none⟩) (Kd.R_types HO495.out BK508.out (by decide)) (fun _ hk => hk.2) (.int .i64 t499)) (fun _ hk => hk.2) (.slice Ao28 t500.length co28)) (fun _ hk => hk.2) (.slice Ao29 t503.length co29)) (fun _ h => ⟨h.1.1.1.2, h.1.1.2, h.1.1.1.1.2, h.1.2⟩))⟩, ⟨Sh.rl (Kd.R_mono (Kd.R_far (p := ⟨gb508, 2, none⟩) (Kd.R_far (p := ⟨gb508, 1, none⟩) (Kd.R_far (p := ⟨gb508, 0, none⟩) (Kd.R_types HO502.out BK508.out (by decide)) (fun _ hk => hk.2) (.int .i64 t499)) (fun _ hk => hk.2) (.slice Ao28 t500.length co28)) (fun _ hk => hk.2) (.slice Ao29 t503.length co29)) (fun _ h => ⟨h.1.1.2, h.1.2⟩))⟩, ⟨Sh.rl (Kd.R_mono (Kd.R_far (p := ⟨gb508, 2, none⟩) (Kd.R_far (p := ⟨gb508, 1, none⟩) (Kd.R_far (p := ⟨gb508, 0, none⟩) (Kd.R_types HO505.out BK508.out (by decide)) (fun _ hk => hk.2) (.int .i64 t499)) (fun _ hk => hk.2) (.slice Ao28 t500.length co28)) (fun _ hk => hk.2) (.slice Ao29 t503.length co29)) (fun _ h => ⟨h.1.1.1.2, h.1.1.2, h.1.1.1.1.2, h.1.2⟩))⟩, ⟨by refine Sh.pl ?_; refine blk_far ?_ NB488_508.out _; refine Sh.pl ?_; refine blk_far ?_ NB488_508.out _; refine Sh.pl ?_; refine blk_far ?_ NB488_508.out _; refine Sh.pl ?_; exact BK488.out⟩, ⟨by refine Sh.pl ?_; refine blk_far ?_ NB498_508.out _; refine Sh.pl ?_; refine blk_far ?_ NB498_508.out _; refine Sh.pl ?_; refine blk_far ?_ NB498_508.out _; refine Sh.pl ?_; exact BK498.out⟩, ⟨by refine Sh.pl ?_; refine blk_put (cs := #[.int .i64 t499, .slice Ao28 t500.length co28, .slice none 0 0]) ?_ 2 _ rfl; refine Sh.pl ?_; refine blk_put (cs := #[.int .i64 t499, .slice none 0 0, .slice none 0 0]) ?_ 1 _ rfl; refine Sh.pl ?_; refine blk_put (cs := #[.int .i64 0, .slice none 0 0, .slice none 0 0]) ?_ 0 _ rfl; refine Sh.pl ?_; exact BK508.out⟩, ⟨Sh.bw⟩⟩
    ·rw [if_neg c30] at H
     have c30b0 : (t497 != t507) = false := by simpa using c30
     (try (have c30b1 : decide (t497 = t507) = true := by simpa using c30))
     (try (have c30b2 : (t497 == t507) = true := by simpa using c30))
     clear c30
     first | rw [c30b0] | (simp only [i64_w, i32_w]; rw [c30b0]) | skip
     obtain ⟨t509, A31, H⟩ := Sh.ba H
     by_cases c32 : t509 = true
     ·subst c32
      rw [if_pos rfl] at H
      have H' := am_ H
      clear H
      have hnb33 := NB498_488.out
      have hnc33 := NB488_498.out
      have hnb34 := NB498_508.out
      have hnc34 := NB508_498.out
      have hcz35_0 := Sh.bc BK498.out 0
      have hcz35_1 := Sh.bc BK498.out 1
      have hcz35_2 := Sh.bc BK498.out 2
      have hfz35_0 := blk_frozen BK498.out 0
      have hfz35_1 := blk_frozen BK498.out 1
      have hfz35_2 := blk_frozen BK498.out 2
      have hnb36 := NB508_488.out
      have hnc36 := NB488_508.out
      have hcz37_0 := Sh.bc BK508.out 0
      have hcz37_1 := Sh.bc BK508.out 1
      have hcz37_2 := Sh.bc BK508.out 2
      have hfz37_0 := blk_frozen BK508.out 0
      have hfz37_1 := blk_frozen BK508.out 1
      have hfz37_2 := blk_frozen BK508.out 2
      go_wp2_with (first | (go_at_call 9; (with_reducible refine (laws_sameCircuit.calls k t489 _ _ t490 _ _ t493 t499 _ _ t500 _ _ t503 true _ ?side1 ?side2 ?side3 ?side4 ?side5 ?side6 ?side7 ?side8 A31.out).mono ?_); (case side1 => refine (Kd.R_reads' (e := 66) (base := w.heap.size) (ok := fun k_ => ((True ∧ some k_ ≠ (.slice Ao12 t476.length co12 : Value).ownBlock) ∧ some k_ ≠ (.slice Ao28 t500.length co28 : Value).ownBlock)) (n := t490.length) (c := co20) ?_).2.2; exact (Sh.rl (Kd.R_mono (Kd.R_far (p := ⟨gb508, 2, none⟩) (Kd.R_far (p := ⟨gb508, 1, none⟩) (Kd.R_far (p := ⟨gb508, 0, none⟩) (Kd.R_types HO492.out BK508.out (by decide)) (fun _ hk => hk.2) (.int .i64 t499)) (fun _ hk => hk.2) (.slice Ao28 t500.length co28)) (fun _ hk => hk.2) (.slice Ao29 t503.length co29)) (fun _ h_ => h_.1)))); (case side2 => exact (Kd.R_reads' HO492.out).2.1); (case side3 => refine (Kd.R_reads' (e := 3) (base := w.heap.size) (ok := fun k_ => ((((True ∧ some k_ ≠ (.slice Ao13 t479.length co13 : Value).ownBlock) ∧ some k_ ≠ (.slice Ao14 t482.length co14 : Value).ownBlock) ∧ some k_ ≠ (.slice Ao15 t485.length co15 : Value).ownBlock) ∧ some k_ ≠ (.slice Ao29 t503.length co29 : Value).ownBlock)) (n := t493.length) (c := co21) ?_).2.2; exact (Sh.rl (Kd.R_mono (Kd.R_far (p := ⟨gb508, 2, none⟩) (Kd.R_far (p := ⟨gb508, 1, none⟩) (Kd.R_far (p := ⟨gb508, 0, none⟩) (Kd.R_types HO495.out BK508.out (by decide)) (fun _ hk => hk.2) (.int .i64 t499)) (fun _ hk => hk.2) (.slice Ao28 t500.length co28)) (fun _ hk => hk.2) (.slice Ao29 t503.length co29)) (fun _ h_ => h_.1)))); (case side4 => exact (Kd.R_reads' HO495.out).2.1); (case side5 => refine (Kd.R_reads' (e := 66) (base := w.heap.size) (ok := fun k_ => ((True ∧ some k_ ≠ (.slice Ao12 t476.length co12 : Value).ownBlock) ∧ some k_ ≠ (.slice Ao20 t490.length co20 : Value).ownBlock)) (n := t500.length) (c := co28) ?_).2.2; exact (Sh.rl (Kd.R_mono (Kd.R_far (p := ⟨gb508, 2, none⟩) (Kd.R_far (p := ⟨gb508, 1, none⟩) (Kd.R_far (p := ⟨gb508, 0, none⟩) (Kd.R_types HO502.out BK508.out (by decide)) (fun _ hk => hk.2) (.int .i64 t499)) (fun _ hk => hk.2) (.slice Ao28 t500.length co28)) (fun _ hk => hk.2) (.slice Ao29 t503.length co29)) (fun _ h_ => h_.1)))); (case side6 => exact (Kd.R_reads' HO502.out).2.1); (case side7 => refine (Kd.R_reads' (e := 3) (base := w.heap.size) (ok := fun k_ => ((((True ∧ some k_ ≠ (.slice Ao13 t479.length co13 : Value).ownBlock) ∧ some k_ ≠ (.slice Ao14 t482.length co14 : Value).ownBlock) ∧ some k_ ≠ (.slice Ao15 t485.length co15 : Value).ownBlock) ∧ some k_ ≠ (.slice Ao21 t493.length co21 : Value).ownBlock)) (n := t503.length) (c := co29) ?_).2.2; exact (Sh.rl (Kd.R_mono (Kd.R_far (p := ⟨gb508, 2, none⟩) (Kd.R_far (p := ⟨gb508, 1, none⟩) (Kd.R_far (p := ⟨gb508, 0, none⟩) (Kd.R_types HO505.out BK508.out (by decide)) (fun _ hk => hk.2) (.int .i64 t499)) (fun _ hk => hk.2) (.slice Ao28 t500.length co28)) (fun _ hk => hk.2) (.slice Ao29 t503.length co29)) (fun _ h_ => h_.1)))); (case side8 => exact (Kd.R_reads' HO505.out).2.1); rintro e w38 ⟨rfl, hb⟩; have n0_ := am_ (Kd.R_below (Sh.rl (Kd.R_mono (Kd.R_far (p := ⟨gb508, 2, none⟩) (Kd.R_far (p := ⟨gb508, 1, none⟩) (Kd.R_far (p := ⟨gb508, 0, none⟩) (Kd.R_types HO478.out BK508.out (by decide)) (fun _ hk => hk.2) (.int .i64 t499)) (fun _ hk => hk.2) (.slice Ao28 t500.length co28)) (fun _ hk => hk.2) (.slice Ao29 t503.length co29)) (fun _ h_ => h_.1))) hb); have n1_ := am_ (Kd.R_below (Sh.rl (Kd.R_mono (Kd.R_far (p := ⟨gb508, 2, none⟩) (Kd.R_far (p := ⟨gb508, 1, none⟩) (Kd.R_far (p := ⟨gb508, 0, none⟩) (Kd.R_types HO481.out BK508.out (by decide)) (fun _ hk => hk.2) (.int .i64 t499)) (fun _ hk => hk.2) (.slice Ao28 t500.length co28)) (fun _ hk => hk.2) (.slice Ao29 t503.length co29)) (fun _ h_ => h_.1))) hb); have n2_ := am_ (Kd.R_below (Sh.rl (Kd.R_mono (Kd.R_far (p := ⟨gb508, 2, none⟩) (Kd.R_far (p := ⟨gb508, 1, none⟩) (Kd.R_far (p := ⟨gb508, 0, none⟩) (Kd.R_types HO484.out BK508.out (by decide)) (fun _ hk => hk.2) (.int .i64 t499)) (fun _ hk => hk.2) (.slice Ao28 t500.length co28)) (fun _ hk => hk.2) (.slice Ao29 t503.length co29)) (fun _ h_ => h_.1))) hb); have n3_ := am_ (Kd.R_below (Sh.rl (Kd.R_mono (Kd.R_far (p := ⟨gb508, 2, none⟩) (Kd.R_far (p := ⟨gb508, 1, none⟩) (Kd.R_far (p := ⟨gb508, 0, none⟩) (Kd.R_types HO487.out BK508.out (by decide)) (fun _ hk => hk.2) (.int .i64 t499)) (fun _ hk => hk.2) (.slice Ao28 t500.length co28)) (fun _ hk => hk.2) (.slice Ao29 t503.length co29)) (fun _ h_ => h_.1))) hb); have n4_ := am_ (Kd.R_below (Sh.rl (Kd.R_mono (Kd.R_far (p := ⟨gb508, 2, none⟩) (Kd.R_far (p := ⟨gb508, 1, none⟩) (Kd.R_far (p := ⟨gb508, 0, none⟩) (Kd.R_types HO492.out BK508.out (by decide)) (fun _ hk => hk.2) (.int .i64 t499)) (fun _ hk => hk.2) (.slice Ao28 t500.length co28)) (fun _ hk => hk.2) (.slice Ao29 t503.length co29)) (fun _ h_ => h_.1))) hb); have n5_ := am_ (Kd.R_below (Sh.rl (Kd.R_mono (Kd.R_far (p := ⟨gb508, 2, none⟩) (Kd.R_far (p := ⟨gb508, 1, none⟩) (Kd.R_far (p := ⟨gb508, 0, none⟩) (Kd.R_types HO495.out BK508.out (by decide)) (fun _ hk => hk.2) (.int .i64 t499)) (fun _ hk => hk.2) (.slice Ao28 t500.length co28)) (fun _ hk => hk.2) (.slice Ao29 t503.length co29)) (fun _ h_ => h_.1))) hb); have n6_ := am_ (Kd.R_below (Sh.rl (Kd.R_mono (Kd.R_far (p := ⟨gb508, 2, none⟩) (Kd.R_far (p := ⟨gb508, 1, none⟩) (Kd.R_far (p := ⟨gb508, 0, none⟩) (Kd.R_types HO502.out BK508.out (by decide)) (fun _ hk => hk.2) (.int .i64 t499)) (fun _ hk => hk.2) (.slice Ao28 t500.length co28)) (fun _ hk => hk.2) (.slice Ao29 t503.length co29)) (fun _ h_ => h_.1))) hb); have n7_ := am_ (Kd.R_below (Sh.rl (Kd.R_mono (Kd.R_far (p := ⟨gb508, 2, none⟩) (Kd.R_far (p := ⟨gb508, 1, none⟩) (Kd.R_far (p := ⟨gb508, 0, none⟩) (Kd.R_types HO505.out BK508.out (by decide)) (fun _ hk => hk.2) (.int .i64 t499)) (fun _ hk => hk.2) (.slice Ao28 t500.length co28)) (fun _ hk => hk.2) (.slice Ao29 t503.length co29)) (fun _ h_ => h_.1))) hb); have n8_ := am_ (blk_below (g := gb488) (o := .cells #[.int .i64 t475, .slice Ao12 t476.length co12, .slice Ao13 t479.length co13] 27 (0, 0)) (by refine Sh.pl ?_; refine blk_far ?_ NB488_508.out _; refine Sh.pl ?_; refine blk_far ?_ NB488_508.out _; refine Sh.pl ?_; refine blk_far ?_ NB488_508.out _; refine Sh.pl ?_; exact BK488.out) hb); have n9_ := am_ (blk_below (g := gb498) (o := .cells #[.int .i64 t489, .slice Ao20 t490.length co20, .slice Ao21 t493.length co21] 27 (0, 0)) (by refine Sh.pl ?_; refine blk_far ?_ NB498_508.out _; refine Sh.pl ?_; refine blk_far ?_ NB498_508.out _; refine Sh.pl ?_; refine blk_far ?_ NB498_508.out _; refine Sh.pl ?_; exact BK498.out) hb); have n10_ := am_ (blk_below (g := gb508) (o := .cells #[.int .i64 t499, .slice Ao28 t500.length co28, .slice Ao29 t503.length co29] 27 (0, 0)) (by refine Sh.pl ?_; refine blk_put (cs := #[.int .i64 t499, .slice Ao28 t500.length co28, .slice none 0 0]) ?_ 2 _ rfl; refine Sh.pl ?_; refine blk_put (cs := #[.int .i64 t499, .slice none 0 0, .slice none 0 0]) ?_ 1 _ rfl; refine Sh.pl ?_; refine blk_put (cs := #[.int .i64 0, .slice none 0 0, .slice none 0 0]) ?_ 0 _ rfl; refine Sh.pl ?_; exact BK508.out) hb); have n11_ := am_ (below_step Sh.bw hb); clear HO478; clear HO481; clear HO484; clear HO487; clear HO492; clear HO495; clear HO502; clear HO505; clear BK488; clear BK498; clear BK508; clear HB; have HO478 := n0_; have HO481 := n1_; have HO484 := n2_; have HO487 := n3_; have HO492 := n4_; have HO495 := n5_; have HO502 := n6_; have HO505 := n7_; have BK488 := n8_; have BK498 := n9_; have BK508 := n10_; have HB := n11_; clear n0_ n1_ n2_ n3_ n4_ n5_ n6_ n7_ n8_ n9_ n10_ n11_; (try clear hb); (try clear hb2); (try clear hk); (try clear hi)))
      go_meet
      case rel => exact ⟨_, ((t496 != t506)), (Sh.es), H', ⟨Sh.om⟩, ⟨Sh.rl (Kd.R_mono HO484.out (fun _ h => ⟨h.1.1.2, h.1.1.1, h.1.2, h.2⟩))⟩, ⟨Sh.rl (Kd.R_mono HO487.out (fun _ h => ⟨h.1.1.2, h.1.1.1, h.1.2, h.2⟩))⟩, ⟨Sh.rl (Kd.R_mono HO478.out (fun _ h => ⟨h.1.2, h.2⟩))⟩, ⟨Sh.rl (Kd.R_mono HO481.out (fun _ h => ⟨h.1.1.1, h.1.1.2, h.1.2, h.2⟩))⟩, ⟨Sh.rl (Kd.R_mono HO492.out (fun _ h => ⟨h.1.2, h.2⟩))⟩, ⟨Sh.rl (Kd.R_mono HO495.out (fun _ h => ⟨h.1.1.2, h.1.2, h.1.1.1.2, h.2⟩))⟩, ⟨Sh.rl (Kd.R_mono HO502.out (fun _ h => ⟨h.1.2, h.2⟩))⟩, ⟨Sh.rl (Kd.R_mono HO505.out (fun _ h => ⟨h.1.1.2, h.1.2, h.1.1.1.2, h.2⟩))⟩, ⟨by refine Sh.pl ?_; exact BK488.out⟩, ⟨by refine Sh.pl ?_; exact BK498.out⟩, ⟨by refine Sh.pl ?_; exact BK508.out⟩, ⟨Sh.bw⟩⟩
     ·replace c32 := Bool.eq_false_iff.mpr c32
      subst c32
      rw [Sh.nf] at H
      have H' := am_ H
      clear H
      have hnb39 := NB498_488.out
      have hnc39 := NB488_498.out
      have hnb40 := NB498_508.out
      have hnc40 := NB508_498.out
      have hcz41_0 := Sh.bc BK498.out 0
      have hcz41_1 := Sh.bc BK498.out 1
      have hcz41_2 := Sh.bc BK498.out 2
      have hfz41_0 := blk_frozen BK498.out 0
      have hfz41_1 := blk_frozen BK498.out 1
      have hfz41_2 := blk_frozen BK498.out 2
      have hnb42 := NB508_488.out
      have hnc42 := NB488_508.out
      have hcz43_0 := Sh.bc BK508.out 0
      have hcz43_1 := Sh.bc BK508.out 1
      have hcz43_2 := Sh.bc BK508.out 2
      have hfz43_0 := blk_frozen BK508.out 0
      have hfz43_1 := blk_frozen BK508.out 1
      have hfz43_2 := blk_frozen BK508.out 2
      go_wp2_with (first | (go_at_call 9; (with_reducible refine (laws_sameCircuit.calls k t489 _ _ t490 _ _ t493 t499 _ _ t500 _ _ t503 false _ ?side1 ?side2 ?side3 ?side4 ?side5 ?side6 ?side7 ?side8 A31.out).mono ?_); (case side1 => refine (Kd.R_reads' (e := 66) (base := w.heap.size) (ok := fun k_ => ((True ∧ some k_ ≠ (.slice Ao12 t476.length co12 : Value).ownBlock) ∧ some k_ ≠ (.slice Ao28 t500.length co28 : Value).ownBlock)) (n := t490.length) (c := co20) ?_).2.2; exact (Sh.rl (Kd.R_mono (Kd.R_far (p := ⟨gb508, 2, none⟩) (Kd.R_far (p := ⟨gb508, 1, none⟩) (Kd.R_far (p := ⟨gb508, 0, none⟩) (Kd.R_types HO492.out BK508.out (by decide)) (fun _ hk => hk.2) (.int .i64 t499)) (fun _ hk => hk.2) (.slice Ao28 t500.length co28)) (fun _ hk => hk.2) (.slice Ao29 t503.length co29)) (fun _ h_ => h_.1)))); (case side2 => exact (Kd.R_reads' HO492.out).2.1); (case side3 => refine (Kd.R_reads' (e := 3) (base := w.heap.size) (ok := fun k_ => ((((True ∧ some k_ ≠ (.slice Ao13 t479.length co13 : Value).ownBlock) ∧ some k_ ≠ (.slice Ao14 t482.length co14 : Value).ownBlock) ∧ some k_ ≠ (.slice Ao15 t485.length co15 : Value).ownBlock) ∧ some k_ ≠ (.slice Ao29 t503.length co29 : Value).ownBlock)) (n := t493.length) (c := co21) ?_).2.2; exact (Sh.rl (Kd.R_mono (Kd.R_far (p := ⟨gb508, 2, none⟩) (Kd.R_far (p := ⟨gb508, 1, none⟩) (Kd.R_far (p := ⟨gb508, 0, none⟩) (Kd.R_types HO495.out BK508.out (by decide)) (fun _ hk => hk.2) (.int .i64 t499)) (fun _ hk => hk.2) (.slice Ao28 t500.length co28)) (fun _ hk => hk.2) (.slice Ao29 t503.length co29)) (fun _ h_ => h_.1)))); (case side4 => exact (Kd.R_reads' HO495.out).2.1); (case side5 => refine (Kd.R_reads' (e := 66) (base := w.heap.size) (ok := fun k_ => ((True ∧ some k_ ≠ (.slice Ao12 t476.length co12 : Value).ownBlock) ∧ some k_ ≠ (.slice Ao20 t490.length co20 : Value).ownBlock)) (n := t500.length) (c := co28) ?_).2.2; exact (Sh.rl (Kd.R_mono (Kd.R_far (p := ⟨gb508, 2, none⟩) (Kd.R_far (p := ⟨gb508, 1, none⟩) (Kd.R_far (p := ⟨gb508, 0, none⟩) (Kd.R_types HO502.out BK508.out (by decide)) (fun _ hk => hk.2) (.int .i64 t499)) (fun _ hk => hk.2) (.slice Ao28 t500.length co28)) (fun _ hk => hk.2) (.slice Ao29 t503.length co29)) (fun _ h_ => h_.1)))); (case side6 => exact (Kd.R_reads' HO502.out).2.1); (case side7 => refine (Kd.R_reads' (e := 3) (base := w.heap.size) (ok := fun k_ => ((((True ∧ some k_ ≠ (.slice Ao13 t479.length co13 : Value).ownBlock) ∧ some k_ ≠ (.slice Ao14 t482.length co14 : Value).ownBlock) ∧ some k_ ≠ (.slice Ao15 t485.length co15 : Value).ownBlock) ∧ some k_ ≠ (.slice Ao21 t493.length co21 : Value).ownBlock)) (n := t503.length) (c := co29) ?_).2.2; exact (Sh.rl (Kd.R_mono (Kd.R_far (p := ⟨gb508, 2, none⟩) (Kd.R_far (p := ⟨gb508, 1, none⟩) (Kd.R_far (p := ⟨gb508, 0, none⟩) (Kd.R_types HO505.out BK508.out (by decide)) (fun _ hk => hk.2) (.int .i64 t499)) (fun _ hk => hk.2) (.slice Ao28 t500.length co28)) (fun _ hk => hk.2) (.slice Ao29 t503.length co29)) (fun _ h_ => h_.1)))); (case side8 => exact (Kd.R_reads' HO505.out).2.1); rintro e w44 ⟨rfl, hb⟩; have n0_ := am_ (Kd.R_below (Sh.rl (Kd.R_mono (Kd.R_far (p := ⟨gb508, 2, none⟩) (Kd.R_far (p := ⟨gb508, 1, none⟩) (Kd.R_far (p := ⟨gb508, 0, none⟩) (Kd.R_types HO478.out BK508.out (by decide)) (fun _ hk => hk.2) (.int .i64 t499)) (fun _ hk => hk.2) (.slice Ao28 t500.length co28)) (fun _ hk => hk.2) (.slice Ao29 t503.length co29)) (fun _ h_ => h_.1))) hb); have n1_ := am_ (Kd.R_below (Sh.rl (Kd.R_mono (Kd.R_far (p := ⟨gb508, 2, none⟩) (Kd.R_far (p := ⟨gb508, 1, none⟩) (Kd.R_far (p := ⟨gb508, 0, none⟩) (Kd.R_types HO481.out BK508.out (by decide)) (fun _ hk => hk.2) (.int .i64 t499)) (fun _ hk => hk.2) (.slice Ao28 t500.length co28)) (fun _ hk => hk.2) (.slice Ao29 t503.length co29)) (fun _ h_ => h_.1))) hb); have n2_ := am_ (Kd.R_below (Sh.rl (Kd.R_mono (Kd.R_far (p := ⟨gb508, 2, none⟩) (Kd.R_far (p := ⟨gb508, 1, none⟩) (Kd.R_far (p := ⟨gb508, 0, none⟩) (Kd.R_types HO484.out BK508.out (by decide)) (fun _ hk => hk.2) (.int .i64 t499)) (fun _ hk => hk.2) (.slice Ao28 t500.length co28)) (fun _ hk => hk.2) (.slice Ao29 t503.length co29)) (fun _ h_ => h_.1))) hb); have n3_ := am_ (Kd.R_below (Sh.rl (Kd.R_mono (Kd.R_far (p := ⟨gb508, 2, none⟩) (Kd.R_far (p := ⟨gb508, 1, none⟩) (Kd.R_far (p := ⟨gb508, 0, none⟩) (Kd.R_types HO487.out BK508.out (by decide)) (fun _ hk => hk.2) (.int .i64 t499)) (fun _ hk => hk.2) (.slice Ao28 t500.length co28)) (fun _ hk => hk.2) (.slice Ao29 t503.length co29)) (fun _ h_ => h_.1))) hb); have n4_ := am_ (Kd.R_below (Sh.rl (Kd.R_mono (Kd.R_far (p := ⟨gb508, 2, none⟩) (Kd.R_far (p := ⟨gb508, 1, none⟩) (Kd.R_far (p := ⟨gb508, 0, none⟩) (Kd.R_types HO492.out BK508.out (by decide)) (fun _ hk => hk.2) (.int .i64 t499)) (fun _ hk => hk.2) (.slice Ao28 t500.length co28)) (fun _ hk => hk.2) (.slice Ao29 t503.length co29)) (fun _ h_ => h_.1))) hb); have n5_ := am_ (Kd.R_below (Sh.rl (Kd.R_mono (Kd.R_far (p := ⟨gb508, 2, none⟩) (Kd.R_far (p := ⟨gb508, 1, none⟩) (Kd.R_far (p := ⟨gb508, 0, none⟩) (Kd.R_types HO495.out BK508.out (by decide)) (fun _ hk => hk.2) (.int .i64 t499)) (fun _ hk => hk.2) (.slice Ao28 t500.length co28)) (fun _ hk => hk.2) (.slice Ao29 t503.length co29)) (fun _ h_ => h_.1))) hb); have n6_ := am_ (Kd.R_below (Sh.rl (Kd.R_mono (Kd.R_far (p := ⟨gb508, 2, none⟩) (Kd.R_far (p := ⟨gb508, 1, none⟩) (Kd.R_far (p := ⟨gb508, 0, none⟩) (Kd.R_types HO502.out BK508.out (by decide)) (fun _ hk => hk.2) (.int .i64 t499)) (fun _ hk => hk.2) (.slice Ao28 t500.length co28)) (fun _ hk => hk.2) (.slice Ao29 t503.length co29)) (fun _ h_ => h_.1))) hb); have n7_ := am_ (Kd.R_below (Sh.rl (Kd.R_mono (Kd.R_far (p := ⟨gb508, 2, none⟩) (Kd.R_far (p := ⟨gb508, 1, none⟩) (Kd.R_far (p := ⟨gb508, 0, none⟩) (Kd.R_types HO505.out BK508.out (by decide)) (fun _ hk => hk.2) (.int .i64 t499)) (fun _ hk => hk.2) (.slice Ao28 t500.length co28)) (fun _ hk => hk.2) (.slice Ao29 t503.length co29)) (fun _ h_ => h_.1))) hb); have n8_ := am_ (blk_below (g := gb488) (o := .cells #[.int .i64 t475, .slice Ao12 t476.length co12, .slice Ao13 t479.length co13] 27 (0, 0)) (by refine Sh.pl ?_; refine blk_far ?_ NB488_508.out _; refine Sh.pl ?_; refine blk_far ?_ NB488_508.out _; refine Sh.pl ?_; refine blk_far ?_ NB488_508.out _; refine Sh.pl ?_; exact BK488.out) hb); have n9_ := am_ (blk_below (g := gb498) (o := .cells #[.int .i64 t489, .slice Ao20 t490.length co20, .slice Ao21 t493.length co21] 27 (0, 0)) (by refine Sh.pl ?_; refine blk_far ?_ NB498_508.out _; refine Sh.pl ?_; refine blk_far ?_ NB498_508.out _; refine Sh.pl ?_; refine blk_far ?_ NB498_508.out _; refine Sh.pl ?_; exact BK498.out) hb); have n10_ := am_ (blk_below (g := gb508) (o := .cells #[.int .i64 t499, .slice Ao28 t500.length co28, .slice Ao29 t503.length co29] 27 (0, 0)) (by refine Sh.pl ?_; refine blk_put (cs := #[.int .i64 t499, .slice Ao28 t500.length co28, .slice none 0 0]) ?_ 2 _ rfl; refine Sh.pl ?_; refine blk_put (cs := #[.int .i64 t499, .slice none 0 0, .slice none 0 0]) ?_ 1 _ rfl; refine Sh.pl ?_; refine blk_put (cs := #[.int .i64 0, .slice none 0 0, .slice none 0 0]) ?_ 0 _ rfl; refine Sh.pl ?_; exact BK508.out) hb); have n11_ := am_ (below_step Sh.bw hb); clear HO478; clear HO481; clear HO484; clear HO487; clear HO492; clear HO495; clear HO502; clear HO505; clear BK488; clear BK498; clear BK508; clear HB; have HO478 := n0_; have HO481 := n1_; have HO484 := n2_; have HO487 := n3_; have HO492 := n4_; have HO495 := n5_; have HO502 := n6_; have HO505 := n7_; have BK488 := n8_; have BK498 := n9_; have BK508 := n10_; have HB := n11_; clear n0_ n1_ n2_ n3_ n4_ n5_ n6_ n7_ n8_ n9_ n10_ n11_; (try clear hb); (try clear hb2); (try clear hk); (try clear hi)))
      go_meet
      case rel => exact ⟨_, (true), (Sh.es), H', ⟨Sh.om⟩, ⟨Sh.rl (Kd.R_mono HO484.out (fun _ h => ⟨h.1.1.2, h.1.1.1, h.1.2, h.2⟩))⟩, ⟨Sh.rl (Kd.R_mono HO487.out (fun _ h => ⟨h.1.1.2, h.1.1.1, h.1.2, h.2⟩))⟩, ⟨Sh.rl (Kd.R_mono HO478.out (fun _ h => ⟨h.1.2, h.2⟩))⟩, ⟨Sh.rl (Kd.R_mono HO481.out (fun _ h => ⟨h.1.1.1, h.1.1.2, h.1.2, h.2⟩))⟩, ⟨Sh.rl (Kd.R_mono HO492.out (fun _ h => ⟨h.1.2, h.2⟩))⟩, ⟨Sh.rl (Kd.R_mono HO495.out (fun _ h => ⟨h.1.1.2, h.1.2, h.1.1.1.2, h.2⟩))⟩, ⟨Sh.rl (Kd.R_mono HO502.out (fun _ h => ⟨h.1.2, h.2⟩))⟩, ⟨Sh.rl (Kd.R_mono HO505.out (fun _ h => ⟨h.1.1.2, h.1.2, h.1.1.1.2, h.2⟩))⟩, ⟨by refine Sh.pl ?_; exact BK488.out⟩, ⟨by refine Sh.pl ?_; exact BK498.out⟩, ⟨by refine Sh.pl ?_; exact BK508.out⟩, ⟨Sh.bw⟩⟩
  case rest =>
   clear HC8
   try clear hcz11_0
   try clear hcz11_1
   try clear hcz11_2
   try clear hcz19_0
   try clear hcz19_1
   try clear hcz19_2
   try clear hcz22_0
   try clear hcz22_1
   try clear hcz22_2
   try clear hcz27_0
   try clear hcz27_1
   try clear hcz27_2
   try clear hcz35_0
   try clear hcz35_1
   try clear hcz35_2
   try clear hcz37_0
   try clear hcz37_1
   try clear hcz37_2
   try clear hcz41_0
   try clear hcz41_1
   try clear hcz41_2
   try clear hcz43_0
   try clear hcz43_1
   try clear hcz43_2
   try clear hfz11_0
   try clear hfz11_1
   try clear hfz11_2
   try clear hfz19_0
   try clear hfz19_1
   try clear hfz19_2
   try clear hfz22_0
   try clear hfz22_1
   try clear hfz22_2
   try clear hfz27_0
   try clear hfz27_1
   try clear hfz27_2
   try clear hfz35_0
   try clear hfz35_1
   try clear hfz35_2
   try clear hfz37_0
   try clear hfz37_1
   try clear hfz37_2
   try clear hfz41_0
   try clear hfz41_1
   try clear hfz41_2
   try clear hfz43_0
   try clear hfz43_1
   try clear hfz43_2
   obtain ⟨kq, x64_7, rfl, HA, HJ7, HO_6, HO_7, HO_489001, HO_489002, HO_499001, HO_499002, HO_509001, HO_509002, BK488, BK498, BK508, HB⟩ := hcut
   cases kq with
   | zero => exact absurd HA.out (by simp [laws_FnCompared.j0])
   | succ kj7 =>
    as_aux_lemma =>
     have H := HA.out
     clear HA
     simp only [laws_FnCompared.j0] at H
     by_cases c45 : x64_7 = true
     ·subst c45
      rw [if_pos rfl] at H
      obtain rfl := Option.some.inj H
      go_wp2
      go_ret
      exact ⟨Sh.eR, Sh.bw⟩
     ·replace c45 := Bool.eq_false_iff.mpr c45
      subst c45
      rw [Sh.nf] at H
      obtain ⟨⟨t510, t511, t514, t517, t518⟩, A460, H⟩ := Sh.bd H
      have A46 := am_ A460
      clear A460
      obtain ⟨⟨t520, t521, t524, t527, t528⟩, A470, H⟩ := Sh.bd H
      have A47 := am_ A470
      clear A470
      have HC48 := am_ H
      clear H
      have hnb49 := NB498_488.out
      have hnc49 := NB488_498.out
      have hnb50 := NB498_508.out
      have hnc50 := NB508_498.out
      have hcz51_0 := Sh.bc BK498.out 0
      have hcz51_1 := Sh.bc BK498.out 1
      have hcz51_2 := Sh.bc BK498.out 2
      have hfz51_0 := blk_frozen BK498.out 0
      have hfz51_1 := blk_frozen BK498.out 1
      have hfz51_2 := blk_frozen BK498.out 2
      go_upto_region 10 with (first | ((with_reducible refine Sh.k 21 ?_); refine Sh.gL (some 69) Try.func21 #[.agg #[.int .i64 t489, .slice Ao20 t490.length co20, .slice Ao21 t493.length co21], .slice Ao14 t482.length co14, .slice Ao15 t485.length co15] (h := ?_); (with_reducible refine (impl_EqGates.calls kj7 t489 _ _ t490 _ _ t493 _ _ t482 _ _ t485 t510 t511 t514 t517 t518 _ (Sh.cR (Kd.R_reads' HO_499001.out).2.2) (Kd.R_reads' HO_499001.out).2.1 (Sh.cR (Kd.R_reads' HO_499002.out).2.2) (Kd.R_reads' HO_499002.out).2.1 (Sh.cR (Kd.R_reads' HO_6.out).2.2) (Kd.R_reads' HO_6.out).2.1 (Sh.cR (Kd.R_reads' HO_7.out).2.2) (Kd.R_reads' HO_7.out).2.1 A46.out).mono ?_); rintro e w52 ⟨v512, v515, rfl, ho0, ho1, hb⟩; refine ⟨_, rfl, ?_⟩; have n0_ := am_ (Kd.R_elder' (Sh.rl HO_6.out) (Kd.R_base ho1) hb); have n1_ := am_ (Kd.R_elder' (Sh.rl HO_7.out) (Kd.R_base ho1) hb); have n2_ := am_ (Kd.R_elder' (Sh.rl HO_489001.out) (Kd.R_base ho0) hb); have n3_ := am_ (Kd.R_elder' (Sh.rl HO_489002.out) (Kd.R_base ho1) hb); have n4_ := am_ (Kd.R_elder' (Sh.rl HO_499001.out) (Kd.R_base ho0) hb); have n5_ := am_ (Kd.R_elder' (Sh.rl HO_499002.out) (Kd.R_base ho1) hb); have n6_ := am_ (Kd.R_elder' (Sh.rl HO_509001.out) (Kd.R_base ho0) hb); have n7_ := am_ (Kd.R_elder' (Sh.rl HO_509002.out) (Kd.R_base ho1) hb); have n8_ := am_ (Kd.R_lower (Kd.R_new' (Kd.R_new' (Kd.R_new' ho0 (Kd.R_lt (Sh.rl HO_489001.out))) (Kd.R_lt (Sh.rl HO_499001.out))) (Kd.R_lt (Sh.rl HO_509001.out))) (below_size Sh.bw)); have n9_ := am_ (Kd.R_lower (Kd.R_new' (Kd.R_new' (Kd.R_new' (Kd.R_new' (Kd.R_new' ho1 (Kd.R_lt (Sh.rl HO_6.out))) (Kd.R_lt (Sh.rl HO_7.out))) (Kd.R_lt (Sh.rl HO_489002.out))) (Kd.R_lt (Sh.rl HO_499002.out))) (Kd.R_lt (Sh.rl HO_509002.out))) (below_size Sh.bw)); have n10_ := am_ (Sh.bb BK488.out hb); have n11_ := am_ (Sh.bb BK498.out hb); have n12_ := am_ (Sh.bb BK508.out hb); have n13_ := am_ (below_step Sh.bw hb); clear HO_6; clear HO_7; clear HO_489001; clear HO_489002; clear HO_499001; clear HO_499002; clear HO_509001; clear HO_509002; clear BK488; clear BK498; clear BK508; clear HB; have HO_6 := n0_; have HO_7 := n1_; have HO_489001 := n2_; have HO_489002 := n3_; have HO_499001 := n4_; have HO_499002 := n5_; have HO_509001 := n6_; have HO_509002 := n7_; have HO513 := n8_; have HO516 := n9_; have BK488 := n10_; have BK498 := n11_; have BK508 := n12_; have HB := n13_; clear n0_ n1_ n2_ n3_ n4_ n5_ n6_ n7_ n8_ n9_ n10_ n11_ n12_ n13_; (try clear hb); (try clear hb2); (try clear hk); (try clear hi); (try clear ho0); (try clear ho1)) | ((with_reducible refine Sh.d 14 ?_); (try (refine gate_guard (by rfl) ?_; dsimp only)); refine Sh.bx (N := 14) (cs := #[.int .i64 0, .slice none 0 0, .slice none 0 0]) (t := 27) (h := ?_); intro gb519 hg w53 hbox hb; replace HO_6 := am_ (Kd.R_below (Sh.rl HO_6.out) hb); replace HO_7 := am_ (Kd.R_below (Sh.rl HO_7.out) hb); replace HO_489001 := am_ (Kd.R_below (Sh.rl HO_489001.out) hb); replace HO_489002 := am_ (Kd.R_below (Sh.rl HO_489002.out) hb); replace HO_499001 := am_ (Kd.R_below (Sh.rl HO_499001.out) hb); replace HO_499002 := am_ (Kd.R_below (Sh.rl HO_499002.out) hb); replace HO_509001 := am_ (Kd.R_below (Sh.rl HO_509001.out) hb); replace HO_509002 := am_ (Kd.R_below (Sh.rl HO_509002.out) hb); replace HO513 := am_ (Kd.R_below (Sh.rl HO513.out) hb); replace HO516 := am_ (Kd.R_below (Sh.rl HO516.out) hb); have BK519 := am_ hbox; have GE519 := Sh.ag w hg; replace HB := Sh.hb hb; have NB488_519 := am_ (Sh.nl hg BK488.out); have NB519_488 := am_ (Sh.ng hg BK488.out); replace BK488 := Sh.ab BK488 hb; have NB498_519 := am_ (Sh.nl hg BK498.out); have NB519_498 := am_ (Sh.ng hg BK498.out); replace BK498 := Sh.ab BK498 hb; have NB508_519 := am_ (Sh.nl hg BK508.out); have NB519_508 := am_ (Sh.ng hg BK508.out); replace BK508 := Sh.ab BK508 hb; clear hb hbox hg; have hnb54 := NB519_488.out; have hnc54 := NB488_519.out; have hnb55 := NB519_498.out; have hnc55 := NB498_519.out; have hnb56 := NB519_508.out; have hnc56 := NB508_519.out; obtain ⟨hcz57_0, hcz57_1, hcz57_2, hfz57_0, hfz57_1, hfz57_2⟩ := Sh.b3 BK519.out; obtain ⟨Ao58, co58, eo58⟩ := Kd.R_slice HO513.out; subst eo58; obtain ⟨Ao59, co59, eo59⟩ := Kd.R_slice HO516.out; subst eo59; obtain ⟨hcz60_0, hcz60_1, hcz60_2, hfz60_0, hfz60_1, hfz60_2⟩ := Sh.b3 BK498.out) | ((with_reducible refine Sh.k 22 ?_); refine Sh.gL (some 77) Try.func22 #[.agg #[.int .i64 t489, .slice Ao20 t490.length co20, .slice Ao21 t493.length co21], .slice Ao14 t482.length co14, .slice Ao15 t485.length co15] (h := ?_); (with_reducible refine (spec_EqGates.calls kj7 t489 _ _ t490 _ _ t493 _ _ t482 _ _ t485 t520 t521 t524 t527 t528 _ ?side1 ?side2 ?side3 ?side4 ?side5 ?side6 ?side7 ?side8 A47.out).mono ?_); (case side1 => refine (Kd.R_reads' (e := 66) (base := w.heap.size) (ok := fun k_ => ((some k_ ≠ (.slice Ao12 t476.length co12 : Value).ownBlock ∧ some k_ ≠ (.slice Ao28 t500.length co28 : Value).ownBlock) ∧ some k_ ≠ (.slice Ao58 t511.length co58 : Value).ownBlock)) (n := t490.length) (c := co20) ?_).2.2; exact (Sh.rl (Kd.R_mono (Kd.R_far (p := ⟨gb519, 2, none⟩) (Kd.R_far (p := ⟨gb519, 1, none⟩) (Kd.R_far (p := ⟨gb519, 0, none⟩) (Kd.R_types HO_499001.out BK519.out (by decide)) (fun _ hk => hk.2) (.int .i64 t510)) (fun _ hk => hk.2) (.slice Ao58 t511.length co58)) (fun _ hk => hk.2) (.slice Ao59 t514.length co59)) (fun _ h_ => h_.1)))); (case side2 => exact (Kd.R_reads' HO_499001.out).2.1); (case side3 => refine (Kd.R_reads' (e := 3) (base := w.heap.size) (ok := fun k_ => ((some k_ ≠ (.slice Ao14 t482.length co14 : Value).ownBlock ∧ (some k_ ≠ (.slice Ao15 t485.length co15 : Value).ownBlock ∧ (some k_ ≠ (.slice Ao13 t479.length co13 : Value).ownBlock ∧ some k_ ≠ (.slice Ao29 t503.length co29 : Value).ownBlock))) ∧ some k_ ≠ (.slice Ao59 t514.length co59 : Value).ownBlock)) (n := t493.length) (c := co21) ?_).2.2; exact (Sh.rl (Kd.R_mono (Kd.R_far (p := ⟨gb519, 2, none⟩) (Kd.R_far (p := ⟨gb519, 1, none⟩) (Kd.R_far (p := ⟨gb519, 0, none⟩) (Kd.R_types HO_499002.out BK519.out (by decide)) (fun _ hk => hk.2) (.int .i64 t510)) (fun _ hk => hk.2) (.slice Ao58 t511.length co58)) (fun _ hk => hk.2) (.slice Ao59 t514.length co59)) (fun _ h_ => h_.1)))); (case side4 => exact (Kd.R_reads' HO_499002.out).2.1); (case side5 => refine (Kd.R_reads' (e := 3) (base := w.heap.size) (ok := fun k_ => ((some k_ ≠ (.slice Ao15 t485.length co15 : Value).ownBlock ∧ (some k_ ≠ (.slice Ao13 t479.length co13 : Value).ownBlock ∧ (some k_ ≠ (.slice Ao21 t493.length co21 : Value).ownBlock ∧ some k_ ≠ (.slice Ao29 t503.length co29 : Value).ownBlock))) ∧ some k_ ≠ (.slice Ao59 t514.length co59 : Value).ownBlock)) (n := t482.length) (c := co14) ?_).2.2; exact (Sh.rl (Kd.R_mono (Kd.R_far (p := ⟨gb519, 2, none⟩) (Kd.R_far (p := ⟨gb519, 1, none⟩) (Kd.R_far (p := ⟨gb519, 0, none⟩) (Kd.R_types HO_6.out BK519.out (by decide)) (fun _ hk => hk.2) (.int .i64 t510)) (fun _ hk => hk.2) (.slice Ao58 t511.length co58)) (fun _ hk => hk.2) (.slice Ao59 t514.length co59)) (fun _ h_ => h_.1)))); (case side6 => exact (Kd.R_reads' HO_6.out).2.1); (case side7 => refine (Kd.R_reads' (e := 3) (base := w.heap.size) (ok := fun k_ => ((some k_ ≠ (.slice Ao14 t482.length co14 : Value).ownBlock ∧ (some k_ ≠ (.slice Ao13 t479.length co13 : Value).ownBlock ∧ (some k_ ≠ (.slice Ao21 t493.length co21 : Value).ownBlock ∧ some k_ ≠ (.slice Ao29 t503.length co29 : Value).ownBlock))) ∧ some k_ ≠ (.slice Ao59 t514.length co59 : Value).ownBlock)) (n := t485.length) (c := co15) ?_).2.2; exact (Sh.rl (Kd.R_mono (Kd.R_far (p := ⟨gb519, 2, none⟩) (Kd.R_far (p := ⟨gb519, 1, none⟩) (Kd.R_far (p := ⟨gb519, 0, none⟩) (Kd.R_types HO_7.out BK519.out (by decide)) (fun _ hk => hk.2) (.int .i64 t510)) (fun _ hk => hk.2) (.slice Ao58 t511.length co58)) (fun _ hk => hk.2) (.slice Ao59 t514.length co59)) (fun _ h_ => h_.1)))); (case side8 => exact (Kd.R_reads' HO_7.out).2.1); rintro e w61 ⟨v522, v525, rfl, ho0, ho1, hb⟩; refine ⟨_, rfl, ?_⟩; have n0_ := am_ (Kd.R_elder' (Sh.rl (Kd.R_mono (Kd.R_far (p := ⟨gb519, 2, none⟩) (Kd.R_far (p := ⟨gb519, 1, none⟩) (Kd.R_far (p := ⟨gb519, 0, none⟩) (Kd.R_types HO_6.out BK519.out (by decide)) (fun _ hk => hk.2) (.int .i64 t510)) (fun _ hk => hk.2) (.slice Ao58 t511.length co58)) (fun _ hk => hk.2) (.slice Ao59 t514.length co59)) (fun _ h_ => h_.1))) (Kd.R_base ho1) hb); have n1_ := am_ (Kd.R_elder' (Sh.rl (Kd.R_mono (Kd.R_far (p := ⟨gb519, 2, none⟩) (Kd.R_far (p := ⟨gb519, 1, none⟩) (Kd.R_far (p := ⟨gb519, 0, none⟩) (Kd.R_types HO_7.out BK519.out (by decide)) (fun _ hk => hk.2) (.int .i64 t510)) (fun _ hk => hk.2) (.slice Ao58 t511.length co58)) (fun _ hk => hk.2) (.slice Ao59 t514.length co59)) (fun _ h_ => h_.1))) (Kd.R_base ho1) hb); have n2_ := am_ (Kd.R_elder' (Sh.rl (Kd.R_mono (Kd.R_far (p := ⟨gb519, 2, none⟩) (Kd.R_far (p := ⟨gb519, 1, none⟩) (Kd.R_far (p := ⟨gb519, 0, none⟩) (Kd.R_types HO_489001.out BK519.out (by decide)) (fun _ hk => hk.2) (.int .i64 t510)) (fun _ hk => hk.2) (.slice Ao58 t511.length co58)) (fun _ hk => hk.2) (.slice Ao59 t514.length co59)) (fun _ h_ => h_.1))) (Kd.R_base ho0) hb); have n3_ := am_ (Kd.R_elder' (Sh.rl (Kd.R_mono (Kd.R_far (p := ⟨gb519, 2, none⟩) (Kd.R_far (p := ⟨gb519, 1, none⟩) (Kd.R_far (p := ⟨gb519, 0, none⟩) (Kd.R_types HO_489002.out BK519.out (by decide)) (fun _ hk => hk.2) (.int .i64 t510)) (fun _ hk => hk.2) (.slice Ao58 t511.length co58)) (fun _ hk => hk.2) (.slice Ao59 t514.length co59)) (fun _ h_ => h_.1))) (Kd.R_base ho1) hb); have n4_ := am_ (Kd.R_elder' (Sh.rl (Kd.R_mono (Kd.R_far (p := ⟨gb519, 2, none⟩) (Kd.R_far (p := ⟨gb519, 1, none⟩) (Kd.R_far (p := ⟨gb519, 0, none⟩) (Kd.R_types HO_499001.out BK519.out (by decide)) (fun _ hk => hk.2) (.int .i64 t510)) (fun _ hk => hk.2) (.slice Ao58 t511.length co58)) (fun _ hk => hk.2) (.slice Ao59 t514.length co59)) (fun _ h_ => h_.1))) (Kd.R_base ho0) hb); have n5_ := am_ (Kd.R_elder' (Sh.rl (Kd.R_mono (Kd.R_far (p := ⟨gb519, 2, none⟩) (Kd.R_far (p := ⟨gb519, 1, none⟩) (Kd.R_far (p := ⟨gb519, 0, none⟩) (Kd.R_types HO_499002.out BK519.out (by decide)) (fun _ hk => hk.2) (.int .i64 t510)) (fun _ hk => hk.2) (.slice Ao58 t511.length co58)) (fun _ hk => hk.2) (.slice Ao59 t514.length co59)) (fun _ h_ => h_.1))) (Kd.R_base ho1) hb); have n6_ := am_ (Kd.R_elder' (Sh.rl (Kd.R_mono (Kd.R_far (p := ⟨gb519, 2, none⟩) (Kd.R_far (p := ⟨gb519, 1, none⟩) (Kd.R_far (p := ⟨gb519, 0, none⟩) (Kd.R_types HO_509001.out BK519.out (by decide)) (fun _ hk => hk.2) (.int .i64 t510)) (fun _ hk => hk.2) (.slice Ao58 t511.length co58)) (fun _ hk => hk.2) (.slice Ao59 t514.length co59)) (fun _ h_ => h_.1))) (Kd.R_base ho0) hb); have n7_ := am_ (Kd.R_elder' (Sh.rl (Kd.R_mono (Kd.R_far (p := ⟨gb519, 2, none⟩) (Kd.R_far (p := ⟨gb519, 1, none⟩) (Kd.R_far (p := ⟨gb519, 0, none⟩) (Kd.R_types HO_509002.out BK519.out (by decide)) (fun _ hk => hk.2) (.int .i64 t510)) (fun _ hk => hk.2) (.slice Ao58 t511.length co58)) (fun _ hk => hk.2) (.slice Ao59 t514.length co59)) (fun _ h_ => h_.1))) (Kd.R_base ho1) hb); have n8_ := am_ (Kd.R_elder' (Sh.rl (Kd.R_mono (Kd.R_far (p := ⟨gb519, 2, none⟩) (Kd.R_far (p := ⟨gb519, 1, none⟩) (Kd.R_far (p := ⟨gb519, 0, none⟩) (Kd.R_types HO513.out BK519.out (by decide)) (fun _ hk => hk.2) (.int .i64 t510)) (fun _ hk => hk.2) (.slice Ao58 t511.length co58)) (fun _ hk => hk.2) (.slice Ao59 t514.length co59)) (fun _ h_ => h_.1))) (Kd.R_base ho0) hb); have n9_ := am_ (Kd.R_elder' (Sh.rl (Kd.R_mono (Kd.R_far (p := ⟨gb519, 2, none⟩) (Kd.R_far (p := ⟨gb519, 1, none⟩) (Kd.R_far (p := ⟨gb519, 0, none⟩) (Kd.R_types HO516.out BK519.out (by decide)) (fun _ hk => hk.2) (.int .i64 t510)) (fun _ hk => hk.2) (.slice Ao58 t511.length co58)) (fun _ hk => hk.2) (.slice Ao59 t514.length co59)) (fun _ h_ => h_.1))) (Kd.R_base ho1) hb); have n10_ := am_ (Kd.R_lower (Kd.R_new' (Kd.R_new' (Kd.R_new' (Kd.R_new' ho0 (Kd.R_lt (Sh.rl (Kd.R_mono (Kd.R_far (p := ⟨gb519, 2, none⟩) (Kd.R_far (p := ⟨gb519, 1, none⟩) (Kd.R_far (p := ⟨gb519, 0, none⟩) (Kd.R_types HO_489001.out BK519.out (by decide)) (fun _ hk => hk.2) (.int .i64 t510)) (fun _ hk => hk.2) (.slice Ao58 t511.length co58)) (fun _ hk => hk.2) (.slice Ao59 t514.length co59)) (fun _ h_ => h_.1))))) (Kd.R_lt (Sh.rl (Kd.R_mono (Kd.R_far (p := ⟨gb519, 2, none⟩) (Kd.R_far (p := ⟨gb519, 1, none⟩) (Kd.R_far (p := ⟨gb519, 0, none⟩) (Kd.R_types HO_499001.out BK519.out (by decide)) (fun _ hk => hk.2) (.int .i64 t510)) (fun _ hk => hk.2) (.slice Ao58 t511.length co58)) (fun _ hk => hk.2) (.slice Ao59 t514.length co59)) (fun _ h_ => h_.1))))) (Kd.R_lt (Sh.rl (Kd.R_mono (Kd.R_far (p := ⟨gb519, 2, none⟩) (Kd.R_far (p := ⟨gb519, 1, none⟩) (Kd.R_far (p := ⟨gb519, 0, none⟩) (Kd.R_types HO_509001.out BK519.out (by decide)) (fun _ hk => hk.2) (.int .i64 t510)) (fun _ hk => hk.2) (.slice Ao58 t511.length co58)) (fun _ hk => hk.2) (.slice Ao59 t514.length co59)) (fun _ h_ => h_.1))))) (Kd.R_lt (Sh.rl (Kd.R_mono (Kd.R_far (p := ⟨gb519, 2, none⟩) (Kd.R_far (p := ⟨gb519, 1, none⟩) (Kd.R_far (p := ⟨gb519, 0, none⟩) (Kd.R_types HO513.out BK519.out (by decide)) (fun _ hk => hk.2) (.int .i64 t510)) (fun _ hk => hk.2) (.slice Ao58 t511.length co58)) (fun _ hk => hk.2) (.slice Ao59 t514.length co59)) (fun _ h_ => h_.1))))) (below_size Sh.bw)); have n11_ := am_ (Kd.R_lower (Kd.R_new' (Kd.R_new' (Kd.R_new' (Kd.R_new' (Kd.R_new' (Kd.R_new' ho1 (Kd.R_lt (Sh.rl (Kd.R_mono (Kd.R_far (p := ⟨gb519, 2, none⟩) (Kd.R_far (p := ⟨gb519, 1, none⟩) (Kd.R_far (p := ⟨gb519, 0, none⟩) (Kd.R_types HO_6.out BK519.out (by decide)) (fun _ hk => hk.2) (.int .i64 t510)) (fun _ hk => hk.2) (.slice Ao58 t511.length co58)) (fun _ hk => hk.2) (.slice Ao59 t514.length co59)) (fun _ h_ => h_.1))))) (Kd.R_lt (Sh.rl (Kd.R_mono (Kd.R_far (p := ⟨gb519, 2, none⟩) (Kd.R_far (p := ⟨gb519, 1, none⟩) (Kd.R_far (p := ⟨gb519, 0, none⟩) (Kd.R_types HO_7.out BK519.out (by decide)) (fun _ hk => hk.2) (.int .i64 t510)) (fun _ hk => hk.2) (.slice Ao58 t511.length co58)) (fun _ hk => hk.2) (.slice Ao59 t514.length co59)) (fun _ h_ => h_.1))))) (Kd.R_lt (Sh.rl (Kd.R_mono (Kd.R_far (p := ⟨gb519, 2, none⟩) (Kd.R_far (p := ⟨gb519, 1, none⟩) (Kd.R_far (p := ⟨gb519, 0, none⟩) (Kd.R_types HO_489002.out BK519.out (by decide)) (fun _ hk => hk.2) (.int .i64 t510)) (fun _ hk => hk.2) (.slice Ao58 t511.length co58)) (fun _ hk => hk.2) (.slice Ao59 t514.length co59)) (fun _ h_ => h_.1))))) (Kd.R_lt (Sh.rl (Kd.R_mono (Kd.R_far (p := ⟨gb519, 2, none⟩) (Kd.R_far (p := ⟨gb519, 1, none⟩) (Kd.R_far (p := ⟨gb519, 0, none⟩) (Kd.R_types HO_499002.out BK519.out (by decide)) (fun _ hk => hk.2) (.int .i64 t510)) (fun _ hk => hk.2) (.slice Ao58 t511.length co58)) (fun _ hk => hk.2) (.slice Ao59 t514.length co59)) (fun _ h_ => h_.1))))) (Kd.R_lt (Sh.rl (Kd.R_mono (Kd.R_far (p := ⟨gb519, 2, none⟩) (Kd.R_far (p := ⟨gb519, 1, none⟩) (Kd.R_far (p := ⟨gb519, 0, none⟩) (Kd.R_types HO_509002.out BK519.out (by decide)) (fun _ hk => hk.2) (.int .i64 t510)) (fun _ hk => hk.2) (.slice Ao58 t511.length co58)) (fun _ hk => hk.2) (.slice Ao59 t514.length co59)) (fun _ h_ => h_.1))))) (Kd.R_lt (Sh.rl (Kd.R_mono (Kd.R_far (p := ⟨gb519, 2, none⟩) (Kd.R_far (p := ⟨gb519, 1, none⟩) (Kd.R_far (p := ⟨gb519, 0, none⟩) (Kd.R_types HO516.out BK519.out (by decide)) (fun _ hk => hk.2) (.int .i64 t510)) (fun _ hk => hk.2) (.slice Ao58 t511.length co58)) (fun _ hk => hk.2) (.slice Ao59 t514.length co59)) (fun _ h_ => h_.1))))) (below_size Sh.bw)); have n12_ := am_ (blk_below (g := gb488) (o := .cells #[.int .i64 t475, .slice Ao12 t476.length co12, .slice Ao13 t479.length co13] 27 (0, 0)) (by refine Sh.pl ?_; refine blk_far ?_ NB488_519.out _; refine Sh.pl ?_; refine blk_far ?_ NB488_519.out _; refine Sh.pl ?_; refine blk_far ?_ NB488_519.out _; refine Sh.pl ?_; exact BK488.out) hb); have n13_ := am_ (blk_below (g := gb498) (o := .cells #[.int .i64 t489, .slice Ao20 t490.length co20, .slice Ao21 t493.length co21] 27 (0, 0)) (by refine Sh.pl ?_; refine blk_far ?_ NB498_519.out _; refine Sh.pl ?_; refine blk_far ?_ NB498_519.out _; refine Sh.pl ?_; refine blk_far ?_ NB498_519.out _; refine Sh.pl ?_; exact BK498.out) hb); have n14_ := am_ (blk_below (g := gb508) (o := .cells #[.int .i64 t499, .slice Ao28 t500.length co28, .slice Ao29 t503.length co29] 27 (0, 0)) (by refine Sh.pl ?_; refine blk_far ?_ NB508_519.out _; refine Sh.pl ?_; refine blk_far ?_ NB508_519.out _; refine Sh.pl ?_; refine blk_far ?_ NB508_519.out _; refine Sh.pl ?_; exact BK508.out) hb); have n15_ := am_ (blk_below (g := gb519) (o := .cells #[.int .i64 t510, .slice Ao58 t511.length co58, .slice Ao59 t514.length co59] 27 (0, 0)) (by refine Sh.pl ?_; refine blk_put (cs := #[.int .i64 t510, .slice Ao58 t511.length co58, .slice none 0 0]) ?_ 2 _ rfl; refine Sh.pl ?_; refine blk_put (cs := #[.int .i64 t510, .slice none 0 0, .slice none 0 0]) ?_ 1 _ rfl; refine Sh.pl ?_; refine blk_put (cs := #[.int .i64 0, .slice none 0 0, .slice none 0 0]) ?_ 0 _ rfl; refine Sh.pl ?_; exact BK519.out) hb); have n16_ := am_ (below_step Sh.bw hb); clear HO_6; clear HO_7; clear HO_489001; clear HO_489002; clear HO_499001; clear HO_499002; clear HO_509001; clear HO_509002; clear HO513; clear HO516; clear BK488; clear BK498; clear BK508; clear BK519; clear HB; have HO_6 := n0_; have HO_7 := n1_; have HO_489001 := n2_; have HO_489002 := n3_; have HO_499001 := n4_; have HO_499002 := n5_; have HO_509001 := n6_; have HO_509002 := n7_; have HO513 := n8_; have HO516 := n9_; have HO523 := n10_; have HO526 := n11_; have BK488 := n12_; have BK498 := n13_; have BK508 := n14_; have BK519 := n15_; have HB := n16_; clear n0_ n1_ n2_ n3_ n4_ n5_ n6_ n7_ n8_ n9_ n10_ n11_ n12_ n13_ n14_ n15_ n16_; (try clear hb); (try clear hb2); (try clear hk); (try clear hi); (try clear ho0); (try clear ho1)) | ((with_reducible refine Sh.d 17 ?_); (try (refine gate_guard (by rfl) ?_; dsimp only)); refine Sh.bx (N := 17) (cs := #[.int .i64 0, .slice none 0 0, .slice none 0 0]) (t := 27) (h := ?_); intro gb529 hg w62 hbox hb; replace HO_6 := am_ (Kd.R_below (Sh.rl HO_6.out) hb); replace HO_7 := am_ (Kd.R_below (Sh.rl HO_7.out) hb); replace HO_489001 := am_ (Kd.R_below (Sh.rl HO_489001.out) hb); replace HO_489002 := am_ (Kd.R_below (Sh.rl HO_489002.out) hb); replace HO_499001 := am_ (Kd.R_below (Sh.rl HO_499001.out) hb); replace HO_499002 := am_ (Kd.R_below (Sh.rl HO_499002.out) hb); replace HO_509001 := am_ (Kd.R_below (Sh.rl HO_509001.out) hb); replace HO_509002 := am_ (Kd.R_below (Sh.rl HO_509002.out) hb); replace HO513 := am_ (Kd.R_below (Sh.rl HO513.out) hb); replace HO516 := am_ (Kd.R_below (Sh.rl HO516.out) hb); replace HO523 := am_ (Kd.R_below (Sh.rl HO523.out) hb); replace HO526 := am_ (Kd.R_below (Sh.rl HO526.out) hb); have BK529 := am_ hbox; have GE529 := Sh.ag w hg; replace HB := Sh.hb hb; have NB488_529 := am_ (Sh.nl hg BK488.out); have NB529_488 := am_ (Sh.ng hg BK488.out); replace BK488 := Sh.ab BK488 hb; have NB498_529 := am_ (Sh.nl hg BK498.out); have NB529_498 := am_ (Sh.ng hg BK498.out); replace BK498 := Sh.ab BK498 hb; have NB508_529 := am_ (Sh.nl hg BK508.out); have NB529_508 := am_ (Sh.ng hg BK508.out); replace BK508 := Sh.ab BK508 hb; have NB519_529 := am_ (Sh.nl hg BK519.out); have NB529_519 := am_ (Sh.ng hg BK519.out); replace BK519 := Sh.ab BK519 hb; clear hb hbox hg; have hnb63 := NB529_488.out; have hnc63 := NB488_529.out; have hnb64 := NB529_498.out; have hnc64 := NB498_529.out; have hnb65 := NB529_508.out; have hnc65 := NB508_529.out; have hnb66 := NB529_519.out; have hnc66 := NB519_529.out; obtain ⟨hcz67_0, hcz67_1, hcz67_2, hfz67_0, hfz67_1, hfz67_2⟩ := Sh.b3 BK529.out; obtain ⟨Ao68, co68, eo68⟩ := Kd.R_slice HO523.out; subst eo68; obtain ⟨Ao69, co69, eo69⟩ := Kd.R_slice HO526.out; subst eo69))
      (try simp only [Act.put, List.setIfInBounds_toArray, List.set_cons_zero, List.set_cons_succ])
      go_cut [94] (fun v94 wc => ∃ (kq : Nat) (x94_47 : Bool), v94 = .bool x94_47 ∧ Aside0 (laws_FnCompared.j1 kq l1 t482 t485 t496 t497 t517 t518 x94_47 t475 t476 t479 t510 t511 t514 = some r) ∧ Aside0 (kq ≤ kj7) ∧ Aside0 (Kd.R (Kd.int .i64) 3 wc w.heap.size (fun k_ => some k_ ≠ ((.slice Ao15 t485.length co15) : Value).ownBlock ∧ some k_ ≠ ((.slice Ao13 t479.length co13) : Value).ownBlock ∧ some k_ ≠ ((.slice Ao21 t493.length co21) : Value).ownBlock ∧ some k_ ≠ ((.slice Ao29 t503.length co29) : Value).ownBlock ∧ some k_ ≠ ((.slice Ao59 t514.length co59) : Value).ownBlock ∧ some k_ ≠ ((.slice Ao69 t524.length co69) : Value).ownBlock) (.slice Ao14 t482.length co14) t482) ∧ Aside0 (Kd.R (Kd.int .i64) 3 wc w.heap.size (fun k_ => some k_ ≠ ((.slice Ao14 t482.length co14) : Value).ownBlock ∧ some k_ ≠ ((.slice Ao13 t479.length co13) : Value).ownBlock ∧ some k_ ≠ ((.slice Ao21 t493.length co21) : Value).ownBlock ∧ some k_ ≠ ((.slice Ao29 t503.length co29) : Value).ownBlock ∧ some k_ ≠ ((.slice Ao59 t514.length co59) : Value).ownBlock ∧ some k_ ≠ ((.slice Ao69 t524.length co69) : Value).ownBlock) (.slice Ao15 t485.length co15) t485) ∧ Aside0 (Kd.R k66 66 wc w.heap.size (fun k_ => some k_ ≠ ((.slice Ao20 t490.length co20) : Value).ownBlock ∧ some k_ ≠ ((.slice Ao28 t500.length co28) : Value).ownBlock ∧ some k_ ≠ ((.slice Ao58 t511.length co58) : Value).ownBlock ∧ some k_ ≠ ((.slice Ao68 t521.length co68) : Value).ownBlock) (.slice Ao12 t476.length co12) t476) ∧ Aside0 (Kd.R (Kd.int .i64) 3 wc w.heap.size (fun k_ => some k_ ≠ ((.slice Ao14 t482.length co14) : Value).ownBlock ∧ some k_ ≠ ((.slice Ao15 t485.length co15) : Value).ownBlock ∧ some k_ ≠ ((.slice Ao21 t493.length co21) : Value).ownBlock ∧ some k_ ≠ ((.slice Ao29 t503.length co29) : Value).ownBlock ∧ some k_ ≠ ((.slice Ao59 t514.length co59) : Value).ownBlock ∧ some k_ ≠ ((.slice Ao69 t524.length co69) : Value).ownBlock) (.slice Ao13 t479.length co13) t479) ∧ Aside0 (Kd.R k66 66 wc w.heap.size (fun k_ => some k_ ≠ ((.slice Ao12 t476.length co12) : Value).ownBlock ∧ some k_ ≠ ((.slice Ao28 t500.length co28) : Value).ownBlock ∧ some k_ ≠ ((.slice Ao58 t511.length co58) : Value).ownBlock ∧ some k_ ≠ ((.slice Ao68 t521.length co68) : Value).ownBlock) (.slice Ao20 t490.length co20) t490) ∧ Aside0 (Kd.R (Kd.int .i64) 3 wc w.heap.size (fun k_ => some k_ ≠ ((.slice Ao14 t482.length co14) : Value).ownBlock ∧ some k_ ≠ ((.slice Ao15 t485.length co15) : Value).ownBlock ∧ some k_ ≠ ((.slice Ao13 t479.length co13) : Value).ownBlock ∧ some k_ ≠ ((.slice Ao29 t503.length co29) : Value).ownBlock ∧ some k_ ≠ ((.slice Ao59 t514.length co59) : Value).ownBlock ∧ some k_ ≠ ((.slice Ao69 t524.length co69) : Value).ownBlock) (.slice Ao21 t493.length co21) t493) ∧ Aside0 (Kd.R k66 66 wc w.heap.size (fun k_ => some k_ ≠ ((.slice Ao12 t476.length co12) : Value).ownBlock ∧ some k_ ≠ ((.slice Ao20 t490.length co20) : Value).ownBlock ∧ some k_ ≠ ((.slice Ao58 t511.length co58) : Value).ownBlock ∧ some k_ ≠ ((.slice Ao68 t521.length co68) : Value).ownBlock) (.slice Ao28 t500.length co28) t500) ∧ Aside0 (Kd.R (Kd.int .i64) 3 wc w.heap.size (fun k_ => some k_ ≠ ((.slice Ao14 t482.length co14) : Value).ownBlock ∧ some k_ ≠ ((.slice Ao15 t485.length co15) : Value).ownBlock ∧ some k_ ≠ ((.slice Ao13 t479.length co13) : Value).ownBlock ∧ some k_ ≠ ((.slice Ao21 t493.length co21) : Value).ownBlock ∧ some k_ ≠ ((.slice Ao59 t514.length co59) : Value).ownBlock ∧ some k_ ≠ ((.slice Ao69 t524.length co69) : Value).ownBlock) (.slice Ao29 t503.length co29) t503) ∧ Aside0 (Kd.R k66 66 wc w.heap.size (fun k_ => some k_ ≠ ((.slice Ao12 t476.length co12) : Value).ownBlock ∧ some k_ ≠ ((.slice Ao20 t490.length co20) : Value).ownBlock ∧ some k_ ≠ ((.slice Ao28 t500.length co28) : Value).ownBlock ∧ some k_ ≠ ((.slice Ao68 t521.length co68) : Value).ownBlock) (.slice Ao58 t511.length co58) t511) ∧ Aside0 (Kd.R (Kd.int .i64) 3 wc w.heap.size (fun k_ => some k_ ≠ ((.slice Ao14 t482.length co14) : Value).ownBlock ∧ some k_ ≠ ((.slice Ao15 t485.length co15) : Value).ownBlock ∧ some k_ ≠ ((.slice Ao13 t479.length co13) : Value).ownBlock ∧ some k_ ≠ ((.slice Ao21 t493.length co21) : Value).ownBlock ∧ some k_ ≠ ((.slice Ao29 t503.length co29) : Value).ownBlock ∧ some k_ ≠ ((.slice Ao69 t524.length co69) : Value).ownBlock) (.slice Ao59 t514.length co59) t514) ∧ Aside0 (Kd.R k66 66 wc w.heap.size (fun k_ => some k_ ≠ ((.slice Ao12 t476.length co12) : Value).ownBlock ∧ some k_ ≠ ((.slice Ao20 t490.length co20) : Value).ownBlock ∧ some k_ ≠ ((.slice Ao28 t500.length co28) : Value).ownBlock ∧ some k_ ≠ ((.slice Ao58 t511.length co58) : Value).ownBlock) (.slice Ao68 t521.length co68) t521) ∧ Aside0 (Kd.R (Kd.int .i64) 3 wc w.heap.size (fun k_ => some k_ ≠ ((.slice Ao14 t482.length co14) : Value).ownBlock ∧ some k_ ≠ ((.slice Ao15 t485.length co15) : Value).ownBlock ∧ some k_ ≠ ((.slice Ao13 t479.length co13) : Value).ownBlock ∧ some k_ ≠ ((.slice Ao21 t493.length co21) : Value).ownBlock ∧ some k_ ≠ ((.slice Ao29 t503.length co29) : Value).ownBlock ∧ some k_ ≠ ((.slice Ao59 t514.length co59) : Value).ownBlock) (.slice Ao69 t524.length co69) t524) ∧ Aside0 (wc.heap[gb488]? = some (.cells #[.int .i64 t475, (.slice Ao12 t476.length co12), (.slice Ao13 t479.length co13)] 27 (0, 0))) ∧ Aside0 (wc.heap[gb498]? = some (.cells #[.int .i64 t489, (.slice Ao20 t490.length co20), (.slice Ao21 t493.length co21)] 27 (0, 0))) ∧ Aside0 (wc.heap[gb508]? = some (.cells #[.int .i64 t499, (.slice Ao28 t500.length co28), (.slice Ao29 t503.length co29)] 27 (0, 0))) ∧ Aside0 (wc.heap[gb519]? = some (.cells #[.int .i64 t510, (.slice Ao58 t511.length co58), (.slice Ao59 t514.length co59)] 27 (0, 0))) ∧ Aside0 (wc.heap[gb529]? = some (.cells #[.int .i64 t520, (.slice Ao68 t521.length co68), (.slice Ao69 t524.length co69)] 27 (0, 0))) ∧ Aside0 (Below w.heap.size w wc))
      case first =>
       as_aux_lemma =>
        have H := HC48.out
        clear HC48
        by_cases c70 : (t518 != t528) = true
        ·rw [if_pos c70] at H
         have c70b0 : (t518 != t528) = true := c70
         (try (have c70b1 : decide (t518 = t528) = false := by simpa using c70))
         (try (have c70b2 : (t518 == t528) = false := by simpa using c70))
         (try (have c70b3 : ¬ (t518 = t528) := by simpa using c70))
         clear c70
         first | rw [c70b0] | (simp only [i64_w, i32_w]; rw [c70b0]) | skip
         have H' := am_ H
         clear H
         go_wp2
         go_meet
         case rel => exact ⟨_, (true), (Sh.es), H', ⟨by have := HJ7.out; first | omega | exact Nat.le_refl _⟩, ⟨Sh.rl (Kd.R_mono (Kd.R_far (p := ⟨gb529, 2, none⟩) (Kd.R_far (p := ⟨gb529, 1, none⟩) (Kd.R_far (p := ⟨gb529, 0, none⟩) (Kd.R_types HO_6.out BK529.out (by decide)) (fun _ hk => hk.2) (.int .i64 t520)) (fun _ hk => hk.2) (.slice Ao68 t521.length co68)) (fun _ hk => hk.2) (.slice Ao69 t524.length co69)) (fun _ h => ⟨h.1.1.1.1, h.1.1.1.2.1, h.1.1.1.2.2.1, h.1.1.1.2.2.2, h.1.1.2, h.1.2⟩))⟩, ⟨Sh.rl (Kd.R_mono (Kd.R_far (p := ⟨gb529, 2, none⟩) (Kd.R_far (p := ⟨gb529, 1, none⟩) (Kd.R_far (p := ⟨gb529, 0, none⟩) (Kd.R_types HO_7.out BK529.out (by decide)) (fun _ hk => hk.2) (.int .i64 t520)) (fun _ hk => hk.2) (.slice Ao68 t521.length co68)) (fun _ hk => hk.2) (.slice Ao69 t524.length co69)) (fun _ h => ⟨h.1.1.1.1, h.1.1.1.2.1, h.1.1.1.2.2.1, h.1.1.1.2.2.2, h.1.1.2, h.1.2⟩))⟩, ⟨Sh.rl (Kd.R_mono (Kd.R_far (p := ⟨gb529, 2, none⟩) (Kd.R_far (p := ⟨gb529, 1, none⟩) (Kd.R_far (p := ⟨gb529, 0, none⟩) (Kd.R_types HO_489001.out BK529.out (by decide)) (fun _ hk => hk.2) (.int .i64 t520)) (fun _ hk => hk.2) (.slice Ao68 t521.length co68)) (fun _ hk => hk.2) (.slice Ao69 t524.length co69)) (fun _ h => ⟨h.1.1.1.1, h.1.1.1.2, h.1.1.2, h.1.2⟩))⟩, ⟨Sh.rl (Kd.R_mono (Kd.R_far (p := ⟨gb529, 2, none⟩) (Kd.R_far (p := ⟨gb529, 1, none⟩) (Kd.R_far (p := ⟨gb529, 0, none⟩) (Kd.R_types HO_489002.out BK529.out (by decide)) (fun _ hk => hk.2) (.int .i64 t520)) (fun _ hk => hk.2) (.slice Ao68 t521.length co68)) (fun _ hk => hk.2) (.slice Ao69 t524.length co69)) (fun _ h => ⟨h.1.1.1.1, h.1.1.1.2.1, h.1.1.1.2.2.1, h.1.1.1.2.2.2, h.1.1.2, h.1.2⟩))⟩, ⟨Sh.rl (Kd.R_mono (Kd.R_far (p := ⟨gb529, 2, none⟩) (Kd.R_far (p := ⟨gb529, 1, none⟩) (Kd.R_far (p := ⟨gb529, 0, none⟩) (Kd.R_types HO_499001.out BK529.out (by decide)) (fun _ hk => hk.2) (.int .i64 t520)) (fun _ hk => hk.2) (.slice Ao68 t521.length co68)) (fun _ hk => hk.2) (.slice Ao69 t524.length co69)) (fun _ h => ⟨h.1.1.1.1, h.1.1.1.2, h.1.1.2, h.1.2⟩))⟩, ⟨Sh.rl (Kd.R_mono (Kd.R_far (p := ⟨gb529, 2, none⟩) (Kd.R_far (p := ⟨gb529, 1, none⟩) (Kd.R_far (p := ⟨gb529, 0, none⟩) (Kd.R_types HO_499002.out BK529.out (by decide)) (fun _ hk => hk.2) (.int .i64 t520)) (fun _ hk => hk.2) (.slice Ao68 t521.length co68)) (fun _ hk => hk.2) (.slice Ao69 t524.length co69)) (fun _ h => ⟨h.1.1.1.1, h.1.1.1.2.1, h.1.1.1.2.2.1, h.1.1.1.2.2.2, h.1.1.2, h.1.2⟩))⟩, ⟨Sh.rl (Kd.R_mono (Kd.R_far (p := ⟨gb529, 2, none⟩) (Kd.R_far (p := ⟨gb529, 1, none⟩) (Kd.R_far (p := ⟨gb529, 0, none⟩) (Kd.R_types HO_509001.out BK529.out (by decide)) (fun _ hk => hk.2) (.int .i64 t520)) (fun _ hk => hk.2) (.slice Ao68 t521.length co68)) (fun _ hk => hk.2) (.slice Ao69 t524.length co69)) (fun _ h => ⟨h.1.1.1.1, h.1.1.1.2, h.1.1.2, h.1.2⟩))⟩, ⟨Sh.rl (Kd.R_mono (Kd.R_far (p := ⟨gb529, 2, none⟩) (Kd.R_far (p := ⟨gb529, 1, none⟩) (Kd.R_far (p := ⟨gb529, 0, none⟩) (Kd.R_types HO_509002.out BK529.out (by decide)) (fun _ hk => hk.2) (.int .i64 t520)) (fun _ hk => hk.2) (.slice Ao68 t521.length co68)) (fun _ hk => hk.2) (.slice Ao69 t524.length co69)) (fun _ h => ⟨h.1.1.1.1, h.1.1.1.2.1, h.1.1.1.2.2.1, h.1.1.1.2.2.2, h.1.1.2, h.1.2⟩))⟩, ⟨Sh.rl (Kd.R_mono (Kd.R_far (p := ⟨gb529, 2, none⟩) (Kd.R_far (p := ⟨gb529, 1, none⟩) (Kd.R_far (p := ⟨gb529, 0, none⟩) (Kd.R_types HO513.out BK529.out (by decide)) (fun _ hk => hk.2) (.int .i64 t520)) (fun _ hk => hk.2) (.slice Ao68 t521.length co68)) (fun _ hk => hk.2) (.slice Ao69 t524.length co69)) (fun _ h => ⟨h.1.1.1.1.2, h.1.1.1.2, h.1.1.2, h.1.2⟩))⟩, ⟨Sh.rl (Kd.R_mono (Kd.R_far (p := ⟨gb529, 2, none⟩) (Kd.R_far (p := ⟨gb529, 1, none⟩) (Kd.R_far (p := ⟨gb529, 0, none⟩) (Kd.R_types HO516.out BK529.out (by decide)) (fun _ hk => hk.2) (.int .i64 t520)) (fun _ hk => hk.2) (.slice Ao68 t521.length co68)) (fun _ hk => hk.2) (.slice Ao69 t524.length co69)) (fun _ h => ⟨h.1.1.1.1.1.1.2, h.1.1.1.1.1.2, h.1.1.1.1.2, h.1.1.1.2, h.1.1.2, h.1.2⟩))⟩, ⟨Sh.rl (Kd.R_mono (Kd.R_far (p := ⟨gb529, 2, none⟩) (Kd.R_far (p := ⟨gb529, 1, none⟩) (Kd.R_far (p := ⟨gb529, 0, none⟩) (Kd.R_types HO523.out BK529.out (by decide)) (fun _ hk => hk.2) (.int .i64 t520)) (fun _ hk => hk.2) (.slice Ao68 t521.length co68)) (fun _ hk => hk.2) (.slice Ao69 t524.length co69)) (fun _ h => ⟨h.1.1.1.1.2, h.1.1.1.2, h.1.1.2, h.1.2⟩))⟩, ⟨Sh.rl (Kd.R_mono (Kd.R_far (p := ⟨gb529, 2, none⟩) (Kd.R_far (p := ⟨gb529, 1, none⟩) (Kd.R_far (p := ⟨gb529, 0, none⟩) (Kd.R_types HO526.out BK529.out (by decide)) (fun _ hk => hk.2) (.int .i64 t520)) (fun _ hk => hk.2) (.slice Ao68 t521.length co68)) (fun _ hk => hk.2) (.slice Ao69 t524.length co69)) (fun _ h => ⟨h.1.1.1.1.1.1.2, h.1.1.1.1.1.2, h.1.1.1.1.2, h.1.1.1.2, h.1.1.2, h.1.2⟩))⟩, ⟨by refine Sh.pl ?_; refine blk_far ?_ NB488_529.out _; refine Sh.pl ?_; refine blk_far ?_ NB488_529.out _; refine Sh.pl ?_; refine blk_far ?_ NB488_529.out _; refine Sh.pl ?_; exact BK488.out⟩, ⟨by refine Sh.pl ?_; refine blk_far ?_ NB498_529.out _; refine Sh.pl ?_; refine blk_far ?_ NB498_529.out _; refine Sh.pl ?_; refine blk_far ?_ NB498_529.out _; refine Sh.pl ?_; exact BK498.out⟩, ⟨by refine Sh.pl ?_; refine blk_far ?_ NB508_529.out _; refine Sh.pl ?_; refine blk_far ?_ NB508_529.out _; refine Sh.pl ?_; refine blk_far ?_ NB508_529.out _; refine Sh.pl ?_; exact BK508.out⟩, ⟨by refine Sh.pl ?_; refine blk_far ?_ NB519_529.out _; refine Sh.pl ?_; refine blk_far ?_ NB519_529.out _; refine Sh.pl ?_; refine blk_far ?_ NB519_529.out _; refine Sh.pl ?_; exact BK519.out⟩, ⟨by refine Sh.pl ?_; refine blk_put (cs := #[.int .i64 t520, .slice Ao68 t521.length co68, .slice none 0 0]) ?_ 2 _ rfl; refine Sh.pl ?_; refine blk_put (cs := #[.int .i64 t520, .slice none 0 0, .slice none 0 0]) ?_ 1 _ rfl; refine Sh.pl ?_; refine blk_put (cs := #[.int .i64 0, .slice none 0 0, .slice none 0 0]) ?_ 0 _ rfl; refine Sh.pl ?_; exact BK529.out⟩, ⟨Sh.bw⟩⟩
        ·rw [if_neg c70] at H
         have c70b0 : (t518 != t528) = false := by simpa using c70
         (try (have c70b1 : decide (t518 = t528) = true := by simpa using c70))
         (try (have c70b2 : (t518 == t528) = true := by simpa using c70))
         clear c70
         first | rw [c70b0] | (simp only [i64_w, i32_w]; rw [c70b0]) | skip
         obtain ⟨t530, A71, H⟩ := Sh.ba H
         by_cases c72 : t530 = true
         ·subst c72
          rw [if_pos rfl] at H
          have H' := am_ H
          clear H
          have hnb73 := NB519_488.out
          have hnc73 := NB488_519.out
          have hnb74 := NB519_498.out
          have hnc74 := NB498_519.out
          have hnb75 := NB519_508.out
          have hnc75 := NB508_519.out
          have hnb76 := NB519_529.out
          have hnc76 := NB529_519.out
          have hcz77_0 := Sh.bc BK519.out 0
          have hcz77_1 := Sh.bc BK519.out 1
          have hcz77_2 := Sh.bc BK519.out 2
          have hfz77_0 := blk_frozen BK519.out 0
          have hfz77_1 := blk_frozen BK519.out 1
          have hfz77_2 := blk_frozen BK519.out 2
          have hnb78 := NB529_488.out
          have hnc78 := NB488_529.out
          have hnb79 := NB529_498.out
          have hnc79 := NB498_529.out
          have hnb80 := NB529_508.out
          have hnc80 := NB508_529.out
          have hcz81_0 := Sh.bc BK529.out 0
          have hcz81_1 := Sh.bc BK529.out 1
          have hcz81_2 := Sh.bc BK529.out 2
          have hfz81_0 := blk_frozen BK529.out 0
          have hfz81_1 := blk_frozen BK529.out 1
          have hfz81_2 := blk_frozen BK529.out 2
          go_wp2_with (first | (go_at_call 9; (with_reducible refine (laws_sameCircuit.calls kj7 t510 _ _ t511 _ _ t514 t520 _ _ t521 _ _ t524 true _ ?side1 ?side2 ?side3 ?side4 ?side5 ?side6 ?side7 ?side8 A71.out).mono ?_); (case side1 => refine (Kd.R_reads' (e := 66) (base := w.heap.size) (ok := fun k_ => ((((True ∧ some k_ ≠ (.slice Ao12 t476.length co12 : Value).ownBlock) ∧ some k_ ≠ (.slice Ao20 t490.length co20 : Value).ownBlock) ∧ some k_ ≠ (.slice Ao28 t500.length co28 : Value).ownBlock) ∧ some k_ ≠ (.slice Ao68 t521.length co68 : Value).ownBlock)) (n := t511.length) (c := co58) ?_).2.2; exact (Sh.rl (Kd.R_mono (Kd.R_far (p := ⟨gb529, 2, none⟩) (Kd.R_far (p := ⟨gb529, 1, none⟩) (Kd.R_far (p := ⟨gb529, 0, none⟩) (Kd.R_types HO513.out BK529.out (by decide)) (fun _ hk => hk.2) (.int .i64 t520)) (fun _ hk => hk.2) (.slice Ao68 t521.length co68)) (fun _ hk => hk.2) (.slice Ao69 t524.length co69)) (fun _ h_ => h_.1)))); (case side2 => exact (Kd.R_reads' HO513.out).2.1); (case side3 => refine (Kd.R_reads' (e := 3) (base := w.heap.size) (ok := fun k_ => ((((((True ∧ some k_ ≠ (.slice Ao14 t482.length co14 : Value).ownBlock) ∧ some k_ ≠ (.slice Ao15 t485.length co15 : Value).ownBlock) ∧ some k_ ≠ (.slice Ao13 t479.length co13 : Value).ownBlock) ∧ some k_ ≠ (.slice Ao21 t493.length co21 : Value).ownBlock) ∧ some k_ ≠ (.slice Ao29 t503.length co29 : Value).ownBlock) ∧ some k_ ≠ (.slice Ao69 t524.length co69 : Value).ownBlock)) (n := t514.length) (c := co59) ?_).2.2; exact (Sh.rl (Kd.R_mono (Kd.R_far (p := ⟨gb529, 2, none⟩) (Kd.R_far (p := ⟨gb529, 1, none⟩) (Kd.R_far (p := ⟨gb529, 0, none⟩) (Kd.R_types HO516.out BK529.out (by decide)) (fun _ hk => hk.2) (.int .i64 t520)) (fun _ hk => hk.2) (.slice Ao68 t521.length co68)) (fun _ hk => hk.2) (.slice Ao69 t524.length co69)) (fun _ h_ => h_.1)))); (case side4 => exact (Kd.R_reads' HO516.out).2.1); (case side5 => refine (Kd.R_reads' (e := 66) (base := w.heap.size) (ok := fun k_ => ((((True ∧ some k_ ≠ (.slice Ao12 t476.length co12 : Value).ownBlock) ∧ some k_ ≠ (.slice Ao20 t490.length co20 : Value).ownBlock) ∧ some k_ ≠ (.slice Ao28 t500.length co28 : Value).ownBlock) ∧ some k_ ≠ (.slice Ao58 t511.length co58 : Value).ownBlock)) (n := t521.length) (c := co68) ?_).2.2; exact (Sh.rl (Kd.R_mono (Kd.R_far (p := ⟨gb529, 2, none⟩) (Kd.R_far (p := ⟨gb529, 1, none⟩) (Kd.R_far (p := ⟨gb529, 0, none⟩) (Kd.R_types HO523.out BK529.out (by decide)) (fun _ hk => hk.2) (.int .i64 t520)) (fun _ hk => hk.2) (.slice Ao68 t521.length co68)) (fun _ hk => hk.2) (.slice Ao69 t524.length co69)) (fun _ h_ => h_.1)))); (case side6 => exact (Kd.R_reads' HO523.out).2.1); (case side7 => refine (Kd.R_reads' (e := 3) (base := w.heap.size) (ok := fun k_ => ((((((True ∧ some k_ ≠ (.slice Ao14 t482.length co14 : Value).ownBlock) ∧ some k_ ≠ (.slice Ao15 t485.length co15 : Value).ownBlock) ∧ some k_ ≠ (.slice Ao13 t479.length co13 : Value).ownBlock) ∧ some k_ ≠ (.slice Ao21 t493.length co21 : Value).ownBlock) ∧ some k_ ≠ (.slice Ao29 t503.length co29 : Value).ownBlock) ∧ some k_ ≠ (.slice Ao59 t514.length co59 : Value).ownBlock)) (n := t524.length) (c := co69) ?_).2.2; exact (Sh.rl (Kd.R_mono (Kd.R_far (p := ⟨gb529, 2, none⟩) (Kd.R_far (p := ⟨gb529, 1, none⟩) (Kd.R_far (p := ⟨gb529, 0, none⟩) (Kd.R_types HO526.out BK529.out (by decide)) (fun _ hk => hk.2) (.int .i64 t520)) (fun _ hk => hk.2) (.slice Ao68 t521.length co68)) (fun _ hk => hk.2) (.slice Ao69 t524.length co69)) (fun _ h_ => h_.1)))); (case side8 => exact (Kd.R_reads' HO526.out).2.1); rintro e w82 ⟨rfl, hb⟩; have n0_ := am_ (Kd.R_below (Sh.rl (Kd.R_mono (Kd.R_far (p := ⟨gb529, 2, none⟩) (Kd.R_far (p := ⟨gb529, 1, none⟩) (Kd.R_far (p := ⟨gb529, 0, none⟩) (Kd.R_types HO_6.out BK529.out (by decide)) (fun _ hk => hk.2) (.int .i64 t520)) (fun _ hk => hk.2) (.slice Ao68 t521.length co68)) (fun _ hk => hk.2) (.slice Ao69 t524.length co69)) (fun _ h_ => h_.1))) hb); have n1_ := am_ (Kd.R_below (Sh.rl (Kd.R_mono (Kd.R_far (p := ⟨gb529, 2, none⟩) (Kd.R_far (p := ⟨gb529, 1, none⟩) (Kd.R_far (p := ⟨gb529, 0, none⟩) (Kd.R_types HO_7.out BK529.out (by decide)) (fun _ hk => hk.2) (.int .i64 t520)) (fun _ hk => hk.2) (.slice Ao68 t521.length co68)) (fun _ hk => hk.2) (.slice Ao69 t524.length co69)) (fun _ h_ => h_.1))) hb); have n2_ := am_ (Kd.R_below (Sh.rl (Kd.R_mono (Kd.R_far (p := ⟨gb529, 2, none⟩) (Kd.R_far (p := ⟨gb529, 1, none⟩) (Kd.R_far (p := ⟨gb529, 0, none⟩) (Kd.R_types HO_489001.out BK529.out (by decide)) (fun _ hk => hk.2) (.int .i64 t520)) (fun _ hk => hk.2) (.slice Ao68 t521.length co68)) (fun _ hk => hk.2) (.slice Ao69 t524.length co69)) (fun _ h_ => h_.1))) hb); have n3_ := am_ (Kd.R_below (Sh.rl (Kd.R_mono (Kd.R_far (p := ⟨gb529, 2, none⟩) (Kd.R_far (p := ⟨gb529, 1, none⟩) (Kd.R_far (p := ⟨gb529, 0, none⟩) (Kd.R_types HO_489002.out BK529.out (by decide)) (fun _ hk => hk.2) (.int .i64 t520)) (fun _ hk => hk.2) (.slice Ao68 t521.length co68)) (fun _ hk => hk.2) (.slice Ao69 t524.length co69)) (fun _ h_ => h_.1))) hb); have n4_ := am_ (Kd.R_below (Sh.rl (Kd.R_mono (Kd.R_far (p := ⟨gb529, 2, none⟩) (Kd.R_far (p := ⟨gb529, 1, none⟩) (Kd.R_far (p := ⟨gb529, 0, none⟩) (Kd.R_types HO_499001.out BK529.out (by decide)) (fun _ hk => hk.2) (.int .i64 t520)) (fun _ hk => hk.2) (.slice Ao68 t521.length co68)) (fun _ hk => hk.2) (.slice Ao69 t524.length co69)) (fun _ h_ => h_.1))) hb); have n5_ := am_ (Kd.R_below (Sh.rl (Kd.R_mono (Kd.R_far (p := ⟨gb529, 2, none⟩) (Kd.R_far (p := ⟨gb529, 1, none⟩) (Kd.R_far (p := ⟨gb529, 0, none⟩) (Kd.R_types HO_499002.out BK529.out (by decide)) (fun _ hk => hk.2) (.int .i64 t520)) (fun _ hk => hk.2) (.slice Ao68 t521.length co68)) (fun _ hk => hk.2) (.slice Ao69 t524.length co69)) (fun _ h_ => h_.1))) hb); have n6_ := am_ (Kd.R_below (Sh.rl (Kd.R_mono (Kd.R_far (p := ⟨gb529, 2, none⟩) (Kd.R_far (p := ⟨gb529, 1, none⟩) (Kd.R_far (p := ⟨gb529, 0, none⟩) (Kd.R_types HO_509001.out BK529.out (by decide)) (fun _ hk => hk.2) (.int .i64 t520)) (fun _ hk => hk.2) (.slice Ao68 t521.length co68)) (fun _ hk => hk.2) (.slice Ao69 t524.length co69)) (fun _ h_ => h_.1))) hb); have n7_ := am_ (Kd.R_below (Sh.rl (Kd.R_mono (Kd.R_far (p := ⟨gb529, 2, none⟩) (Kd.R_far (p := ⟨gb529, 1, none⟩) (Kd.R_far (p := ⟨gb529, 0, none⟩) (Kd.R_types HO_509002.out BK529.out (by decide)) (fun _ hk => hk.2) (.int .i64 t520)) (fun _ hk => hk.2) (.slice Ao68 t521.length co68)) (fun _ hk => hk.2) (.slice Ao69 t524.length co69)) (fun _ h_ => h_.1))) hb); have n8_ := am_ (Kd.R_below (Sh.rl (Kd.R_mono (Kd.R_far (p := ⟨gb529, 2, none⟩) (Kd.R_far (p := ⟨gb529, 1, none⟩) (Kd.R_far (p := ⟨gb529, 0, none⟩) (Kd.R_types HO513.out BK529.out (by decide)) (fun _ hk => hk.2) (.int .i64 t520)) (fun _ hk => hk.2) (.slice Ao68 t521.length co68)) (fun _ hk => hk.2) (.slice Ao69 t524.length co69)) (fun _ h_ => h_.1))) hb); have n9_ := am_ (Kd.R_below (Sh.rl (Kd.R_mono (Kd.R_far (p := ⟨gb529, 2, none⟩) (Kd.R_far (p := ⟨gb529, 1, none⟩) (Kd.R_far (p := ⟨gb529, 0, none⟩) (Kd.R_types HO516.out BK529.out (by decide)) (fun _ hk => hk.2) (.int .i64 t520)) (fun _ hk => hk.2) (.slice Ao68 t521.length co68)) (fun _ hk => hk.2) (.slice Ao69 t524.length co69)) (fun _ h_ => h_.1))) hb); have n10_ := am_ (Kd.R_below (Sh.rl (Kd.R_mono (Kd.R_far (p := ⟨gb529, 2, none⟩) (Kd.R_far (p := ⟨gb529, 1, none⟩) (Kd.R_far (p := ⟨gb529, 0, none⟩) (Kd.R_types HO523.out BK529.out (by decide)) (fun _ hk => hk.2) (.int .i64 t520)) (fun _ hk => hk.2) (.slice Ao68 t521.length co68)) (fun _ hk => hk.2) (.slice Ao69 t524.length co69)) (fun _ h_ => h_.1))) hb); have n11_ := am_ (Kd.R_below (Sh.rl (Kd.R_mono (Kd.R_far (p := ⟨gb529, 2, none⟩) (Kd.R_far (p := ⟨gb529, 1, none⟩) (Kd.R_far (p := ⟨gb529, 0, none⟩) (Kd.R_types HO526.out BK529.out (by decide)) (fun _ hk => hk.2) (.int .i64 t520)) (fun _ hk => hk.2) (.slice Ao68 t521.length co68)) (fun _ hk => hk.2) (.slice Ao69 t524.length co69)) (fun _ h_ => h_.1))) hb); have n12_ := am_ (blk_below (g := gb488) (o := .cells #[.int .i64 t475, .slice Ao12 t476.length co12, .slice Ao13 t479.length co13] 27 (0, 0)) (by refine Sh.pl ?_; refine blk_far ?_ NB488_529.out _; refine Sh.pl ?_; refine blk_far ?_ NB488_529.out _; refine Sh.pl ?_; refine blk_far ?_ NB488_529.out _; refine Sh.pl ?_; exact BK488.out) hb); have n13_ := am_ (blk_below (g := gb498) (o := .cells #[.int .i64 t489, .slice Ao20 t490.length co20, .slice Ao21 t493.length co21] 27 (0, 0)) (by refine Sh.pl ?_; refine blk_far ?_ NB498_529.out _; refine Sh.pl ?_; refine blk_far ?_ NB498_529.out _; refine Sh.pl ?_; refine blk_far ?_ NB498_529.out _; refine Sh.pl ?_; exact BK498.out) hb); have n14_ := am_ (blk_below (g := gb508) (o := .cells #[.int .i64 t499, .slice Ao28 t500.length co28, .slice Ao29 t503.length co29] 27 (0, 0)) (by refine Sh.pl ?_; refine blk_far ?_ NB508_529.out _; refine Sh.pl ?_; refine blk_far ?_ NB508_529.out _; refine Sh.pl ?_; refine blk_far ?_ NB508_529.out _; refine Sh.pl ?_; exact BK508.out) hb); have n15_ := am_ (blk_below (g := gb519) (o := .cells #[.int .i64 t510, .slice Ao58 t511.length co58, .slice Ao59 t514.length co59] 27 (0, 0)) (by refine Sh.pl ?_; refine blk_far ?_ NB519_529.out _; refine Sh.pl ?_; refine blk_far ?_ NB519_529.out _; refine Sh.pl ?_; refine blk_far ?_ NB519_529.out _; refine Sh.pl ?_; exact BK519.out) hb); have n16_ := am_ (blk_below (g := gb529) (o := .cells #[.int .i64 t520, .slice Ao68 t521.length co68, .slice Ao69 t524.length co69] 27 (0, 0)) (by refine Sh.pl ?_; refine blk_put (cs := #[.int .i64 t520, .slice Ao68 t521.length co68, .slice none 0 0]) ?_ 2 _ rfl; refine Sh.pl ?_; refine blk_put (cs := #[.int .i64 t520, .slice none 0 0, .slice none 0 0]) ?_ 1 _ rfl; refine Sh.pl ?_; refine blk_put (cs := #[.int .i64 0, .slice none 0 0, .slice none 0 0]) ?_ 0 _ rfl; refine Sh.pl ?_; exact BK529.out) hb); have n17_ := am_ (below_step Sh.bw hb); clear HO_6; clear HO_7; clear HO_489001; clear HO_489002; clear HO_499001; clear HO_499002; clear HO_509001; clear HO_509002; clear HO513; clear HO516; clear HO523; clear HO526; clear BK488; clear BK498; clear BK508; clear BK519; clear BK529; clear HB; have HO_6 := n0_; have HO_7 := n1_; have HO_489001 := n2_; have HO_489002 := n3_; have HO_499001 := n4_; have HO_499002 := n5_; have HO_509001 := n6_; have HO_509002 := n7_; have HO513 := n8_; have HO516 := n9_; have HO523 := n10_; have HO526 := n11_; have BK488 := n12_; have BK498 := n13_; have BK508 := n14_; have BK519 := n15_; have BK529 := n16_; have HB := n17_; clear n0_ n1_ n2_ n3_ n4_ n5_ n6_ n7_ n8_ n9_ n10_ n11_ n12_ n13_ n14_ n15_ n16_ n17_; (try clear hb); (try clear hb2); (try clear hk); (try clear hi)))
          go_meet
          case rel => exact ⟨_, ((t517 != t527)), (Sh.es), H', ⟨by have := HJ7.out; first | omega | exact Nat.le_refl _⟩, ⟨Sh.rl (Kd.R_mono HO_6.out (fun _ h => ⟨h.1.1.1, h.1.1.2.1, h.1.1.2.2.1, h.1.1.2.2.2, h.1.2, h.2⟩))⟩, ⟨Sh.rl (Kd.R_mono HO_7.out (fun _ h => ⟨h.1.1.1, h.1.1.2.1, h.1.1.2.2.1, h.1.1.2.2.2, h.1.2, h.2⟩))⟩, ⟨Sh.rl (Kd.R_mono HO_489001.out (fun _ h => ⟨h.1.1.1, h.1.1.2, h.1.2, h.2⟩))⟩, ⟨Sh.rl (Kd.R_mono HO_489002.out (fun _ h => ⟨h.1.1.1, h.1.1.2.1, h.1.1.2.2.1, h.1.1.2.2.2, h.1.2, h.2⟩))⟩, ⟨Sh.rl (Kd.R_mono HO_499001.out (fun _ h => ⟨h.1.1.1, h.1.1.2, h.1.2, h.2⟩))⟩, ⟨Sh.rl (Kd.R_mono HO_499002.out (fun _ h => ⟨h.1.1.1, h.1.1.2.1, h.1.1.2.2.1, h.1.1.2.2.2, h.1.2, h.2⟩))⟩, ⟨Sh.rl (Kd.R_mono HO_509001.out (fun _ h => ⟨h.1.1.1, h.1.1.2, h.1.2, h.2⟩))⟩, ⟨Sh.rl (Kd.R_mono HO_509002.out (fun _ h => ⟨h.1.1.1, h.1.1.2.1, h.1.1.2.2.1, h.1.1.2.2.2, h.1.2, h.2⟩))⟩, ⟨Sh.rl (Kd.R_mono HO513.out (fun _ h => ⟨h.1.1.1.2, h.1.1.2, h.1.2, h.2⟩))⟩, ⟨Sh.rl (Kd.R_mono HO516.out (fun _ h => ⟨h.1.1.1.1.1.2, h.1.1.1.1.2, h.1.1.1.2, h.1.1.2, h.1.2, h.2⟩))⟩, ⟨Sh.rl (Kd.R_mono HO523.out (fun _ h => ⟨h.1.1.1.2, h.1.1.2, h.1.2, h.2⟩))⟩, ⟨Sh.rl (Kd.R_mono HO526.out (fun _ h => ⟨h.1.1.1.1.1.2, h.1.1.1.1.2, h.1.1.1.2, h.1.1.2, h.1.2, h.2⟩))⟩, ⟨by refine Sh.pl ?_; exact BK488.out⟩, ⟨by refine Sh.pl ?_; exact BK498.out⟩, ⟨by refine Sh.pl ?_; exact BK508.out⟩, ⟨by refine Sh.pl ?_; exact BK519.out⟩, ⟨by refine Sh.pl ?_; exact BK529.out⟩, ⟨Sh.bw⟩⟩
         ·replace c72 := Bool.eq_false_iff.mpr c72
          subst c72
          rw [Sh.nf] at H
          have H' := am_ H
          clear H
          have hnb83 := NB519_488.out
          have hnc83 := NB488_519.out
          have hnb84 := NB519_498.out
          have hnc84 := NB498_519.out
          have hnb85 := NB519_508.out
          have hnc85 := NB508_519.out
          have hnb86 := NB519_529.out
          have hnc86 := NB529_519.out
          have hcz87_0 := Sh.bc BK519.out 0
          have hcz87_1 := Sh.bc BK519.out 1
          have hcz87_2 := Sh.bc BK519.out 2
          have hfz87_0 := blk_frozen BK519.out 0
          have hfz87_1 := blk_frozen BK519.out 1
          have hfz87_2 := blk_frozen BK519.out 2
          have hnb88 := NB529_488.out
          have hnc88 := NB488_529.out
          have hnb89 := NB529_498.out
          have hnc89 := NB498_529.out
          have hnb90 := NB529_508.out
          have hnc90 := NB508_529.out
          have hcz91_0 := Sh.bc BK529.out 0
          have hcz91_1 := Sh.bc BK529.out 1
          have hcz91_2 := Sh.bc BK529.out 2
          have hfz91_0 := blk_frozen BK529.out 0
          have hfz91_1 := blk_frozen BK529.out 1
          have hfz91_2 := blk_frozen BK529.out 2
          go_wp2_with (first | (go_at_call 9; (with_reducible refine (laws_sameCircuit.calls kj7 t510 _ _ t511 _ _ t514 t520 _ _ t521 _ _ t524 false _ ?side1 ?side2 ?side3 ?side4 ?side5 ?side6 ?side7 ?side8 A71.out).mono ?_); (case side1 => refine (Kd.R_reads' (e := 66) (base := w.heap.size) (ok := fun k_ => ((((True ∧ some k_ ≠ (.slice Ao12 t476.length co12 : Value).ownBlock) ∧ some k_ ≠ (.slice Ao20 t490.length co20 : Value).ownBlock) ∧ some k_ ≠ (.slice Ao28 t500.length co28 : Value).ownBlock) ∧ some k_ ≠ (.slice Ao68 t521.length co68 : Value).ownBlock)) (n := t511.length) (c := co58) ?_).2.2; exact (Sh.rl (Kd.R_mono (Kd.R_far (p := ⟨gb529, 2, none⟩) (Kd.R_far (p := ⟨gb529, 1, none⟩) (Kd.R_far (p := ⟨gb529, 0, none⟩) (Kd.R_types HO513.out BK529.out (by decide)) (fun _ hk => hk.2) (.int .i64 t520)) (fun _ hk => hk.2) (.slice Ao68 t521.length co68)) (fun _ hk => hk.2) (.slice Ao69 t524.length co69)) (fun _ h_ => h_.1)))); (case side2 => exact (Kd.R_reads' HO513.out).2.1); (case side3 => refine (Kd.R_reads' (e := 3) (base := w.heap.size) (ok := fun k_ => ((((((True ∧ some k_ ≠ (.slice Ao14 t482.length co14 : Value).ownBlock) ∧ some k_ ≠ (.slice Ao15 t485.length co15 : Value).ownBlock) ∧ some k_ ≠ (.slice Ao13 t479.length co13 : Value).ownBlock) ∧ some k_ ≠ (.slice Ao21 t493.length co21 : Value).ownBlock) ∧ some k_ ≠ (.slice Ao29 t503.length co29 : Value).ownBlock) ∧ some k_ ≠ (.slice Ao69 t524.length co69 : Value).ownBlock)) (n := t514.length) (c := co59) ?_).2.2; exact (Sh.rl (Kd.R_mono (Kd.R_far (p := ⟨gb529, 2, none⟩) (Kd.R_far (p := ⟨gb529, 1, none⟩) (Kd.R_far (p := ⟨gb529, 0, none⟩) (Kd.R_types HO516.out BK529.out (by decide)) (fun _ hk => hk.2) (.int .i64 t520)) (fun _ hk => hk.2) (.slice Ao68 t521.length co68)) (fun _ hk => hk.2) (.slice Ao69 t524.length co69)) (fun _ h_ => h_.1)))); (case side4 => exact (Kd.R_reads' HO516.out).2.1); (case side5 => refine (Kd.R_reads' (e := 66) (base := w.heap.size) (ok := fun k_ => ((((True ∧ some k_ ≠ (.slice Ao12 t476.length co12 : Value).ownBlock) ∧ some k_ ≠ (.slice Ao20 t490.length co20 : Value).ownBlock) ∧ some k_ ≠ (.slice Ao28 t500.length co28 : Value).ownBlock) ∧ some k_ ≠ (.slice Ao58 t511.length co58 : Value).ownBlock)) (n := t521.length) (c := co68) ?_).2.2; exact (Sh.rl (Kd.R_mono (Kd.R_far (p := ⟨gb529, 2, none⟩) (Kd.R_far (p := ⟨gb529, 1, none⟩) (Kd.R_far (p := ⟨gb529, 0, none⟩) (Kd.R_types HO523.out BK529.out (by decide)) (fun _ hk => hk.2) (.int .i64 t520)) (fun _ hk => hk.2) (.slice Ao68 t521.length co68)) (fun _ hk => hk.2) (.slice Ao69 t524.length co69)) (fun _ h_ => h_.1)))); (case side6 => exact (Kd.R_reads' HO523.out).2.1); (case side7 => refine (Kd.R_reads' (e := 3) (base := w.heap.size) (ok := fun k_ => ((((((True ∧ some k_ ≠ (.slice Ao14 t482.length co14 : Value).ownBlock) ∧ some k_ ≠ (.slice Ao15 t485.length co15 : Value).ownBlock) ∧ some k_ ≠ (.slice Ao13 t479.length co13 : Value).ownBlock) ∧ some k_ ≠ (.slice Ao21 t493.length co21 : Value).ownBlock) ∧ some k_ ≠ (.slice Ao29 t503.length co29 : Value).ownBlock) ∧ some k_ ≠ (.slice Ao59 t514.length co59 : Value).ownBlock)) (n := t524.length) (c := co69) ?_).2.2; exact (Sh.rl (Kd.R_mono (Kd.R_far (p := ⟨gb529, 2, none⟩) (Kd.R_far (p := ⟨gb529, 1, none⟩) (Kd.R_far (p := ⟨gb529, 0, none⟩) (Kd.R_types HO526.out BK529.out (by decide)) (fun _ hk => hk.2) (.int .i64 t520)) (fun _ hk => hk.2) (.slice Ao68 t521.length co68)) (fun _ hk => hk.2) (.slice Ao69 t524.length co69)) (fun _ h_ => h_.1)))); (case side8 => exact (Kd.R_reads' HO526.out).2.1); rintro e w92 ⟨rfl, hb⟩; have n0_ := am_ (Kd.R_below (Sh.rl (Kd.R_mono (Kd.R_far (p := ⟨gb529, 2, none⟩) (Kd.R_far (p := ⟨gb529, 1, none⟩) (Kd.R_far (p := ⟨gb529, 0, none⟩) (Kd.R_types HO_6.out BK529.out (by decide)) (fun _ hk => hk.2) (.int .i64 t520)) (fun _ hk => hk.2) (.slice Ao68 t521.length co68)) (fun _ hk => hk.2) (.slice Ao69 t524.length co69)) (fun _ h_ => h_.1))) hb); have n1_ := am_ (Kd.R_below (Sh.rl (Kd.R_mono (Kd.R_far (p := ⟨gb529, 2, none⟩) (Kd.R_far (p := ⟨gb529, 1, none⟩) (Kd.R_far (p := ⟨gb529, 0, none⟩) (Kd.R_types HO_7.out BK529.out (by decide)) (fun _ hk => hk.2) (.int .i64 t520)) (fun _ hk => hk.2) (.slice Ao68 t521.length co68)) (fun _ hk => hk.2) (.slice Ao69 t524.length co69)) (fun _ h_ => h_.1))) hb); have n2_ := am_ (Kd.R_below (Sh.rl (Kd.R_mono (Kd.R_far (p := ⟨gb529, 2, none⟩) (Kd.R_far (p := ⟨gb529, 1, none⟩) (Kd.R_far (p := ⟨gb529, 0, none⟩) (Kd.R_types HO_489001.out BK529.out (by decide)) (fun _ hk => hk.2) (.int .i64 t520)) (fun _ hk => hk.2) (.slice Ao68 t521.length co68)) (fun _ hk => hk.2) (.slice Ao69 t524.length co69)) (fun _ h_ => h_.1))) hb); have n3_ := am_ (Kd.R_below (Sh.rl (Kd.R_mono (Kd.R_far (p := ⟨gb529, 2, none⟩) (Kd.R_far (p := ⟨gb529, 1, none⟩) (Kd.R_far (p := ⟨gb529, 0, none⟩) (Kd.R_types HO_489002.out BK529.out (by decide)) (fun _ hk => hk.2) (.int .i64 t520)) (fun _ hk => hk.2) (.slice Ao68 t521.length co68)) (fun _ hk => hk.2) (.slice Ao69 t524.length co69)) (fun _ h_ => h_.1))) hb); have n4_ := am_ (Kd.R_below (Sh.rl (Kd.R_mono (Kd.R_far (p := ⟨gb529, 2, none⟩) (Kd.R_far (p := ⟨gb529, 1, none⟩) (Kd.R_far (p := ⟨gb529, 0, none⟩) (Kd.R_types HO_499001.out BK529.out (by decide)) (fun _ hk => hk.2) (.int .i64 t520)) (fun _ hk => hk.2) (.slice Ao68 t521.length co68)) (fun _ hk => hk.2) (.slice Ao69 t524.length co69)) (fun _ h_ => h_.1))) hb); have n5_ := am_ (Kd.R_below (Sh.rl (Kd.R_mono (Kd.R_far (p := ⟨gb529, 2, none⟩) (Kd.R_far (p := ⟨gb529, 1, none⟩) (Kd.R_far (p := ⟨gb529, 0, none⟩) (Kd.R_types HO_499002.out BK529.out (by decide)) (fun _ hk => hk.2) (.int .i64 t520)) (fun _ hk => hk.2) (.slice Ao68 t521.length co68)) (fun _ hk => hk.2) (.slice Ao69 t524.length co69)) (fun _ h_ => h_.1))) hb); have n6_ := am_ (Kd.R_below (Sh.rl (Kd.R_mono (Kd.R_far (p := ⟨gb529, 2, none⟩) (Kd.R_far (p := ⟨gb529, 1, none⟩) (Kd.R_far (p := ⟨gb529, 0, none⟩) (Kd.R_types HO_509001.out BK529.out (by decide)) (fun _ hk => hk.2) (.int .i64 t520)) (fun _ hk => hk.2) (.slice Ao68 t521.length co68)) (fun _ hk => hk.2) (.slice Ao69 t524.length co69)) (fun _ h_ => h_.1))) hb); have n7_ := am_ (Kd.R_below (Sh.rl (Kd.R_mono (Kd.R_far (p := ⟨gb529, 2, none⟩) (Kd.R_far (p := ⟨gb529, 1, none⟩) (Kd.R_far (p := ⟨gb529, 0, none⟩) (Kd.R_types HO_509002.out BK529.out (by decide)) (fun _ hk => hk.2) (.int .i64 t520)) (fun _ hk => hk.2) (.slice Ao68 t521.length co68)) (fun _ hk => hk.2) (.slice Ao69 t524.length co69)) (fun _ h_ => h_.1))) hb); have n8_ := am_ (Kd.R_below (Sh.rl (Kd.R_mono (Kd.R_far (p := ⟨gb529, 2, none⟩) (Kd.R_far (p := ⟨gb529, 1, none⟩) (Kd.R_far (p := ⟨gb529, 0, none⟩) (Kd.R_types HO513.out BK529.out (by decide)) (fun _ hk => hk.2) (.int .i64 t520)) (fun _ hk => hk.2) (.slice Ao68 t521.length co68)) (fun _ hk => hk.2) (.slice Ao69 t524.length co69)) (fun _ h_ => h_.1))) hb); have n9_ := am_ (Kd.R_below (Sh.rl (Kd.R_mono (Kd.R_far (p := ⟨gb529, 2, none⟩) (Kd.R_far (p := ⟨gb529, 1, none⟩) (Kd.R_far (p := ⟨gb529, 0, none⟩) (Kd.R_types HO516.out BK529.out (by decide)) (fun _ hk => hk.2) (.int .i64 t520)) (fun _ hk => hk.2) (.slice Ao68 t521.length co68)) (fun _ hk => hk.2) (.slice Ao69 t524.length co69)) (fun _ h_ => h_.1))) hb); have n10_ := am_ (Kd.R_below (Sh.rl (Kd.R_mono (Kd.R_far (p := ⟨gb529, 2, none⟩) (Kd.R_far (p := ⟨gb529, 1, none⟩) (Kd.R_far (p := ⟨gb529, 0, none⟩) (Kd.R_types HO523.out BK529.out (by decide)) (fun _ hk => hk.2) (.int .i64 t520)) (fun _ hk => hk.2) (.slice Ao68 t521.length co68)) (fun _ hk => hk.2) (.slice Ao69 t524.length co69)) (fun _ h_ => h_.1))) hb); have n11_ := am_ (Kd.R_below (Sh.rl (Kd.R_mono (Kd.R_far (p := ⟨gb529, 2, none⟩) (Kd.R_far (p := ⟨gb529, 1, none⟩) (Kd.R_far (p := ⟨gb529, 0, none⟩) (Kd.R_types HO526.out BK529.out (by decide)) (fun _ hk => hk.2) (.int .i64 t520)) (fun _ hk => hk.2) (.slice Ao68 t521.length co68)) (fun _ hk => hk.2) (.slice Ao69 t524.length co69)) (fun _ h_ => h_.1))) hb); have n12_ := am_ (blk_below (g := gb488) (o := .cells #[.int .i64 t475, .slice Ao12 t476.length co12, .slice Ao13 t479.length co13] 27 (0, 0)) (by refine Sh.pl ?_; refine blk_far ?_ NB488_529.out _; refine Sh.pl ?_; refine blk_far ?_ NB488_529.out _; refine Sh.pl ?_; refine blk_far ?_ NB488_529.out _; refine Sh.pl ?_; exact BK488.out) hb); have n13_ := am_ (blk_below (g := gb498) (o := .cells #[.int .i64 t489, .slice Ao20 t490.length co20, .slice Ao21 t493.length co21] 27 (0, 0)) (by refine Sh.pl ?_; refine blk_far ?_ NB498_529.out _; refine Sh.pl ?_; refine blk_far ?_ NB498_529.out _; refine Sh.pl ?_; refine blk_far ?_ NB498_529.out _; refine Sh.pl ?_; exact BK498.out) hb); have n14_ := am_ (blk_below (g := gb508) (o := .cells #[.int .i64 t499, .slice Ao28 t500.length co28, .slice Ao29 t503.length co29] 27 (0, 0)) (by refine Sh.pl ?_; refine blk_far ?_ NB508_529.out _; refine Sh.pl ?_; refine blk_far ?_ NB508_529.out _; refine Sh.pl ?_; refine blk_far ?_ NB508_529.out _; refine Sh.pl ?_; exact BK508.out) hb); have n15_ := am_ (blk_below (g := gb519) (o := .cells #[.int .i64 t510, .slice Ao58 t511.length co58, .slice Ao59 t514.length co59] 27 (0, 0)) (by refine Sh.pl ?_; refine blk_far ?_ NB519_529.out _; refine Sh.pl ?_; refine blk_far ?_ NB519_529.out _; refine Sh.pl ?_; refine blk_far ?_ NB519_529.out _; refine Sh.pl ?_; exact BK519.out) hb); have n16_ := am_ (blk_below (g := gb529) (o := .cells #[.int .i64 t520, .slice Ao68 t521.length co68, .slice Ao69 t524.length co69] 27 (0, 0)) (by refine Sh.pl ?_; refine blk_put (cs := #[.int .i64 t520, .slice Ao68 t521.length co68, .slice none 0 0]) ?_ 2 _ rfl; refine Sh.pl ?_; refine blk_put (cs := #[.int .i64 t520, .slice none 0 0, .slice none 0 0]) ?_ 1 _ rfl; refine Sh.pl ?_; refine blk_put (cs := #[.int .i64 0, .slice none 0 0, .slice none 0 0]) ?_ 0 _ rfl; refine Sh.pl ?_; exact BK529.out) hb); have n17_ := am_ (below_step Sh.bw hb); clear HO_6; clear HO_7; clear HO_489001; clear HO_489002; clear HO_499001; clear HO_499002; clear HO_509001; clear HO_509002; clear HO513; clear HO516; clear HO523; clear HO526; clear BK488; clear BK498; clear BK508; clear BK519; clear BK529; clear HB; have HO_6 := n0_; have HO_7 := n1_; have HO_489001 := n2_; have HO_489002 := n3_; have HO_499001 := n4_; have HO_499002 := n5_; have HO_509001 := n6_; have HO_509002 := n7_; have HO513 := n8_; have HO516 := n9_; have HO523 := n10_; have HO526 := n11_; have BK488 := n12_; have BK498 := n13_; have BK508 := n14_; have BK519 := n15_; have BK529 := n16_; have HB := n17_; clear n0_ n1_ n2_ n3_ n4_ n5_ n6_ n7_ n8_ n9_ n10_ n11_ n12_ n13_ n14_ n15_ n16_ n17_; (try clear hb); (try clear hb2); (try clear hk); (try clear hi)))
          go_meet
          case rel => exact ⟨_, (true), (Sh.es), H', ⟨by have := HJ7.out; first | omega | exact Nat.le_refl _⟩, ⟨Sh.rl (Kd.R_mono HO_6.out (fun _ h => ⟨h.1.1.1, h.1.1.2.1, h.1.1.2.2.1, h.1.1.2.2.2, h.1.2, h.2⟩))⟩, ⟨Sh.rl (Kd.R_mono HO_7.out (fun _ h => ⟨h.1.1.1, h.1.1.2.1, h.1.1.2.2.1, h.1.1.2.2.2, h.1.2, h.2⟩))⟩, ⟨Sh.rl (Kd.R_mono HO_489001.out (fun _ h => ⟨h.1.1.1, h.1.1.2, h.1.2, h.2⟩))⟩, ⟨Sh.rl (Kd.R_mono HO_489002.out (fun _ h => ⟨h.1.1.1, h.1.1.2.1, h.1.1.2.2.1, h.1.1.2.2.2, h.1.2, h.2⟩))⟩, ⟨Sh.rl (Kd.R_mono HO_499001.out (fun _ h => ⟨h.1.1.1, h.1.1.2, h.1.2, h.2⟩))⟩, ⟨Sh.rl (Kd.R_mono HO_499002.out (fun _ h => ⟨h.1.1.1, h.1.1.2.1, h.1.1.2.2.1, h.1.1.2.2.2, h.1.2, h.2⟩))⟩, ⟨Sh.rl (Kd.R_mono HO_509001.out (fun _ h => ⟨h.1.1.1, h.1.1.2, h.1.2, h.2⟩))⟩, ⟨Sh.rl (Kd.R_mono HO_509002.out (fun _ h => ⟨h.1.1.1, h.1.1.2.1, h.1.1.2.2.1, h.1.1.2.2.2, h.1.2, h.2⟩))⟩, ⟨Sh.rl (Kd.R_mono HO513.out (fun _ h => ⟨h.1.1.1.2, h.1.1.2, h.1.2, h.2⟩))⟩, ⟨Sh.rl (Kd.R_mono HO516.out (fun _ h => ⟨h.1.1.1.1.1.2, h.1.1.1.1.2, h.1.1.1.2, h.1.1.2, h.1.2, h.2⟩))⟩, ⟨Sh.rl (Kd.R_mono HO523.out (fun _ h => ⟨h.1.1.1.2, h.1.1.2, h.1.2, h.2⟩))⟩, ⟨Sh.rl (Kd.R_mono HO526.out (fun _ h => ⟨h.1.1.1.1.1.2, h.1.1.1.1.2, h.1.1.1.2, h.1.1.2, h.1.2, h.2⟩))⟩, ⟨by refine Sh.pl ?_; exact BK488.out⟩, ⟨by refine Sh.pl ?_; exact BK498.out⟩, ⟨by refine Sh.pl ?_; exact BK508.out⟩, ⟨by refine Sh.pl ?_; exact BK519.out⟩, ⟨by refine Sh.pl ?_; exact BK529.out⟩, ⟨Sh.bw⟩⟩
      case rest =>
       clear HC48
       try clear hcz11_0
       try clear hcz11_1
       try clear hcz11_2
       try clear hcz19_0
       try clear hcz19_1
       try clear hcz19_2
       try clear hcz22_0
       try clear hcz22_1
       try clear hcz22_2
       try clear hcz27_0
       try clear hcz27_1
       try clear hcz27_2
       try clear hcz35_0
       try clear hcz35_1
       try clear hcz35_2
       try clear hcz37_0
       try clear hcz37_1
       try clear hcz37_2
       try clear hcz41_0
       try clear hcz41_1
       try clear hcz41_2
       try clear hcz43_0
       try clear hcz43_1
       try clear hcz43_2
       try clear hcz51_0
       try clear hcz51_1
       try clear hcz51_2
       try clear hcz57_0
       try clear hcz57_1
       try clear hcz57_2
       try clear hcz60_0
       try clear hcz60_1
       try clear hcz60_2
       try clear hcz67_0
       try clear hcz67_1
       try clear hcz67_2
       try clear hcz77_0
       try clear hcz77_1
       try clear hcz77_2
       try clear hcz81_0
       try clear hcz81_1
       try clear hcz81_2
       try clear hcz87_0
       try clear hcz87_1
       try clear hcz87_2
       try clear hcz91_0
       try clear hcz91_1
       try clear hcz91_2
       try clear hfz11_0
       try clear hfz11_1
       try clear hfz11_2
       try clear hfz19_0
       try clear hfz19_1
       try clear hfz19_2
       try clear hfz22_0
       try clear hfz22_1
       try clear hfz22_2
       try clear hfz27_0
       try clear hfz27_1
       try clear hfz27_2
       try clear hfz35_0
       try clear hfz35_1
       try clear hfz35_2
       try clear hfz37_0
       try clear hfz37_1
       try clear hfz37_2
       try clear hfz41_0
       try clear hfz41_1
       try clear hfz41_2
       try clear hfz43_0
       try clear hfz43_1
       try clear hfz43_2
       try clear hfz51_0
       try clear hfz51_1
       try clear hfz51_2
       try clear hfz57_0
       try clear hfz57_1
       try clear hfz57_2
       try clear hfz60_0
       try clear hfz60_1
       try clear hfz60_2
       try clear hfz67_0
       try clear hfz67_1
       try clear hfz67_2
       try clear hfz77_0
       try clear hfz77_1
       try clear hfz77_2
       try clear hfz81_0
       try clear hfz81_1
       try clear hfz81_2
       try clear hfz87_0
       try clear hfz87_1
       try clear hfz87_2
       try clear hfz91_0
       try clear hfz91_1
       try clear hfz91_2
       obtain ⟨kq, x94_47, rfl, HA, HJ47, HO_6, HO_7, HO_489001, HO_489002, HO_499001, HO_499002, HO_509001, HO_509002, HO_520001, HO_520002, HO_530001, HO_530002, BK488, BK498, BK508, BK519, BK529, HB⟩ := hcut
       cases kq with
       | zero => exact absurd HA.out (by simp [laws_FnCompared.j1])
       | succ kj47 =>
        as_aux_lemma =>
         have H := HA.out
         clear HA
         simp only [laws_FnCompared.j1] at H
         by_cases c93 : x94_47 = true
         ·subst c93
          rw [if_pos rfl] at H
          obtain rfl := Option.some.inj H
          go_wp2
          go_ret
          exact ⟨Sh.eR, Sh.bw⟩
         ·replace c93 := Bool.eq_false_iff.mpr c93
          subst c93
          rw [Sh.nf] at H
          have HC94 := am_ H
          clear H
          go_upto_region 12 with (fail)
          go_cut [100] (fun v100 wc => ∃ (kq : Nat) (x100_93 : Bool), v100 = .bool x100_93 ∧ Aside0 (laws_FnCompared.j2 kq l1 t482 t485 t496 t517 x100_93 t475 t476 t479 t510 t511 t514 = some r) ∧ Aside0 (kq ≤ kj47) ∧ Aside0 (Kd.R (Kd.int .i64) 3 wc w.heap.size (fun k_ => some k_ ≠ ((.slice Ao15 t485.length co15) : Value).ownBlock ∧ some k_ ≠ ((.slice Ao13 t479.length co13) : Value).ownBlock ∧ some k_ ≠ ((.slice Ao21 t493.length co21) : Value).ownBlock ∧ some k_ ≠ ((.slice Ao29 t503.length co29) : Value).ownBlock ∧ some k_ ≠ ((.slice Ao59 t514.length co59) : Value).ownBlock ∧ some k_ ≠ ((.slice Ao69 t524.length co69) : Value).ownBlock) (.slice Ao14 t482.length co14) t482) ∧ Aside0 (Kd.R (Kd.int .i64) 3 wc w.heap.size (fun k_ => some k_ ≠ ((.slice Ao14 t482.length co14) : Value).ownBlock ∧ some k_ ≠ ((.slice Ao13 t479.length co13) : Value).ownBlock ∧ some k_ ≠ ((.slice Ao21 t493.length co21) : Value).ownBlock ∧ some k_ ≠ ((.slice Ao29 t503.length co29) : Value).ownBlock ∧ some k_ ≠ ((.slice Ao59 t514.length co59) : Value).ownBlock ∧ some k_ ≠ ((.slice Ao69 t524.length co69) : Value).ownBlock) (.slice Ao15 t485.length co15) t485) ∧ Aside0 (Kd.R k66 66 wc w.heap.size (fun k_ => some k_ ≠ ((.slice Ao20 t490.length co20) : Value).ownBlock ∧ some k_ ≠ ((.slice Ao28 t500.length co28) : Value).ownBlock ∧ some k_ ≠ ((.slice Ao58 t511.length co58) : Value).ownBlock ∧ some k_ ≠ ((.slice Ao68 t521.length co68) : Value).ownBlock) (.slice Ao12 t476.length co12) t476) ∧ Aside0 (Kd.R (Kd.int .i64) 3 wc w.heap.size (fun k_ => some k_ ≠ ((.slice Ao14 t482.length co14) : Value).ownBlock ∧ some k_ ≠ ((.slice Ao15 t485.length co15) : Value).ownBlock ∧ some k_ ≠ ((.slice Ao21 t493.length co21) : Value).ownBlock ∧ some k_ ≠ ((.slice Ao29 t503.length co29) : Value).ownBlock ∧ some k_ ≠ ((.slice Ao59 t514.length co59) : Value).ownBlock ∧ some k_ ≠ ((.slice Ao69 t524.length co69) : Value).ownBlock) (.slice Ao13 t479.length co13) t479) ∧ Aside0 (Kd.R k66 66 wc w.heap.size (fun k_ => some k_ ≠ ((.slice Ao12 t476.length co12) : Value).ownBlock ∧ some k_ ≠ ((.slice Ao28 t500.length co28) : Value).ownBlock ∧ some k_ ≠ ((.slice Ao58 t511.length co58) : Value).ownBlock ∧ some k_ ≠ ((.slice Ao68 t521.length co68) : Value).ownBlock) (.slice Ao20 t490.length co20) t490) ∧ Aside0 (Kd.R (Kd.int .i64) 3 wc w.heap.size (fun k_ => some k_ ≠ ((.slice Ao14 t482.length co14) : Value).ownBlock ∧ some k_ ≠ ((.slice Ao15 t485.length co15) : Value).ownBlock ∧ some k_ ≠ ((.slice Ao13 t479.length co13) : Value).ownBlock ∧ some k_ ≠ ((.slice Ao29 t503.length co29) : Value).ownBlock ∧ some k_ ≠ ((.slice Ao59 t514.length co59) : Value).ownBlock ∧ some k_ ≠ ((.slice Ao69 t524.length co69) : Value).ownBlock) (.slice Ao21 t493.length co21) t493) ∧ Aside0 (Kd.R k66 66 wc w.heap.size (fun k_ => some k_ ≠ ((.slice Ao12 t476.length co12) : Value).ownBlock ∧ some k_ ≠ ((.slice Ao20 t490.length co20) : Value).ownBlock ∧ some k_ ≠ ((.slice Ao58 t511.length co58) : Value).ownBlock ∧ some k_ ≠ ((.slice Ao68 t521.length co68) : Value).ownBlock) (.slice Ao28 t500.length co28) t500) ∧ Aside0 (Kd.R (Kd.int .i64) 3 wc w.heap.size (fun k_ => some k_ ≠ ((.slice Ao14 t482.length co14) : Value).ownBlock ∧ some k_ ≠ ((.slice Ao15 t485.length co15) : Value).ownBlock ∧ some k_ ≠ ((.slice Ao13 t479.length co13) : Value).ownBlock ∧ some k_ ≠ ((.slice Ao21 t493.length co21) : Value).ownBlock ∧ some k_ ≠ ((.slice Ao59 t514.length co59) : Value).ownBlock ∧ some k_ ≠ ((.slice Ao69 t524.length co69) : Value).ownBlock) (.slice Ao29 t503.length co29) t503) ∧ Aside0 (Kd.R k66 66 wc w.heap.size (fun k_ => some k_ ≠ ((.slice Ao12 t476.length co12) : Value).ownBlock ∧ some k_ ≠ ((.slice Ao20 t490.length co20) : Value).ownBlock ∧ some k_ ≠ ((.slice Ao28 t500.length co28) : Value).ownBlock ∧ some k_ ≠ ((.slice Ao68 t521.length co68) : Value).ownBlock) (.slice Ao58 t511.length co58) t511) ∧ Aside0 (Kd.R (Kd.int .i64) 3 wc w.heap.size (fun k_ => some k_ ≠ ((.slice Ao14 t482.length co14) : Value).ownBlock ∧ some k_ ≠ ((.slice Ao15 t485.length co15) : Value).ownBlock ∧ some k_ ≠ ((.slice Ao13 t479.length co13) : Value).ownBlock ∧ some k_ ≠ ((.slice Ao21 t493.length co21) : Value).ownBlock ∧ some k_ ≠ ((.slice Ao29 t503.length co29) : Value).ownBlock ∧ some k_ ≠ ((.slice Ao69 t524.length co69) : Value).ownBlock) (.slice Ao59 t514.length co59) t514) ∧ Aside0 (Kd.R k66 66 wc w.heap.size (fun k_ => some k_ ≠ ((.slice Ao12 t476.length co12) : Value).ownBlock ∧ some k_ ≠ ((.slice Ao20 t490.length co20) : Value).ownBlock ∧ some k_ ≠ ((.slice Ao28 t500.length co28) : Value).ownBlock ∧ some k_ ≠ ((.slice Ao58 t511.length co58) : Value).ownBlock) (.slice Ao68 t521.length co68) t521) ∧ Aside0 (Kd.R (Kd.int .i64) 3 wc w.heap.size (fun k_ => some k_ ≠ ((.slice Ao14 t482.length co14) : Value).ownBlock ∧ some k_ ≠ ((.slice Ao15 t485.length co15) : Value).ownBlock ∧ some k_ ≠ ((.slice Ao13 t479.length co13) : Value).ownBlock ∧ some k_ ≠ ((.slice Ao21 t493.length co21) : Value).ownBlock ∧ some k_ ≠ ((.slice Ao29 t503.length co29) : Value).ownBlock ∧ some k_ ≠ ((.slice Ao59 t514.length co59) : Value).ownBlock) (.slice Ao69 t524.length co69) t524) ∧ Aside0 (wc.heap[gb488]? = some (.cells #[.int .i64 t475, (.slice Ao12 t476.length co12), (.slice Ao13 t479.length co13)] 27 (0, 0))) ∧ Aside0 (wc.heap[gb498]? = some (.cells #[.int .i64 t489, (.slice Ao20 t490.length co20), (.slice Ao21 t493.length co21)] 27 (0, 0))) ∧ Aside0 (wc.heap[gb508]? = some (.cells #[.int .i64 t499, (.slice Ao28 t500.length co28), (.slice Ao29 t503.length co29)] 27 (0, 0))) ∧ Aside0 (wc.heap[gb519]? = some (.cells #[.int .i64 t510, (.slice Ao58 t511.length co58), (.slice Ao59 t514.length co59)] 27 (0, 0))) ∧ Aside0 (wc.heap[gb529]? = some (.cells #[.int .i64 t520, (.slice Ao68 t521.length co68), (.slice Ao69 t524.length co69)] 27 (0, 0))) ∧ Aside0 (Below w.heap.size w wc))
          case first =>
           as_aux_lemma =>
            have H := HC94.out
            clear HC94
            by_cases c95 : t497 = true
            ·subst c95
             rw [if_pos rfl] at H
             have H' := am_ H
             clear H
             go_wp2
             go_meet
             case rel => exact ⟨_, (!t518), (Sh.es), H', ⟨by have := HJ7.out; have := HJ47.out; first | omega | exact Nat.le_refl _⟩, ⟨Sh.rl HO_6.out⟩, ⟨Sh.rl HO_7.out⟩, ⟨Sh.rl HO_489001.out⟩, ⟨Sh.rl HO_489002.out⟩, ⟨Sh.rl HO_499001.out⟩, ⟨Sh.rl HO_499002.out⟩, ⟨Sh.rl HO_509001.out⟩, ⟨Sh.rl HO_509002.out⟩, ⟨Sh.rl HO_520001.out⟩, ⟨Sh.rl HO_520002.out⟩, ⟨Sh.rl HO_530001.out⟩, ⟨Sh.rl HO_530002.out⟩, ⟨by refine Sh.pl ?_; exact BK488.out⟩, ⟨by refine Sh.pl ?_; exact BK498.out⟩, ⟨by refine Sh.pl ?_; exact BK508.out⟩, ⟨by refine Sh.pl ?_; exact BK519.out⟩, ⟨by refine Sh.pl ?_; exact BK529.out⟩, ⟨Sh.bw⟩⟩
            ·replace c95 := Bool.eq_false_iff.mpr c95
             subst c95
             rw [Sh.nf] at H
             have H' := am_ H
             clear H
             go_wp2
             go_meet
             case rel => exact ⟨_, (true), (Sh.es), H', ⟨by have := HJ7.out; have := HJ47.out; first | omega | exact Nat.le_refl _⟩, ⟨Sh.rl HO_6.out⟩, ⟨Sh.rl HO_7.out⟩, ⟨Sh.rl HO_489001.out⟩, ⟨Sh.rl HO_489002.out⟩, ⟨Sh.rl HO_499001.out⟩, ⟨Sh.rl HO_499002.out⟩, ⟨Sh.rl HO_509001.out⟩, ⟨Sh.rl HO_509002.out⟩, ⟨Sh.rl HO_520001.out⟩, ⟨Sh.rl HO_520002.out⟩, ⟨Sh.rl HO_530001.out⟩, ⟨Sh.rl HO_530002.out⟩, ⟨by refine Sh.pl ?_; exact BK488.out⟩, ⟨by refine Sh.pl ?_; exact BK498.out⟩, ⟨by refine Sh.pl ?_; exact BK508.out⟩, ⟨by refine Sh.pl ?_; exact BK519.out⟩, ⟨by refine Sh.pl ?_; exact BK529.out⟩, ⟨Sh.bw⟩⟩
          case rest =>
           clear HC94
           try clear hcz11_0
           try clear hcz11_1
           try clear hcz11_2
           try clear hcz19_0
           try clear hcz19_1
           try clear hcz19_2
           try clear hcz22_0
           try clear hcz22_1
           try clear hcz22_2
           try clear hcz27_0
           try clear hcz27_1
           try clear hcz27_2
           try clear hcz35_0
           try clear hcz35_1
           try clear hcz35_2
           try clear hcz37_0
           try clear hcz37_1
           try clear hcz37_2
           try clear hcz41_0
           try clear hcz41_1
           try clear hcz41_2
           try clear hcz43_0
           try clear hcz43_1
           try clear hcz43_2
           try clear hcz51_0
           try clear hcz51_1
           try clear hcz51_2
           try clear hcz57_0
           try clear hcz57_1
           try clear hcz57_2
           try clear hcz60_0
           try clear hcz60_1
           try clear hcz60_2
           try clear hcz67_0
           try clear hcz67_1
           try clear hcz67_2
           try clear hcz77_0
           try clear hcz77_1
           try clear hcz77_2
           try clear hcz81_0
           try clear hcz81_1
           try clear hcz81_2
           try clear hcz87_0
           try clear hcz87_1
           try clear hcz87_2
           try clear hcz91_0
           try clear hcz91_1
           try clear hcz91_2
           try clear hfz11_0
           try clear hfz11_1
           try clear hfz11_2
           try clear hfz19_0
           try clear hfz19_1
           try clear hfz19_2
           try clear hfz22_0
           try clear hfz22_1
           try clear hfz22_2
           try clear hfz27_0
           try clear hfz27_1
           try clear hfz27_2
           try clear hfz35_0
           try clear hfz35_1
           try clear hfz35_2
           try clear hfz37_0
           try clear hfz37_1
           try clear hfz37_2
           try clear hfz41_0
           try clear hfz41_1
           try clear hfz41_2
           try clear hfz43_0
           try clear hfz43_1
           try clear hfz43_2
           try clear hfz51_0
           try clear hfz51_1
           try clear hfz51_2
           try clear hfz57_0
           try clear hfz57_1
           try clear hfz57_2
           try clear hfz60_0
           try clear hfz60_1
           try clear hfz60_2
           try clear hfz67_0
           try clear hfz67_1
           try clear hfz67_2
           try clear hfz77_0
           try clear hfz77_1
           try clear hfz77_2
           try clear hfz81_0
           try clear hfz81_1
           try clear hfz81_2
           try clear hfz87_0
           try clear hfz87_1
           try clear hfz87_2
           try clear hfz91_0
           try clear hfz91_1
           try clear hfz91_2
           obtain ⟨kq, x100_93, rfl, HA, HJ93, HO_6, HO_7, HO_489001, HO_489002, HO_499001, HO_499002, HO_509001, HO_509002, HO_520001, HO_520002, HO_530001, HO_530002, BK488, BK498, BK508, BK519, BK529, HB⟩ := hcut
           cases kq with
           | zero => exact absurd HA.out (by simp [laws_FnCompared.j2])
           | succ kj93 =>
            as_aux_lemma =>
             have H := HA.out
             clear HA
             simp only [laws_FnCompared.j2] at H
             by_cases c96 : x100_93 = true
             ·subst c96
              rw [if_pos rfl] at H
              obtain rfl := Option.some.inj H
              go_wp2
              go_ret
              exact ⟨Sh.eR, Sh.bw⟩
             ·replace c96 := Bool.eq_false_iff.mpr c96
              subst c96
              rw [Sh.nf] at H
              have H' := am_ H
              clear H
              go_wp2
              go_loopg [20, 21] kj93 (fun kq v20 v21 w' => ∃ (x20_4 : List Bool) (x21_4 : Int), v21 = .int .i64 x21_4 ∧ Aside0 (laws_FnCompared.l0 kq l1 t482 t485 t496 t517 x20_4 x21_4 t475 t476 t479 t510 t511 t514 = some r) ∧ Aside0 (kq ≤ kj93) ∧ Aside0 (Kd.R (Kd.int .i64) 3 w' w.heap.size (fun k_ => some k_ ≠ ((.slice Ao15 t485.length co15) : Value).ownBlock ∧ some k_ ≠ ((.slice Ao13 t479.length co13) : Value).ownBlock ∧ some k_ ≠ ((.slice Ao21 t493.length co21) : Value).ownBlock ∧ some k_ ≠ ((.slice Ao29 t503.length co29) : Value).ownBlock ∧ some k_ ≠ ((.slice Ao59 t514.length co59) : Value).ownBlock ∧ some k_ ≠ ((.slice Ao69 t524.length co69) : Value).ownBlock) (.slice Ao14 t482.length co14) t482) ∧ Aside0 (Kd.R (Kd.int .i64) 3 w' w.heap.size (fun k_ => some k_ ≠ ((.slice Ao14 t482.length co14) : Value).ownBlock ∧ some k_ ≠ ((.slice Ao13 t479.length co13) : Value).ownBlock ∧ some k_ ≠ ((.slice Ao21 t493.length co21) : Value).ownBlock ∧ some k_ ≠ ((.slice Ao29 t503.length co29) : Value).ownBlock ∧ some k_ ≠ ((.slice Ao59 t514.length co59) : Value).ownBlock ∧ some k_ ≠ ((.slice Ao69 t524.length co69) : Value).ownBlock) (.slice Ao15 t485.length co15) t485) ∧ Aside0 (Kd.R Kd.bool 4 w' w.heap.size (fun _ => True) v20 x20_4) ∧ Aside0 (Kd.R k66 66 w' w.heap.size (fun k_ => some k_ ≠ ((.slice Ao20 t490.length co20) : Value).ownBlock ∧ some k_ ≠ ((.slice Ao28 t500.length co28) : Value).ownBlock ∧ some k_ ≠ ((.slice Ao58 t511.length co58) : Value).ownBlock ∧ some k_ ≠ ((.slice Ao68 t521.length co68) : Value).ownBlock) (.slice Ao12 t476.length co12) t476) ∧ Aside0 (Kd.R (Kd.int .i64) 3 w' w.heap.size (fun k_ => some k_ ≠ ((.slice Ao14 t482.length co14) : Value).ownBlock ∧ some k_ ≠ ((.slice Ao15 t485.length co15) : Value).ownBlock ∧ some k_ ≠ ((.slice Ao21 t493.length co21) : Value).ownBlock ∧ some k_ ≠ ((.slice Ao29 t503.length co29) : Value).ownBlock ∧ some k_ ≠ ((.slice Ao59 t514.length co59) : Value).ownBlock ∧ some k_ ≠ ((.slice Ao69 t524.length co69) : Value).ownBlock) (.slice Ao13 t479.length co13) t479) ∧ Aside0 (Kd.R k66 66 w' w.heap.size (fun k_ => some k_ ≠ ((.slice Ao12 t476.length co12) : Value).ownBlock ∧ some k_ ≠ ((.slice Ao28 t500.length co28) : Value).ownBlock ∧ some k_ ≠ ((.slice Ao58 t511.length co58) : Value).ownBlock ∧ some k_ ≠ ((.slice Ao68 t521.length co68) : Value).ownBlock) (.slice Ao20 t490.length co20) t490) ∧ Aside0 (Kd.R (Kd.int .i64) 3 w' w.heap.size (fun k_ => some k_ ≠ ((.slice Ao14 t482.length co14) : Value).ownBlock ∧ some k_ ≠ ((.slice Ao15 t485.length co15) : Value).ownBlock ∧ some k_ ≠ ((.slice Ao13 t479.length co13) : Value).ownBlock ∧ some k_ ≠ ((.slice Ao29 t503.length co29) : Value).ownBlock ∧ some k_ ≠ ((.slice Ao59 t514.length co59) : Value).ownBlock ∧ some k_ ≠ ((.slice Ao69 t524.length co69) : Value).ownBlock) (.slice Ao21 t493.length co21) t493) ∧ Aside0 (Kd.R k66 66 w' w.heap.size (fun k_ => some k_ ≠ ((.slice Ao12 t476.length co12) : Value).ownBlock ∧ some k_ ≠ ((.slice Ao20 t490.length co20) : Value).ownBlock ∧ some k_ ≠ ((.slice Ao58 t511.length co58) : Value).ownBlock ∧ some k_ ≠ ((.slice Ao68 t521.length co68) : Value).ownBlock) (.slice Ao28 t500.length co28) t500) ∧ Aside0 (Kd.R (Kd.int .i64) 3 w' w.heap.size (fun k_ => some k_ ≠ ((.slice Ao14 t482.length co14) : Value).ownBlock ∧ some k_ ≠ ((.slice Ao15 t485.length co15) : Value).ownBlock ∧ some k_ ≠ ((.slice Ao13 t479.length co13) : Value).ownBlock ∧ some k_ ≠ ((.slice Ao21 t493.length co21) : Value).ownBlock ∧ some k_ ≠ ((.slice Ao59 t514.length co59) : Value).ownBlock ∧ some k_ ≠ ((.slice Ao69 t524.length co69) : Value).ownBlock) (.slice Ao29 t503.length co29) t503) ∧ Aside0 (Kd.R k66 66 w' w.heap.size (fun k_ => some k_ ≠ ((.slice Ao12 t476.length co12) : Value).ownBlock ∧ some k_ ≠ ((.slice Ao20 t490.length co20) : Value).ownBlock ∧ some k_ ≠ ((.slice Ao28 t500.length co28) : Value).ownBlock ∧ some k_ ≠ ((.slice Ao68 t521.length co68) : Value).ownBlock) (.slice Ao58 t511.length co58) t511) ∧ Aside0 (Kd.R (Kd.int .i64) 3 w' w.heap.size (fun k_ => some k_ ≠ ((.slice Ao14 t482.length co14) : Value).ownBlock ∧ some k_ ≠ ((.slice Ao15 t485.length co15) : Value).ownBlock ∧ some k_ ≠ ((.slice Ao13 t479.length co13) : Value).ownBlock ∧ some k_ ≠ ((.slice Ao21 t493.length co21) : Value).ownBlock ∧ some k_ ≠ ((.slice Ao29 t503.length co29) : Value).ownBlock ∧ some k_ ≠ ((.slice Ao69 t524.length co69) : Value).ownBlock) (.slice Ao59 t514.length co59) t514) ∧ Aside0 (Kd.R k66 66 w' w.heap.size (fun k_ => some k_ ≠ ((.slice Ao12 t476.length co12) : Value).ownBlock ∧ some k_ ≠ ((.slice Ao20 t490.length co20) : Value).ownBlock ∧ some k_ ≠ ((.slice Ao28 t500.length co28) : Value).ownBlock ∧ some k_ ≠ ((.slice Ao58 t511.length co58) : Value).ownBlock) (.slice Ao68 t521.length co68) t521) ∧ Aside0 (Kd.R (Kd.int .i64) 3 w' w.heap.size (fun k_ => some k_ ≠ ((.slice Ao14 t482.length co14) : Value).ownBlock ∧ some k_ ≠ ((.slice Ao15 t485.length co15) : Value).ownBlock ∧ some k_ ≠ ((.slice Ao13 t479.length co13) : Value).ownBlock ∧ some k_ ≠ ((.slice Ao21 t493.length co21) : Value).ownBlock ∧ some k_ ≠ ((.slice Ao29 t503.length co29) : Value).ownBlock ∧ some k_ ≠ ((.slice Ao59 t514.length co59) : Value).ownBlock) (.slice Ao69 t524.length co69) t524) ∧ Aside0 (w'.heap[gb488]? = some (.cells #[.int .i64 t475, (.slice Ao12 t476.length co12), (.slice Ao13 t479.length co13)] 27 (0, 0))) ∧ Aside0 (w'.heap[gb498]? = some (.cells #[.int .i64 t489, (.slice Ao20 t490.length co20), (.slice Ao21 t493.length co21)] 27 (0, 0))) ∧ Aside0 (w'.heap[gb508]? = some (.cells #[.int .i64 t499, (.slice Ao28 t500.length co28), (.slice Ao29 t503.length co29)] 27 (0, 0))) ∧ Aside0 (w'.heap[gb519]? = some (.cells #[.int .i64 t510, (.slice Ao58 t511.length co58), (.slice Ao59 t514.length co59)] 27 (0, 0))) ∧ Aside0 (w'.heap[gb529]? = some (.cells #[.int .i64 t520, (.slice Ao68 t521.length co68), (.slice Ao69 t524.length co69)] 27 (0, 0))) ∧ Aside0 (Below w.heap.size w w'))
              case atStart => exact ⟨(([] : List Bool)), (0), (Sh.es), H', ⟨Nat.le_refl _⟩, ⟨Sh.rl HO_6.out⟩, ⟨Sh.rl HO_7.out⟩, ⟨by first | exact Kd.R_nil _ _ _ _ _ | exact Kd.N_nil _ _ _ _ _ | exact Kd.V_nil _ _ _ _ _ | exact Kd.Q_nil _ _ _ _ _ | exact Kd.S_nil _ _ _ _ _⟩, ⟨Sh.rl HO_489001.out⟩, ⟨Sh.rl HO_489002.out⟩, ⟨Sh.rl HO_499001.out⟩, ⟨Sh.rl HO_499002.out⟩, ⟨Sh.rl HO_509001.out⟩, ⟨Sh.rl HO_509002.out⟩, ⟨Sh.rl HO_520001.out⟩, ⟨Sh.rl HO_520002.out⟩, ⟨Sh.rl HO_530001.out⟩, ⟨Sh.rl HO_530002.out⟩, ⟨by refine Sh.pl ?_; exact BK488.out⟩, ⟨by refine Sh.pl ?_; exact BK498.out⟩, ⟨by refine Sh.pl ?_; exact BK508.out⟩, ⟨by refine Sh.pl ?_; exact BK519.out⟩, ⟨by refine Sh.pl ?_; exact BK529.out⟩, ⟨Sh.bw⟩⟩
              case round =>
               as_aux_lemma =>
                clear H'
                try clear hcz11_0
                try clear hcz11_1
                try clear hcz11_2
                try clear hcz19_0
                try clear hcz19_1
                try clear hcz19_2
                try clear hcz22_0
                try clear hcz22_1
                try clear hcz22_2
                try clear hcz27_0
                try clear hcz27_1
                try clear hcz27_2
                try clear hcz35_0
                try clear hcz35_1
                try clear hcz35_2
                try clear hcz37_0
                try clear hcz37_1
                try clear hcz37_2
                try clear hcz41_0
                try clear hcz41_1
                try clear hcz41_2
                try clear hcz43_0
                try clear hcz43_1
                try clear hcz43_2
                try clear hcz51_0
                try clear hcz51_1
                try clear hcz51_2
                try clear hcz57_0
                try clear hcz57_1
                try clear hcz57_2
                try clear hcz60_0
                try clear hcz60_1
                try clear hcz60_2
                try clear hcz67_0
                try clear hcz67_1
                try clear hcz67_2
                try clear hcz77_0
                try clear hcz77_1
                try clear hcz77_2
                try clear hcz81_0
                try clear hcz81_1
                try clear hcz81_2
                try clear hcz87_0
                try clear hcz87_1
                try clear hcz87_2
                try clear hcz91_0
                try clear hcz91_1
                try clear hcz91_2
                try clear hfz11_0
                try clear hfz11_1
                try clear hfz11_2
                try clear hfz19_0
                try clear hfz19_1
                try clear hfz19_2
                try clear hfz22_0
                try clear hfz22_1
                try clear hfz22_2
                try clear hfz27_0
                try clear hfz27_1
                try clear hfz27_2
                try clear hfz35_0
                try clear hfz35_1
                try clear hfz35_2
                try clear hfz37_0
                try clear hfz37_1
                try clear hfz37_2
                try clear hfz41_0
                try clear hfz41_1
                try clear hfz41_2
                try clear hfz43_0
                try clear hfz43_1
                try clear hfz43_2
                try clear hfz51_0
                try clear hfz51_1
                try clear hfz51_2
                try clear hfz57_0
                try clear hfz57_1
                try clear hfz57_2
                try clear hfz60_0
                try clear hfz60_1
                try clear hfz60_2
                try clear hfz67_0
                try clear hfz67_1
                try clear hfz67_2
                try clear hfz77_0
                try clear hfz77_1
                try clear hfz77_2
                try clear hfz81_0
                try clear hfz81_1
                try clear hfz81_2
                try clear hfz87_0
                try clear hfz87_1
                try clear hfz87_2
                try clear hfz91_0
                try clear hfz91_1
                try clear hfz91_2
                obtain ⟨x20_4, x21_4, rfl, HA, HK4, HO_6, HO_7, HO_20, HO_489001, HO_489002, HO_499001, HO_499002, HO_509001, HO_509002, HO_520001, HO_520002, HO_530001, HO_530002, BK488, BK498, BK508, BK519, BK529, HB⟩ := hrel
                cases gk with
                | zero => exact absurd HA.out (by simp [laws_FnCompared.l0])
                | succ k4 =>
                 as_aux_lemma =>
                  have H := HA.out
                  clear HA
                  simp only [laws_FnCompared.l0] at H
                  by_cases c97 : x21_4 < t475
                  ·rw [if_pos c97] at H
                   have c97b0 := decide_eq_true c97
                   clear c97
                   obtain ⟨t531, A98, H⟩ := Sh.ba H
                   obtain ⟨ji99, hj1⟩ : ∃ j_ : Int, (IntKind.u64.wrap (x21_4)) = j_ := ⟨_, rfl⟩
                   replace H : (if 0 ≤ (ji99) then (if x20_4.length < 140737488355328 then (laws_FnCompared.l0 k4 l1 t482 t485 t496 t517 (x20_4 ++ [((Go.bits .and .i64 (shr .i64 t531 (ji99)) 1) == 1)]) (wrap64 (x21_4 + 1)) t475 t476 t479 t510 t511 t514) else (none)) else (none)) = some r := by first | (rw [hj1] at H; exact H) | (simp only [hj1] at H ⊢; exact H)
                   (try rw [hj1] at A98)
                   by_cases c100 : 0 ≤ (ji99)
                   ·rw [if_pos c100] at H
                    have c100b0 := eq_true c100
                    have c100b1 := decide_eq_true c100
                    clear c100
                    obtain ⟨ji101, hj2⟩ : ∃ j_ : Int, (shr .i64 t531 (ji99)) = j_ := ⟨_, rfl⟩
                    replace H : (if x20_4.length < 140737488355328 then (laws_FnCompared.l0 k4 l1 t482 t485 t496 t517 (x20_4 ++ [((Go.bits .and .i64 (ji101) 1) == 1)]) (wrap64 (x21_4 + 1)) t475 t476 t479 t510 t511 t514) else (none)) = some r := by first | (rw [hj2] at H; exact H) | (simp only [hj2] at H ⊢; exact H)
                    (try rw [hj2] at A98)
                    have hji101_ : (t531 / 2 ^ min (ji99).toNat 64) = ji101 := hj2
                    have hji101z : (ji99) ≤ 64 → (t531 / 2 ^ (ji99).toNat) = ji101 := shr_small hj2
                    by_cases c102 : x20_4.length < 140737488355328
                    ·rw [if_pos c102] at H
                     have LMc102 := am_ c102
                     clear c102
                     obtain ⟨y532, hy532⟩ : ∃ y_ : List Bool, y_ = (x20_4 ++ [((Go.bits .and .i64 (ji101) 1) == 1)]) := ⟨_, rfl⟩
                     replace H : (laws_FnCompared.l0 k4 l1 t482 t485 t496 t517 y532 (wrap64 (x21_4 + 1)) t475 t476 t479 t510 t511 t514) = some r := by first | (rw [hy532]; with_reducible exact H) | (have H2_ := (Option.bind_some _ _).symm.trans H; rw [hy532]; with_reducible exact H2_) | (have H2_ := (Option.bind_some _ _).symm.trans H; with_reducible exact H2_) | with_reducible exact H | (rw [hy532]; exact H) | exact H
                     have Ny532 := am_ hy532
                     clear hy532
                     have H' := am_ H
                     clear H
                     have hnb103 := NB488_498.out
                     have hnc103 := NB498_488.out
                     have hnb104 := NB488_508.out
                     have hnc104 := NB508_488.out
                     have hnb105 := NB488_519.out
                     have hnc105 := NB519_488.out
                     have hnb106 := NB488_529.out
                     have hnc106 := NB529_488.out
                     have hcz107_0 := Sh.bc BK488.out 0
                     have hcz107_1 := Sh.bc BK488.out 1
                     have hcz107_2 := Sh.bc BK488.out 2
                     have hfz107_0 := blk_frozen BK488.out 0
                     have hfz107_1 := blk_frozen BK488.out 1
                     have hfz107_2 := blk_frozen BK488.out 2
                     go_wp2_with (first | ((with_reducible refine Sh.k 13 ?_); refine Sh.gD (some 109) Try.func13 #[.slice A1 l1.length c1] (laws_numberOf.calls k4 _ _ l1 t531 _ (Sh.cB HR1.out) HC1.out A98.out) fun nd => ?_) | ((with_reducible refine gate_builtin (b := .append) (xs := #[.tmp 107, .tmp 115]) rfl ?_); (try (refine gate_guard (by rfl) ?_; dsimp only)); at_builtin; refine Kd.R_append Kd.bool (w0 := w) w.heap.size rfl (.tmp 107) (.tmp 115) 35 4 (.bool false) 1 rfl Try.underlying35 info4 rfl (by decide) (by omega) u20 x20_4 ((Go.bits .and .i64 (ji101) 1) == 1) [.bool ((Go.bits .and .i64 (ji101) 1) == 1)] (fun _ => True) (fun _ => False) rfl rfl ?aP (fun _ hk => hk.elim) ?aF ?aO ?aB ?aS ?aL ?_; (case aP => exact rfl); (case aB => exact Sh.bw); (case aF => exact (fun _ _ => trivial)); (case aO => exact (Sh.rl HO_20.out)); (case aS => exact (below_size Sh.bw)); (case aL => have := LMc102.out; omega); intro v533 w108 ho hb hg hat; rw [← Ny532.out] at ho; have n0_ := am_ (Kd.R_over' (Sh.rl HO_6.out) (Kd.R_typed (Sh.rl HO_20.out)) (by decide) hg); have n1_ := am_ (Kd.R_over' (Sh.rl HO_7.out) (Kd.R_typed (Sh.rl HO_20.out)) (by decide) hg); have n2_ := am_ (Kd.R_over' (Sh.rl HO_489001.out) (Kd.R_typed (Sh.rl HO_20.out)) (by decide) hg); have n3_ := am_ (Kd.R_over' (Sh.rl HO_489002.out) (Kd.R_typed (Sh.rl HO_20.out)) (by decide) hg); have n4_ := am_ (Kd.R_over' (Sh.rl HO_499001.out) (Kd.R_typed (Sh.rl HO_20.out)) (by decide) hg); have n5_ := am_ (Kd.R_over' (Sh.rl HO_499002.out) (Kd.R_typed (Sh.rl HO_20.out)) (by decide) hg); have n6_ := am_ (Kd.R_over' (Sh.rl HO_509001.out) (Kd.R_typed (Sh.rl HO_20.out)) (by decide) hg); have n7_ := am_ (Kd.R_over' (Sh.rl HO_509002.out) (Kd.R_typed (Sh.rl HO_20.out)) (by decide) hg); have n8_ := am_ (Kd.R_over' (Sh.rl HO_520001.out) (Kd.R_typed (Sh.rl HO_20.out)) (by decide) hg); have n9_ := am_ (Kd.R_over' (Sh.rl HO_520002.out) (Kd.R_typed (Sh.rl HO_20.out)) (by decide) hg); have n10_ := am_ (Kd.R_over' (Sh.rl HO_530001.out) (Kd.R_typed (Sh.rl HO_20.out)) (by decide) hg); have n11_ := am_ (Kd.R_over' (Sh.rl HO_530002.out) (Kd.R_typed (Sh.rl HO_20.out)) (by decide) hg); have n12_ := am_ (blk_grown (g := gb488) (o := .cells #[.int .i64 t475, .slice Ao12 t476.length co12, .slice Ao13 t479.length co13] 27 (0, 0)) (Sh.pl BK488.out) hg (Kd.R_ne HO_20.out BK488.out (by decide))); have n13_ := am_ (blk_grown (g := gb498) (o := .cells #[.int .i64 t489, .slice Ao20 t490.length co20, .slice Ao21 t493.length co21] 27 (0, 0)) (Sh.pl BK498.out) hg (Kd.R_ne HO_20.out BK498.out (by decide))); have n14_ := am_ (blk_grown (g := gb508) (o := .cells #[.int .i64 t499, .slice Ao28 t500.length co28, .slice Ao29 t503.length co29] 27 (0, 0)) (Sh.pl BK508.out) hg (Kd.R_ne HO_20.out BK508.out (by decide))); have n15_ := am_ (blk_grown (g := gb519) (o := .cells #[.int .i64 t510, .slice Ao58 t511.length co58, .slice Ao59 t514.length co59] 27 (0, 0)) (Sh.pl BK519.out) hg (Kd.R_ne HO_20.out BK519.out (by decide))); have n16_ := am_ (blk_grown (g := gb529) (o := .cells #[.int .i64 t520, .slice Ao68 t521.length co68, .slice Ao69 t524.length co69] 27 (0, 0)) (Sh.pl BK529.out) hg (Kd.R_ne HO_20.out BK529.out (by decide))); have n17_ := am_ hb; have n18_ := am_ ho; clear HO_6; clear HO_7; clear HO_489001; clear HO_489002; clear HO_499001; clear HO_499002; clear HO_509001; clear HO_509002; clear HO_520001; clear HO_520002; clear HO_530001; clear HO_530002; clear BK488; clear BK498; clear BK508; clear BK519; clear BK529; clear HB; clear HO_20; have HO_6 := n0_; have HO_7 := n1_; have HO_489001 := n2_; have HO_489002 := n3_; have HO_499001 := n4_; have HO_499002 := n5_; have HO_509001 := n6_; have HO_509002 := n7_; have HO_520001 := n8_; have HO_520002 := n9_; have HO_530001 := n10_; have HO_530002 := n11_; have BK488 := n12_; have BK498 := n13_; have BK508 := n14_; have BK519 := n15_; have BK529 := n16_; have HB := n17_; have HO534 := n18_; clear n0_ n1_ n2_ n3_ n4_ n5_ n6_ n7_ n8_ n9_ n10_ n11_ n12_ n13_ n14_ n15_ n16_ n17_ n18_; clear ho hb hg hat))
                     go_roundg k4
                     case measure => have := HJ7.out; have := HJ47.out; have := HJ93.out; have := HK4.out; omega
                     case rel => exact ⟨(y532), (wrap64 (x21_4 + 1)), (Sh.es), H', ⟨by have := HJ7.out; have := HJ47.out; have := HJ93.out; have := HK4.out; omega⟩, ⟨Sh.rl HO_6.out⟩, ⟨Sh.rl HO_7.out⟩, ⟨Sh.rl HO534.out⟩, ⟨Sh.rl HO_489001.out⟩, ⟨Sh.rl HO_489002.out⟩, ⟨Sh.rl HO_499001.out⟩, ⟨Sh.rl HO_499002.out⟩, ⟨Sh.rl HO_509001.out⟩, ⟨Sh.rl HO_509002.out⟩, ⟨Sh.rl HO_520001.out⟩, ⟨Sh.rl HO_520002.out⟩, ⟨Sh.rl HO_530001.out⟩, ⟨Sh.rl HO_530002.out⟩, ⟨by refine Sh.pl ?_; exact BK488.out⟩, ⟨by refine Sh.pl ?_; exact BK498.out⟩, ⟨by refine Sh.pl ?_; exact BK508.out⟩, ⟨by refine Sh.pl ?_; exact BK519.out⟩, ⟨by refine Sh.pl ?_; exact BK529.out⟩, ⟨Sh.bw⟩⟩
                    ·rw [if_neg c102] at H
                     exact absurd H (by simp)
                   ·rw [if_neg c100] at H
                    exact absurd H (by simp)
                  ·rw [if_neg c97] at H
                   have c97b0 := decide_eq_false c97
                   clear c97
                   obtain ⟨⟨t535, t538⟩, A1090, H⟩ := Sh.bd H
                   have A109 := am_ A1090
                   clear A1090
                   have HC110 := am_ H
                   clear H
                   have hnb111 := NB488_498.out
                   have hnc111 := NB498_488.out
                   have hnb112 := NB488_508.out
                   have hnc112 := NB508_488.out
                   have hnb113 := NB488_519.out
                   have hnc113 := NB519_488.out
                   have hnb114 := NB488_529.out
                   have hnc114 := NB529_488.out
                   have hcz115_0 := Sh.bc BK488.out 0
                   have hcz115_1 := Sh.bc BK488.out 1
                   have hcz115_2 := Sh.bc BK488.out 2
                   have hfz115_0 := blk_frozen BK488.out 0
                   have hfz115_1 := blk_frozen BK488.out 1
                   have hfz115_2 := blk_frozen BK488.out 2
                   have hnb116 := NB519_498.out
                   have hnc116 := NB498_519.out
                   have hnb117 := NB519_508.out
                   have hnc117 := NB508_519.out
                   have hnb118 := NB519_529.out
                   have hnc118 := NB529_519.out
                   have hcz119_0 := Sh.bc BK519.out 0
                   have hcz119_1 := Sh.bc BK519.out 1
                   have hcz119_2 := Sh.bc BK519.out 2
                   have hfz119_0 := blk_frozen BK519.out 0
                   have hfz119_1 := blk_frozen BK519.out 1
                   have hfz119_2 := blk_frozen BK519.out 2
                   obtain ⟨Ao120, co120, eo120⟩ := Kd.R_slice HO_20.out
                   subst eo120
                   go_upto_region 20 with (first | ((with_reducible refine Sh.k 14 ?_); refine Sh.gL (some 120) Try.func14 #[.agg #[.int .i64 t510, .slice Ao58 t511.length co58, .slice Ao59 t514.length co59], .slice Ao120 x20_4.length co120] (h := ?_); (with_reducible refine (impl_AllWires.calls k4 t510 _ _ t511 _ _ t514 _ _ x20_4 t535 t538 _ (Sh.cR (Kd.R_reads' HO_520001.out).2.2) (Kd.R_reads' HO_520001.out).2.1 (Sh.cR (Kd.R_reads' HO_520002.out).2.2) (Kd.R_reads' HO_520002.out).2.1 (Sh.cR (Kd.R_reads' HO_20.out).2.2) (Kd.R_reads' HO_20.out).2.1 A109.out).mono ?_); rintro e w121 ⟨v536, rfl, ho0, hb⟩; refine ⟨_, rfl, ?_⟩; replace HO_6 := am_ (Kd.R_below (Sh.rl HO_6.out) hb); replace HO_7 := am_ (Kd.R_below (Sh.rl HO_7.out) hb); replace HO_489001 := am_ (Kd.R_below (Sh.rl HO_489001.out) hb); replace HO_489002 := am_ (Kd.R_below (Sh.rl HO_489002.out) hb); replace HO_499001 := am_ (Kd.R_below (Sh.rl HO_499001.out) hb); replace HO_499002 := am_ (Kd.R_below (Sh.rl HO_499002.out) hb); replace HO_509001 := am_ (Kd.R_below (Sh.rl HO_509001.out) hb); replace HO_509002 := am_ (Kd.R_below (Sh.rl HO_509002.out) hb); replace HO_520001 := am_ (Kd.R_below (Sh.rl HO_520001.out) hb); replace HO_520002 := am_ (Kd.R_below (Sh.rl HO_520002.out) hb); replace HO_530001 := am_ (Kd.R_below (Sh.rl HO_530001.out) hb); replace HO_530002 := am_ (Kd.R_below (Sh.rl HO_530002.out) hb); have HO537 := am_ (Kd.R_lower (Kd.R_new' ho0 (Kd.R_lt (Sh.rl HO_20.out))) (below_size Sh.bw)); replace HO_20 := am_ (Kd.R_elder' (Sh.rl HO_20.out) (Kd.R_base ho0) hb); replace BK488 := Sh.ab BK488 hb; replace BK498 := Sh.ab BK498 hb; replace BK508 := Sh.ab BK508 hb; replace BK519 := Sh.ab BK519 hb; replace BK529 := Sh.ab BK529 hb; replace HB := Sh.hb hb; (try clear hb); (try clear hb2); (try clear hk); (try clear hi); (try clear ho0)))
                   (try simp only [Act.put, List.setIfInBounds_toArray, List.set_cons_zero, List.set_cons_succ])
                   go_cut [160] (fun v160 wc => ∃ (kq : Nat) (x160_109 : Bool), v160 = .bool x160_109 ∧ Aside0 (laws_FnCompared.j4 kq t482 t485 t496 t517 t535 t538 x160_109 t475 t476 t479 = some r) ∧ Aside0 (kq ≤ k4) ∧ Aside0 (Kd.R (Kd.int .i64) 3 wc w.heap.size (fun k_ => some k_ ≠ ((.slice Ao15 t485.length co15) : Value).ownBlock ∧ some k_ ≠ ((.slice Ao13 t479.length co13) : Value).ownBlock ∧ some k_ ≠ ((.slice Ao21 t493.length co21) : Value).ownBlock ∧ some k_ ≠ ((.slice Ao29 t503.length co29) : Value).ownBlock ∧ some k_ ≠ ((.slice Ao59 t514.length co59) : Value).ownBlock ∧ some k_ ≠ ((.slice Ao69 t524.length co69) : Value).ownBlock) (.slice Ao14 t482.length co14) t482) ∧ Aside0 (Kd.R (Kd.int .i64) 3 wc w.heap.size (fun k_ => some k_ ≠ ((.slice Ao14 t482.length co14) : Value).ownBlock ∧ some k_ ≠ ((.slice Ao13 t479.length co13) : Value).ownBlock ∧ some k_ ≠ ((.slice Ao21 t493.length co21) : Value).ownBlock ∧ some k_ ≠ ((.slice Ao29 t503.length co29) : Value).ownBlock ∧ some k_ ≠ ((.slice Ao59 t514.length co59) : Value).ownBlock ∧ some k_ ≠ ((.slice Ao69 t524.length co69) : Value).ownBlock) (.slice Ao15 t485.length co15) t485) ∧ Aside0 (Kd.R Kd.bool 4 wc w.heap.size (fun _ => True) v536 t535) ∧ Aside0 (Kd.R k66 66 wc w.heap.size (fun k_ => some k_ ≠ ((.slice Ao20 t490.length co20) : Value).ownBlock ∧ some k_ ≠ ((.slice Ao28 t500.length co28) : Value).ownBlock ∧ some k_ ≠ ((.slice Ao58 t511.length co58) : Value).ownBlock ∧ some k_ ≠ ((.slice Ao68 t521.length co68) : Value).ownBlock) (.slice Ao12 t476.length co12) t476) ∧ Aside0 (Kd.R (Kd.int .i64) 3 wc w.heap.size (fun k_ => some k_ ≠ ((.slice Ao14 t482.length co14) : Value).ownBlock ∧ some k_ ≠ ((.slice Ao15 t485.length co15) : Value).ownBlock ∧ some k_ ≠ ((.slice Ao21 t493.length co21) : Value).ownBlock ∧ some k_ ≠ ((.slice Ao29 t503.length co29) : Value).ownBlock ∧ some k_ ≠ ((.slice Ao59 t514.length co59) : Value).ownBlock ∧ some k_ ≠ ((.slice Ao69 t524.length co69) : Value).ownBlock) (.slice Ao13 t479.length co13) t479) ∧ Aside0 (Kd.R k66 66 wc w.heap.size (fun k_ => some k_ ≠ ((.slice Ao12 t476.length co12) : Value).ownBlock ∧ some k_ ≠ ((.slice Ao28 t500.length co28) : Value).ownBlock ∧ some k_ ≠ ((.slice Ao58 t511.length co58) : Value).ownBlock ∧ some k_ ≠ ((.slice Ao68 t521.length co68) : Value).ownBlock) (.slice Ao20 t490.length co20) t490) ∧ Aside0 (Kd.R (Kd.int .i64) 3 wc w.heap.size (fun k_ => some k_ ≠ ((.slice Ao14 t482.length co14) : Value).ownBlock ∧ some k_ ≠ ((.slice Ao15 t485.length co15) : Value).ownBlock ∧ some k_ ≠ ((.slice Ao13 t479.length co13) : Value).ownBlock ∧ some k_ ≠ ((.slice Ao29 t503.length co29) : Value).ownBlock ∧ some k_ ≠ ((.slice Ao59 t514.length co59) : Value).ownBlock ∧ some k_ ≠ ((.slice Ao69 t524.length co69) : Value).ownBlock) (.slice Ao21 t493.length co21) t493) ∧ Aside0 (Kd.R k66 66 wc w.heap.size (fun k_ => some k_ ≠ ((.slice Ao12 t476.length co12) : Value).ownBlock ∧ some k_ ≠ ((.slice Ao20 t490.length co20) : Value).ownBlock ∧ some k_ ≠ ((.slice Ao58 t511.length co58) : Value).ownBlock ∧ some k_ ≠ ((.slice Ao68 t521.length co68) : Value).ownBlock) (.slice Ao28 t500.length co28) t500) ∧ Aside0 (Kd.R (Kd.int .i64) 3 wc w.heap.size (fun k_ => some k_ ≠ ((.slice Ao14 t482.length co14) : Value).ownBlock ∧ some k_ ≠ ((.slice Ao15 t485.length co15) : Value).ownBlock ∧ some k_ ≠ ((.slice Ao13 t479.length co13) : Value).ownBlock ∧ some k_ ≠ ((.slice Ao21 t493.length co21) : Value).ownBlock ∧ some k_ ≠ ((.slice Ao59 t514.length co59) : Value).ownBlock ∧ some k_ ≠ ((.slice Ao69 t524.length co69) : Value).ownBlock) (.slice Ao29 t503.length co29) t503) ∧ Aside0 (Kd.R k66 66 wc w.heap.size (fun k_ => some k_ ≠ ((.slice Ao12 t476.length co12) : Value).ownBlock ∧ some k_ ≠ ((.slice Ao20 t490.length co20) : Value).ownBlock ∧ some k_ ≠ ((.slice Ao28 t500.length co28) : Value).ownBlock ∧ some k_ ≠ ((.slice Ao68 t521.length co68) : Value).ownBlock) (.slice Ao58 t511.length co58) t511) ∧ Aside0 (Kd.R (Kd.int .i64) 3 wc w.heap.size (fun k_ => some k_ ≠ ((.slice Ao14 t482.length co14) : Value).ownBlock ∧ some k_ ≠ ((.slice Ao15 t485.length co15) : Value).ownBlock ∧ some k_ ≠ ((.slice Ao13 t479.length co13) : Value).ownBlock ∧ some k_ ≠ ((.slice Ao21 t493.length co21) : Value).ownBlock ∧ some k_ ≠ ((.slice Ao29 t503.length co29) : Value).ownBlock ∧ some k_ ≠ ((.slice Ao69 t524.length co69) : Value).ownBlock) (.slice Ao59 t514.length co59) t514) ∧ Aside0 (Kd.R k66 66 wc w.heap.size (fun k_ => some k_ ≠ ((.slice Ao12 t476.length co12) : Value).ownBlock ∧ some k_ ≠ ((.slice Ao20 t490.length co20) : Value).ownBlock ∧ some k_ ≠ ((.slice Ao28 t500.length co28) : Value).ownBlock ∧ some k_ ≠ ((.slice Ao58 t511.length co58) : Value).ownBlock) (.slice Ao68 t521.length co68) t521) ∧ Aside0 (Kd.R (Kd.int .i64) 3 wc w.heap.size (fun k_ => some k_ ≠ ((.slice Ao14 t482.length co14) : Value).ownBlock ∧ some k_ ≠ ((.slice Ao15 t485.length co15) : Value).ownBlock ∧ some k_ ≠ ((.slice Ao13 t479.length co13) : Value).ownBlock ∧ some k_ ≠ ((.slice Ao21 t493.length co21) : Value).ownBlock ∧ some k_ ≠ ((.slice Ao29 t503.length co29) : Value).ownBlock ∧ some k_ ≠ ((.slice Ao59 t514.length co59) : Value).ownBlock) (.slice Ao69 t524.length co69) t524) ∧ Aside0 (wc.heap[gb488]? = some (.cells #[.int .i64 t475, (.slice Ao12 t476.length co12), (.slice Ao13 t479.length co13)] 27 (0, 0))) ∧ Aside0 (wc.heap[gb498]? = some (.cells #[.int .i64 t489, (.slice Ao20 t490.length co20), (.slice Ao21 t493.length co21)] 27 (0, 0))) ∧ Aside0 (wc.heap[gb508]? = some (.cells #[.int .i64 t499, (.slice Ao28 t500.length co28), (.slice Ao29 t503.length co29)] 27 (0, 0))) ∧ Aside0 (wc.heap[gb519]? = some (.cells #[.int .i64 t510, (.slice Ao58 t511.length co58), (.slice Ao59 t514.length co59)] 27 (0, 0))) ∧ Aside0 (wc.heap[gb529]? = some (.cells #[.int .i64 t520, (.slice Ao68 t521.length co68), (.slice Ao69 t524.length co69)] 27 (0, 0))) ∧ Aside0 (Below w.heap.size w wc))
                   case first =>
                    as_aux_lemma =>
                     have H := HC110.out
                     clear HC110
                     by_cases c122 : t538 = true
                     ·subst c122
                      rw [if_pos rfl] at H
                      by_cases c123 : (t535.length : Int) = (wrap64 ((wrap64 ((wrap64 ((t476.length : Int) + t475)) + 2)) + (wrap64 (9 * (t482.length : Int)))))
                      ·rw [if_pos c123] at H
                       have c123b0 : ((t535.length : Int) == (wrap64 ((wrap64 ((wrap64 ((t476.length : Int) + t475)) + 2)) + (wrap64 (9 * (t482.length : Int)))))) = true := beq_iff_eq.mpr c123
                       have c123b1 : ((t535.length : Int) != (wrap64 ((wrap64 ((wrap64 ((t476.length : Int) + t475)) + 2)) + (wrap64 (9 * (t482.length : Int)))))) = false := bne_eq_false_iff_eq.mpr c123
                       clear c123
                       first | rw [c123b0] | (simp only [i64_w, i32_w]; rw [c123b0]) | skip
                       by_cases c124 : t496 < 0
                       ·rw [if_pos c124] at H
                        have c124b0 := decide_eq_true c124
                        clear c124
                        have H' := am_ H
                        clear H
                        obtain ⟨Ao125, co125, eo125⟩ := Kd.R_slice HO537.out
                        subst eo125
                        have hnb126 := NB488_498.out
                        have hnc126 := NB498_488.out
                        have hnb127 := NB488_508.out
                        have hnc127 := NB508_488.out
                        have hnb128 := NB488_519.out
                        have hnc128 := NB519_488.out
                        have hnb129 := NB488_529.out
                        have hnc129 := NB529_488.out
                        have hcz130_0 := Sh.bc BK488.out 0
                        have hcz130_1 := Sh.bc BK488.out 1
                        have hcz130_2 := Sh.bc BK488.out 2
                        have hfz130_0 := blk_frozen BK488.out 0
                        have hfz130_1 := blk_frozen BK488.out 1
                        have hfz130_2 := blk_frozen BK488.out 2
                        go_wp2
                        go_meet
                        case rel => exact ⟨_, (true), (Sh.es), H', ⟨by have := HJ7.out; have := HJ47.out; have := HJ93.out; have := HK4.out; first | omega | exact Nat.le_refl _⟩, ⟨Sh.rl HO_6.out⟩, ⟨Sh.rl HO_7.out⟩, ⟨Sh.rl (Kd.R_mono HO537.out (fun _ hk => trivial))⟩, ⟨Sh.rl HO_489001.out⟩, ⟨Sh.rl HO_489002.out⟩, ⟨Sh.rl HO_499001.out⟩, ⟨Sh.rl HO_499002.out⟩, ⟨Sh.rl HO_509001.out⟩, ⟨Sh.rl HO_509002.out⟩, ⟨Sh.rl HO_520001.out⟩, ⟨Sh.rl HO_520002.out⟩, ⟨Sh.rl HO_530001.out⟩, ⟨Sh.rl HO_530002.out⟩, ⟨by refine Sh.pl ?_; exact BK488.out⟩, ⟨by refine Sh.pl ?_; exact BK498.out⟩, ⟨by refine Sh.pl ?_; exact BK508.out⟩, ⟨by refine Sh.pl ?_; exact BK519.out⟩, ⟨by refine Sh.pl ?_; exact BK529.out⟩, ⟨Sh.bw⟩⟩
                       ·rw [if_neg c124] at H
                        have c124b0 := decide_eq_false c124
                        clear c124
                        by_cases c131 : t496 ≥ (t535.length : Int)
                        ·rw [if_pos c131] at H
                         have c131b0 : decide ((t535.length : Int) ≤ t496) = true := decide_eq_true c131
                         clear c131
                         have H' := am_ H
                         clear H
                         obtain ⟨Ao132, co132, eo132⟩ := Kd.R_slice HO537.out
                         subst eo132
                         have hnb133 := NB488_498.out
                         have hnc133 := NB498_488.out
                         have hnb134 := NB488_508.out
                         have hnc134 := NB508_488.out
                         have hnb135 := NB488_519.out
                         have hnc135 := NB519_488.out
                         have hnb136 := NB488_529.out
                         have hnc136 := NB529_488.out
                         have hcz137_0 := Sh.bc BK488.out 0
                         have hcz137_1 := Sh.bc BK488.out 1
                         have hcz137_2 := Sh.bc BK488.out 2
                         have hfz137_0 := blk_frozen BK488.out 0
                         have hfz137_1 := blk_frozen BK488.out 1
                         have hfz137_2 := blk_frozen BK488.out 2
                         go_wp2
                         go_meet
                         case rel => exact ⟨_, (true), (Sh.es), H', ⟨by have := HJ7.out; have := HJ47.out; have := HJ93.out; have := HK4.out; first | omega | exact Nat.le_refl _⟩, ⟨Sh.rl HO_6.out⟩, ⟨Sh.rl HO_7.out⟩, ⟨Sh.rl (Kd.R_mono HO537.out (fun _ hk => trivial))⟩, ⟨Sh.rl HO_489001.out⟩, ⟨Sh.rl HO_489002.out⟩, ⟨Sh.rl HO_499001.out⟩, ⟨Sh.rl HO_499002.out⟩, ⟨Sh.rl HO_509001.out⟩, ⟨Sh.rl HO_509002.out⟩, ⟨Sh.rl HO_520001.out⟩, ⟨Sh.rl HO_520002.out⟩, ⟨Sh.rl HO_530001.out⟩, ⟨Sh.rl HO_530002.out⟩, ⟨by refine Sh.pl ?_; exact BK488.out⟩, ⟨by refine Sh.pl ?_; exact BK498.out⟩, ⟨by refine Sh.pl ?_; exact BK508.out⟩, ⟨by refine Sh.pl ?_; exact BK519.out⟩, ⟨by refine Sh.pl ?_; exact BK529.out⟩, ⟨Sh.bw⟩⟩
                        ·rw [if_neg c131] at H
                         have c131b0 : decide ((t535.length : Int) ≤ t496) = false := decide_eq_false c131
                         clear c131
                         by_cases c138 : t517 < 0
                         ·rw [if_pos c138] at H
                          have c138b0 := decide_eq_true c138
                          clear c138
                          have H' := am_ H
                          clear H
                          obtain ⟨Ao139, co139, eo139⟩ := Kd.R_slice HO537.out
                          subst eo139
                          have hnb140 := NB488_498.out
                          have hnc140 := NB498_488.out
                          have hnb141 := NB488_508.out
                          have hnc141 := NB508_488.out
                          have hnb142 := NB488_519.out
                          have hnc142 := NB519_488.out
                          have hnb143 := NB488_529.out
                          have hnc143 := NB529_488.out
                          have hcz144_0 := Sh.bc BK488.out 0
                          have hcz144_1 := Sh.bc BK488.out 1
                          have hcz144_2 := Sh.bc BK488.out 2
                          have hfz144_0 := blk_frozen BK488.out 0
                          have hfz144_1 := blk_frozen BK488.out 1
                          have hfz144_2 := blk_frozen BK488.out 2
                          go_wp2
                          go_meet
                          case rel => exact ⟨_, (true), (Sh.es), H', ⟨by have := HJ7.out; have := HJ47.out; have := HJ93.out; have := HK4.out; first | omega | exact Nat.le_refl _⟩, ⟨Sh.rl HO_6.out⟩, ⟨Sh.rl HO_7.out⟩, ⟨Sh.rl (Kd.R_mono HO537.out (fun _ hk => trivial))⟩, ⟨Sh.rl HO_489001.out⟩, ⟨Sh.rl HO_489002.out⟩, ⟨Sh.rl HO_499001.out⟩, ⟨Sh.rl HO_499002.out⟩, ⟨Sh.rl HO_509001.out⟩, ⟨Sh.rl HO_509002.out⟩, ⟨Sh.rl HO_520001.out⟩, ⟨Sh.rl HO_520002.out⟩, ⟨Sh.rl HO_530001.out⟩, ⟨Sh.rl HO_530002.out⟩, ⟨by refine Sh.pl ?_; exact BK488.out⟩, ⟨by refine Sh.pl ?_; exact BK498.out⟩, ⟨by refine Sh.pl ?_; exact BK508.out⟩, ⟨by refine Sh.pl ?_; exact BK519.out⟩, ⟨by refine Sh.pl ?_; exact BK529.out⟩, ⟨Sh.bw⟩⟩
                         ·rw [if_neg c138] at H
                          have c138b0 := decide_eq_false c138
                          clear c138
                          have H' := am_ H
                          clear H
                          obtain ⟨Ao145, co145, eo145⟩ := Kd.R_slice HO537.out
                          subst eo145
                          have hnb146 := NB488_498.out
                          have hnc146 := NB498_488.out
                          have hnb147 := NB488_508.out
                          have hnc147 := NB508_488.out
                          have hnb148 := NB488_519.out
                          have hnc148 := NB519_488.out
                          have hnb149 := NB488_529.out
                          have hnc149 := NB529_488.out
                          have hcz150_0 := Sh.bc BK488.out 0
                          have hcz150_1 := Sh.bc BK488.out 1
                          have hcz150_2 := Sh.bc BK488.out 2
                          have hfz150_0 := blk_frozen BK488.out 0
                          have hfz150_1 := blk_frozen BK488.out 1
                          have hfz150_2 := blk_frozen BK488.out 2
                          go_wp2
                          go_meet
                          case rel => exact ⟨_, (decide (t517 ≥ (t535.length : Int))), (Sh.es), H', ⟨by have := HJ7.out; have := HJ47.out; have := HJ93.out; have := HK4.out; first | omega | exact Nat.le_refl _⟩, ⟨Sh.rl HO_6.out⟩, ⟨Sh.rl HO_7.out⟩, ⟨Sh.rl (Kd.R_mono HO537.out (fun _ hk => trivial))⟩, ⟨Sh.rl HO_489001.out⟩, ⟨Sh.rl HO_489002.out⟩, ⟨Sh.rl HO_499001.out⟩, ⟨Sh.rl HO_499002.out⟩, ⟨Sh.rl HO_509001.out⟩, ⟨Sh.rl HO_509002.out⟩, ⟨Sh.rl HO_520001.out⟩, ⟨Sh.rl HO_520002.out⟩, ⟨Sh.rl HO_530001.out⟩, ⟨Sh.rl HO_530002.out⟩, ⟨by refine Sh.pl ?_; exact BK488.out⟩, ⟨by refine Sh.pl ?_; exact BK498.out⟩, ⟨by refine Sh.pl ?_; exact BK508.out⟩, ⟨by refine Sh.pl ?_; exact BK519.out⟩, ⟨by refine Sh.pl ?_; exact BK529.out⟩, ⟨Sh.bw⟩⟩
                      ·rw [if_neg c123] at H
                       have c123b0 : ((t535.length : Int) == (wrap64 ((wrap64 ((wrap64 ((t476.length : Int) + t475)) + 2)) + (wrap64 (9 * (t482.length : Int)))))) = false := beq_eq_false_iff_ne.mpr c123
                       have c123b1 : ((t535.length : Int) != (wrap64 ((wrap64 ((wrap64 ((t476.length : Int) + t475)) + 2)) + (wrap64 (9 * (t482.length : Int)))))) = true := bne_iff_ne.mpr c123
                       first | rw [c123b0] | (simp only [i64_w, i32_w]; rw [c123b0]) | skip
                       have H' := am_ H
                       clear H
                       obtain ⟨Ao151, co151, eo151⟩ := Kd.R_slice HO537.out
                       subst eo151
                       have hnb152 := NB488_498.out
                       have hnc152 := NB498_488.out
                       have hnb153 := NB488_508.out
                       have hnc153 := NB508_488.out
                       have hnb154 := NB488_519.out
                       have hnc154 := NB519_488.out
                       have hnb155 := NB488_529.out
                       have hnc155 := NB529_488.out
                       have hcz156_0 := Sh.bc BK488.out 0
                       have hcz156_1 := Sh.bc BK488.out 1
                       have hcz156_2 := Sh.bc BK488.out 2
                       have hfz156_0 := blk_frozen BK488.out 0
                       have hfz156_1 := blk_frozen BK488.out 1
                       have hfz156_2 := blk_frozen BK488.out 2
                       go_wp2
                       go_meet
                       case rel => exact ⟨_, (true), (Sh.es), H', ⟨by have := HJ7.out; have := HJ47.out; have := HJ93.out; have := HK4.out; first | omega | exact Nat.le_refl _⟩, ⟨Sh.rl HO_6.out⟩, ⟨Sh.rl HO_7.out⟩, ⟨Sh.rl (Kd.R_mono HO537.out (fun _ hk => trivial))⟩, ⟨Sh.rl HO_489001.out⟩, ⟨Sh.rl HO_489002.out⟩, ⟨Sh.rl HO_499001.out⟩, ⟨Sh.rl HO_499002.out⟩, ⟨Sh.rl HO_509001.out⟩, ⟨Sh.rl HO_509002.out⟩, ⟨Sh.rl HO_520001.out⟩, ⟨Sh.rl HO_520002.out⟩, ⟨Sh.rl HO_530001.out⟩, ⟨Sh.rl HO_530002.out⟩, ⟨by refine Sh.pl ?_; exact BK488.out⟩, ⟨by refine Sh.pl ?_; exact BK498.out⟩, ⟨by refine Sh.pl ?_; exact BK508.out⟩, ⟨by refine Sh.pl ?_; exact BK519.out⟩, ⟨by refine Sh.pl ?_; exact BK529.out⟩, ⟨Sh.bw⟩⟩
                     ·replace c122 := Bool.eq_false_iff.mpr c122
                      subst c122
                      rw [Sh.nf] at H
                      have H' := am_ H
                      clear H
                      go_wp2
                      go_meet
                      case rel => exact ⟨_, (true), (Sh.es), H', ⟨by have := HJ7.out; have := HJ47.out; have := HJ93.out; have := HK4.out; first | omega | exact Nat.le_refl _⟩, ⟨Sh.rl HO_6.out⟩, ⟨Sh.rl HO_7.out⟩, ⟨Sh.rl (Kd.R_mono HO537.out (fun _ hk => trivial))⟩, ⟨Sh.rl HO_489001.out⟩, ⟨Sh.rl HO_489002.out⟩, ⟨Sh.rl HO_499001.out⟩, ⟨Sh.rl HO_499002.out⟩, ⟨Sh.rl HO_509001.out⟩, ⟨Sh.rl HO_509002.out⟩, ⟨Sh.rl HO_520001.out⟩, ⟨Sh.rl HO_520002.out⟩, ⟨Sh.rl HO_530001.out⟩, ⟨Sh.rl HO_530002.out⟩, ⟨by refine Sh.pl ?_; exact BK488.out⟩, ⟨by refine Sh.pl ?_; exact BK498.out⟩, ⟨by refine Sh.pl ?_; exact BK508.out⟩, ⟨by refine Sh.pl ?_; exact BK519.out⟩, ⟨by refine Sh.pl ?_; exact BK529.out⟩, ⟨Sh.bw⟩⟩
                   case rest =>
                    clear HC110
                    try clear hcz107_0
                    try clear hcz107_1
                    try clear hcz107_2
                    try clear hcz115_0
                    try clear hcz115_1
                    try clear hcz115_2
                    try clear hcz119_0
                    try clear hcz119_1
                    try clear hcz119_2
                    try clear hcz11_0
                    try clear hcz11_1
                    try clear hcz11_2
                    try clear hcz130_0
                    try clear hcz130_1
                    try clear hcz130_2
                    try clear hcz137_0
                    try clear hcz137_1
                    try clear hcz137_2
                    try clear hcz144_0
                    try clear hcz144_1
                    try clear hcz144_2
                    try clear hcz150_0
                    try clear hcz150_1
                    try clear hcz150_2
                    try clear hcz156_0
                    try clear hcz156_1
                    try clear hcz156_2
                    try clear hcz19_0
                    try clear hcz19_1
                    try clear hcz19_2
                    try clear hcz22_0
                    try clear hcz22_1
                    try clear hcz22_2
                    try clear hcz27_0
                    try clear hcz27_1
                    try clear hcz27_2
                    try clear hcz35_0
                    try clear hcz35_1
                    try clear hcz35_2
                    try clear hcz37_0
                    try clear hcz37_1
                    try clear hcz37_2
                    try clear hcz41_0
                    try clear hcz41_1
                    try clear hcz41_2
                    try clear hcz43_0
                    try clear hcz43_1
                    try clear hcz43_2
                    try clear hcz51_0
                    try clear hcz51_1
                    try clear hcz51_2
                    try clear hcz57_0
                    try clear hcz57_1
                    try clear hcz57_2
                    try clear hcz60_0
                    try clear hcz60_1
                    try clear hcz60_2
                    try clear hcz67_0
                    try clear hcz67_1
                    try clear hcz67_2
                    try clear hcz77_0
                    try clear hcz77_1
                    try clear hcz77_2
                    try clear hcz81_0
                    try clear hcz81_1
                    try clear hcz81_2
                    try clear hcz87_0
                    try clear hcz87_1
                    try clear hcz87_2
                    try clear hcz91_0
                    try clear hcz91_1
                    try clear hcz91_2
                    try clear hfz107_0
                    try clear hfz107_1
                    try clear hfz107_2
                    try clear hfz115_0
                    try clear hfz115_1
                    try clear hfz115_2
                    try clear hfz119_0
                    try clear hfz119_1
                    try clear hfz119_2
                    try clear hfz11_0
                    try clear hfz11_1
                    try clear hfz11_2
                    try clear hfz130_0
                    try clear hfz130_1
                    try clear hfz130_2
                    try clear hfz137_0
                    try clear hfz137_1
                    try clear hfz137_2
                    try clear hfz144_0
                    try clear hfz144_1
                    try clear hfz144_2
                    try clear hfz150_0
                    try clear hfz150_1
                    try clear hfz150_2
                    try clear hfz156_0
                    try clear hfz156_1
                    try clear hfz156_2
                    try clear hfz19_0
                    try clear hfz19_1
                    try clear hfz19_2
                    try clear hfz22_0
                    try clear hfz22_1
                    try clear hfz22_2
                    try clear hfz27_0
                    try clear hfz27_1
                    try clear hfz27_2
                    try clear hfz35_0
                    try clear hfz35_1
                    try clear hfz35_2
                    try clear hfz37_0
                    try clear hfz37_1
                    try clear hfz37_2
                    try clear hfz41_0
                    try clear hfz41_1
                    try clear hfz41_2
                    try clear hfz43_0
                    try clear hfz43_1
                    try clear hfz43_2
                    try clear hfz51_0
                    try clear hfz51_1
                    try clear hfz51_2
                    try clear hfz57_0
                    try clear hfz57_1
                    try clear hfz57_2
                    try clear hfz60_0
                    try clear hfz60_1
                    try clear hfz60_2
                    try clear hfz67_0
                    try clear hfz67_1
                    try clear hfz67_2
                    try clear hfz77_0
                    try clear hfz77_1
                    try clear hfz77_2
                    try clear hfz81_0
                    try clear hfz81_1
                    try clear hfz81_2
                    try clear hfz87_0
                    try clear hfz87_1
                    try clear hfz87_2
                    try clear hfz91_0
                    try clear hfz91_1
                    try clear hfz91_2
                    obtain ⟨kq, x160_109, rfl, HA, HJ109, HO_6, HO_7, HO_22, HO_489001, HO_489002, HO_499001, HO_499002, HO_509001, HO_509002, HO_520001, HO_520002, HO_530001, HO_530002, BK488, BK498, BK508, BK519, BK529, HB⟩ := hcut
                    cases kq with
                    | zero => exact absurd HA.out (by simp [laws_FnCompared.j4])
                    | succ kj109 =>
                     as_aux_lemma =>
                      have H := HA.out
                      clear HA
                      simp only [laws_FnCompared.j4] at H
                      by_cases c157 : x160_109 = true
                      ·subst c157
                       rw [if_pos rfl] at H
                       obtain rfl := Option.some.inj H
                       go_wp2
                       go_ret
                       exact ⟨Sh.eR, Sh.bw⟩
                      ·replace c157 := Bool.eq_false_iff.mpr c157
                       subst c157
                       rw [Sh.nf] at H
                       obtain ⟨t539, A158, H⟩ := Sh.ba H
                       obtain ⟨t540, A159, H⟩ := Sh.ba H
                       by_cases c160 : t538 = true
                       ·subst c160
                        rw [if_pos rfl] at H
                        by_cases c161 : (t535.length : Int) = (wrap64 ((wrap64 ((wrap64 ((t476.length : Int) + t475)) + 2)) + (wrap64 (9 * (t482.length : Int)))))
                        ·rw [if_pos c161] at H
                         have c161b0 : ((t535.length : Int) == (wrap64 ((wrap64 ((wrap64 ((t476.length : Int) + t475)) + 2)) + (wrap64 (9 * (t482.length : Int)))))) = true := beq_iff_eq.mpr c161
                         have c161b1 : ((t535.length : Int) != (wrap64 ((wrap64 ((wrap64 ((t476.length : Int) + t475)) + 2)) + (wrap64 (9 * (t482.length : Int)))))) = false := bne_eq_false_iff_eq.mpr c161
                         clear c161
                         by_cases c162 : 0 ≤ t496
                         ·rw [if_pos c162] at H
                          have c162b0 := decide_eq_true c162
                          clear c162
                          by_cases c163 : t496 < (t535.length : Int)
                          ·rw [if_pos c163] at H
                           have c163b0 := decide_eq_true c163
                           clear c163
                           by_cases c164 : ((rdOf false t535 t496) == (decide (t539 < t540))) = true
                           ·rw [if_pos c164] at H
                            have c164b0 : ((rdOf false t535 t496) == (decide (t539 < t540))) = true := c164
                            (try (have c164b1 : decide ((rdOf false t535 t496) = (decide (t539 < t540))) = true := by simpa using c164))
                            (try (have c164b2 : ((rdOf false t535 t496) == (decide (t539 < t540))) = true := by simpa using c164))
                            clear c164
                            by_cases c165 : 0 ≤ t517
                            ·rw [if_pos c165] at H
                             have c165b0 := decide_eq_true c165
                             clear c165
                             by_cases c166 : t517 < (t535.length : Int)
                             ·rw [if_pos c166] at H
                              have c166b0 := decide_eq_true c166
                              clear c166
                              obtain rfl := Option.some.inj H
                              obtain ⟨Ao167, co167, eo167⟩ := Kd.R_slice HO_22.out
                              subst eo167
                              go_wp2_with (first | ((with_reducible refine Sh.k 16 ?_); refine Sh.gD (some 163) Try.func16 #[.slice Ao167 t535.length co167, .slice Ao14 t482.length co14] (laws_carried.calls kj109 _ _ t535 _ _ t482 t539 _ (Sh.cR (Kd.R_reads' HO_22.out).2.2) (Kd.R_reads' HO_22.out).2.1 (Sh.cR (Kd.R_reads' HO_6.out).2.2) (Kd.R_reads' HO_6.out).2.1 A158.out) fun nd => ?_) | ((with_reducible refine Sh.k 16 ?_); refine Sh.gD (some 166) Try.func16 #[.slice Ao167 t535.length co167, .slice Ao15 t485.length co15] (laws_carried.calls kj109 _ _ t535 _ _ t485 t540 _ (Sh.cR (Kd.R_reads' HO_22.out).2.2) (Kd.R_reads' HO_22.out).2.1 (Sh.cR (Kd.R_reads' HO_7.out).2.2) (Kd.R_reads' HO_7.out).2.1 A159.out) fun nd => ?_; have hnb168 := NB488_498.out; have hnc168 := NB498_488.out; have hnb169 := NB488_508.out; have hnc169 := NB508_488.out; have hnb170 := NB488_519.out; have hnc170 := NB519_488.out; have hnb171 := NB488_529.out; have hnc171 := NB529_488.out; obtain ⟨hcz172_0, hcz172_1, hcz172_2, hfz172_0, hfz172_1, hfz172_2⟩ := Sh.b3 BK488.out; have p541 : 0 ≤ (t496 : Int) := Sh.od; have q541 : t496 < (t535.length : Int) := Sh.od; obtain ⟨ad541, e541, hx541_0⟩ := Kd.at_bool (Kd.R_reads' HO_22.out).2.2 t496 p541 q541; cases e541; replace p541 := eq_true p541; replace q541 := eq_true q541; have p542 : 0 ≤ (t517 : Int) := Sh.od; have q542 : t517 < (t535.length : Int) := Sh.od; obtain ⟨ad542, e542, hx542_0⟩ := Kd.at_bool (Kd.R_reads' HO_22.out).2.2 t517 p542 q542; obtain rfl : ad541 = ad542 := (by injection e542); replace p542 := eq_true p542; replace q542 := eq_true q542))
                              go_ret
                              exact ⟨Sh.eR, Sh.bw⟩
                             ·rw [if_neg c166] at H
                              exact absurd H (by simp)
                            ·rw [if_neg c165] at H
                             exact absurd H (by simp)
                           ·rw [if_neg c164] at H
                            have c164b0 : ((rdOf false t535 t496) == (decide (t539 < t540))) = false := by simpa using c164
                            (try (have c164b1 : decide ((rdOf false t535 t496) = (decide (t539 < t540))) = false := by simpa using c164))
                            (try (have c164b2 : ((rdOf false t535 t496) == (decide (t539 < t540))) = false := by simpa using c164))
                            (try (have c164b3 : ¬ ((rdOf false t535 t496) = (decide (t539 < t540))) := by simpa using c164))
                            clear c164
                            obtain rfl := Option.some.inj H
                            obtain ⟨Ao173, co173, eo173⟩ := Kd.R_slice HO_22.out
                            subst eo173
                            go_wp2_with (first | ((with_reducible refine Sh.k 16 ?_); refine Sh.gD (some 163) Try.func16 #[.slice Ao173 t535.length co173, .slice Ao14 t482.length co14] (laws_carried.calls kj109 _ _ t535 _ _ t482 t539 _ (Sh.cR (Kd.R_reads' HO_22.out).2.2) (Kd.R_reads' HO_22.out).2.1 (Sh.cR (Kd.R_reads' HO_6.out).2.2) (Kd.R_reads' HO_6.out).2.1 A158.out) fun nd => ?_) | ((with_reducible refine Sh.k 16 ?_); refine Sh.gD (some 166) Try.func16 #[.slice Ao173 t535.length co173, .slice Ao15 t485.length co15] (laws_carried.calls kj109 _ _ t535 _ _ t485 t540 _ (Sh.cR (Kd.R_reads' HO_22.out).2.2) (Kd.R_reads' HO_22.out).2.1 (Sh.cR (Kd.R_reads' HO_7.out).2.2) (Kd.R_reads' HO_7.out).2.1 A159.out) fun nd => ?_; have hnb174 := NB488_498.out; have hnc174 := NB498_488.out; have hnb175 := NB488_508.out; have hnc175 := NB508_488.out; have hnb176 := NB488_519.out; have hnc176 := NB519_488.out; have hnb177 := NB488_529.out; have hnc177 := NB529_488.out; obtain ⟨hcz178_0, hcz178_1, hcz178_2, hfz178_0, hfz178_1, hfz178_2⟩ := Sh.b3 BK488.out; have p541 : 0 ≤ (t496 : Int) := Sh.od; have q541 : t496 < (t535.length : Int) := Sh.od; obtain ⟨ad541, e541, hx541_0⟩ := Kd.at_bool (Kd.R_reads' HO_22.out).2.2 t496 p541 q541; cases e541; replace p541 := eq_true p541; replace q541 := eq_true q541))
                            go_ret
                            exact ⟨Sh.eR, Sh.bw⟩
                          ·rw [if_neg c163] at H
                           exact absurd H (by simp)
                         ·rw [if_neg c162] at H
                          exact absurd H (by simp)
                        ·rw [if_neg c161] at H
                         have c161b0 : ((t535.length : Int) == (wrap64 ((wrap64 ((wrap64 ((t476.length : Int) + t475)) + 2)) + (wrap64 (9 * (t482.length : Int)))))) = false := beq_eq_false_iff_ne.mpr c161
                         have c161b1 : ((t535.length : Int) != (wrap64 ((wrap64 ((wrap64 ((t476.length : Int) + t475)) + 2)) + (wrap64 (9 * (t482.length : Int)))))) = true := bne_iff_ne.mpr c161
                         obtain rfl := Option.some.inj H
                         obtain ⟨Ao179, co179, eo179⟩ := Kd.R_slice HO_22.out
                         subst eo179
                         go_wp2_with (first | ((with_reducible refine Sh.k 16 ?_); refine Sh.gD (some 163) Try.func16 #[.slice Ao179 t535.length co179, .slice Ao14 t482.length co14] (laws_carried.calls kj109 _ _ t535 _ _ t482 t539 _ (Sh.cR (Kd.R_reads' HO_22.out).2.2) (Kd.R_reads' HO_22.out).2.1 (Sh.cR (Kd.R_reads' HO_6.out).2.2) (Kd.R_reads' HO_6.out).2.1 A158.out) fun nd => ?_) | ((with_reducible refine Sh.k 16 ?_); refine Sh.gD (some 166) Try.func16 #[.slice Ao179 t535.length co179, .slice Ao15 t485.length co15] (laws_carried.calls kj109 _ _ t535 _ _ t485 t540 _ (Sh.cR (Kd.R_reads' HO_22.out).2.2) (Kd.R_reads' HO_22.out).2.1 (Sh.cR (Kd.R_reads' HO_7.out).2.2) (Kd.R_reads' HO_7.out).2.1 A159.out) fun nd => ?_; have hnb180 := NB488_498.out; have hnc180 := NB498_488.out; have hnb181 := NB488_508.out; have hnc181 := NB508_488.out; have hnb182 := NB488_519.out; have hnc182 := NB519_488.out; have hnb183 := NB488_529.out; have hnc183 := NB529_488.out; obtain ⟨hcz184_0, hcz184_1, hcz184_2, hfz184_0, hfz184_1, hfz184_2⟩ := Sh.b3 BK488.out))
                         go_ret
                         exact ⟨Sh.eR, Sh.bw⟩
                       ·replace c160 := Bool.eq_false_iff.mpr c160
                        subst c160
                        rw [Sh.nf] at H
                        obtain rfl := Option.some.inj H
                        obtain ⟨Ao185, co185, eo185⟩ := Kd.R_slice HO_22.out
                        subst eo185
                        go_wp2_with (first | ((with_reducible refine Sh.k 16 ?_); refine Sh.gD (some 163) Try.func16 #[.slice Ao185 t535.length co185, .slice Ao14 t482.length co14] (laws_carried.calls kj109 _ _ t535 _ _ t482 t539 _ (Sh.cR (Kd.R_reads' HO_22.out).2.2) (Kd.R_reads' HO_22.out).2.1 (Sh.cR (Kd.R_reads' HO_6.out).2.2) (Kd.R_reads' HO_6.out).2.1 A158.out) fun nd => ?_) | ((with_reducible refine Sh.k 16 ?_); refine Sh.gD (some 166) Try.func16 #[.slice Ao185 t535.length co185, .slice Ao15 t485.length co15] (laws_carried.calls kj109 _ _ t535 _ _ t485 t540 _ (Sh.cR (Kd.R_reads' HO_22.out).2.2) (Kd.R_reads' HO_22.out).2.1 (Sh.cR (Kd.R_reads' HO_7.out).2.2) (Kd.R_reads' HO_7.out).2.1 A159.out) fun nd => ?_))
                        go_ret
                        exact ⟨Sh.eR, Sh.bw⟩
end Go.Proofs.Ytejlobcjgbeeaaa.P
