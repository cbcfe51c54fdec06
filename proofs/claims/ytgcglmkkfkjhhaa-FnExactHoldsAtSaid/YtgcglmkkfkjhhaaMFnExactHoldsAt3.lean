/- Go functions of this seat as Lean functions, and the proofs that the calls come to what these say; printed by a program of this session. No condition. -/
import Derived.Test.YtgcglmkkfkjhhaaP0
import Derived.Test.YtgcglmkkfkjhhaaMFnExactHoldsAt2
set_option linter.unusedVariables false
set_option linter.unusedSimpArgs false
set_option maxHeartbeats 40000000
set_option maxRecDepth 100000
namespace Go.Proofs.Ytgcglmkkfkjhhaa.P
open Go.RowKit Go.Proofs.YtgcglmkkfkjhhaaW.PrintWords Go.Proofs.YtgcglmkkfkjhhaaW.PrintLast Go.Proofs.YtgcglmkkfkjhhaaW.PrintMore Go.Proofs.Ytgcglmkkfkjhhaa.Hof
attribute [local go_sem] max2_int min2_int max_two min_two max_three min_three max_four min_four
def spec_l9At.f (l0_0 : List Int) (l0_1 : List Int) (a1 : Int) : Option (Int) := if a1 < (l0_0.length : Int) then (if 0 ≤ a1 then (some (rd l0_0 a1)) else (none)) else (if (l0_1.length : Int) = 0 then (none) else (if 0 ≤ (Int.tmod (wrap64 (a1 - (l0_0.length : Int))) (l0_1.length : Int)) then (if (Int.tmod (wrap64 (a1 - (l0_0.length : Int))) (l0_1.length : Int)) < (l0_1.length : Int) then (some (rd l0_1 (Int.tmod (wrap64 (a1 - (l0_0.length : Int))) (l0_1.length : Int)))) else (none)) else (none)))
theorem spec_l9At.calls (A0_0 : Option Addr) (c0_0 : Nat) (l0_0 : List Int) (A0_1 : Option Addr) (c0_1 : Nat) (l0_1 : List Int) (a1 : Int) (r : Int) (w : World) (hr0_0 : Kd.C (Kd.int .i64) w A0_0 l0_0.length l0_0) (hc0_0 : l0_0.length ≤ c0_0) (hr0_1 : Kd.C (Kd.int .i64) w A0_1 l0_1.length l0_1) (hc0_1 : l0_1.length ≤ c0_1) (h : spec_l9At.f l0_0 l0_1 a1 = some r) :
  Calls Try.prog 36 #[.agg #[.slice A0_0 l0_0.length c0_0, .slice A0_1 l0_1.length c0_1], .int .i64 a1] w fun e w' => e = .returned (.int .i64 r) ∧ Below w.heap.size w w' := by
 have hu32 := Try.underlying32
 have HR0_0 := am_ hr0_0
 have HC0_0 := am_ hc0_0
 clear hr0_0 hc0_0
 have HR0_1 := am_ hr0_1
 have HC0_1 := am_ hc0_1
 clear hr0_1 hc0_1
 have HB := am_ (Below.refl w.heap.size w)
 have H := h
 clear h
 unfold spec_l9At.f at H
 by_cases c3 : a1 < (l0_0.length : Int)
 ·rw [if_pos c3] at H
  have c3b0 := decide_eq_true c3
  clear c3
  by_cases c4 : 0 ≤ a1
  ·rw [if_pos c4] at H
   have c4b0 := decide_eq_true c4
   clear c4
   obtain rfl := Option.some.inj H
   go_enter Try.func36, Try.ntmps36
   go_wp2_with (first | ((with_reducible refine Sh.d 2 ?_); refine Sh.bz w (N := 2) (cs := #[.slice A0_0 l0_0.length c0_0, .slice A0_1 l0_1.length c0_1]) (t := 32) (h := ?_); clear HB; intro gb132 w5 BK132 GE132 HB; obtain ⟨hcz6_0, hcz6_1, hfz6_0, hfz6_1⟩ := Sh.b2 BK132.out; have p133 : 0 ≤ (a1 : Int) := Sh.od; have q133 : a1 < (l0_0.length : Int) := Sh.od; obtain ⟨ad133, e133, hx133_0⟩ := Kd.at_int HR0_0.out a1 p133 q133; cases e133; replace hx133_0 := (HB.out.cell (World.block_lt_of_cell? w _ hx133_0)).trans hx133_0; replace p133 := eq_true p133; replace q133 := eq_true q133))
   repeat (go_quiet (first | ((with_reducible refine Sh.d 2 ?_); refine Sh.bz w (N := 2) (cs := #[.slice A0_0 l0_0.length c0_0, .slice A0_1 l0_1.length c0_1]) (t := 32) (h := ?_); clear HB; intro gb132 w5 BK132 GE132 HB; obtain ⟨hcz6_0, hcz6_1, hfz6_0, hfz6_1⟩ := Sh.b2 BK132.out; have p133 : 0 ≤ (a1 : Int) := Sh.od; have q133 : a1 < (l0_0.length : Int) := Sh.od; obtain ⟨ad133, e133, hx133_0⟩ := Kd.at_int HR0_0.out a1 p133 q133; cases e133; replace hx133_0 := (HB.out.cell (World.block_lt_of_cell? w _ hx133_0)).trans hx133_0; replace p133 := eq_true p133; replace q133 := eq_true q133)); try go_wp2_with (first | ((with_reducible refine Sh.d 2 ?_); refine Sh.bz w (N := 2) (cs := #[.slice A0_0 l0_0.length c0_0, .slice A0_1 l0_1.length c0_1]) (t := 32) (h := ?_); clear HB; intro gb132 w5 BK132 GE132 HB; obtain ⟨hcz6_0, hcz6_1, hfz6_0, hfz6_1⟩ := Sh.b2 BK132.out; have p133 : 0 ≤ (a1 : Int) := Sh.od; have q133 : a1 < (l0_0.length : Int) := Sh.od; obtain ⟨ad133, e133, hx133_0⟩ := Kd.at_int HR0_0.out a1 p133 q133; cases e133; replace hx133_0 := (HB.out.cell (World.block_lt_of_cell? w _ hx133_0)).trans hx133_0; replace p133 := eq_true p133; replace q133 := eq_true q133)))
   go_ret
   exact ⟨Sh.eR, Sh.bw⟩
  ·rw [if_neg c4] at H
   exact absurd H (by simp)
 ·rw [if_neg c3] at H
  have c3b0 := decide_eq_false c3
  clear c3
  by_cases c7 : (l0_1.length : Int) = 0
  ·rw [if_pos c7] at H
   exact absurd H (by simp)
  ·rw [if_neg c7] at H
   have c7b0 : ((l0_1.length : Int) == 0) = false := beq_eq_false_iff_ne.mpr c7
   have c7b1 : ((l0_1.length : Int) != 0) = true := bne_iff_ne.mpr c7
   have c7b2 : ¬ (l0_1 = []) := fun h_ => c7 (by rw [h_]; rfl)
   obtain ⟨ji8, hj1⟩ : ∃ j_ : Int, (Int.tmod (wrap64 (a1 - (l0_0.length : Int))) (l0_1.length : Int)) = j_ := ⟨_, rfl⟩
   replace H : (if 0 ≤ (ji8) then (if (ji8) < (l0_1.length : Int) then (some (rd l0_1 (ji8))) else (none)) else (none)) = some r := by first | (rw [hj1] at H; exact H) | (simp only [hj1] at H ⊢; exact H)
   by_cases c9 : 0 ≤ (ji8)
   ·rw [if_pos c9] at H
    have c9b0 := decide_eq_true c9
    clear c9
    by_cases c10 : (ji8) < (l0_1.length : Int)
    ·rw [if_pos c10] at H
     have c10b0 := decide_eq_true c10
     clear c10
     obtain rfl := Option.some.inj H
     go_enter Try.func36, Try.ntmps36
     go_wp2_with (first | ((with_reducible refine Sh.d 2 ?_); refine Sh.bz w (N := 2) (cs := #[.slice A0_0 l0_0.length c0_0, .slice A0_1 l0_1.length c0_1]) (t := 32) (h := ?_); clear HB; intro gb132 w11 BK132 GE132 HB; obtain ⟨hcz12_0, hcz12_1, hfz12_0, hfz12_1⟩ := Sh.b2 BK132.out; have p134 : 0 ≤ ((ji8) : Int) := Sh.od; have q134 : (ji8) < (l0_1.length : Int) := Sh.od; obtain ⟨ad134, e134, hx134_0⟩ := Kd.at_int HR0_1.out (ji8) p134 q134; cases e134; replace hx134_0 := (HB.out.cell (World.block_lt_of_cell? w _ hx134_0)).trans hx134_0; replace p134 := eq_true p134; replace q134 := eq_true q134))
     repeat (go_quiet (first | ((with_reducible refine Sh.d 2 ?_); refine Sh.bz w (N := 2) (cs := #[.slice A0_0 l0_0.length c0_0, .slice A0_1 l0_1.length c0_1]) (t := 32) (h := ?_); clear HB; intro gb132 w11 BK132 GE132 HB; obtain ⟨hcz12_0, hcz12_1, hfz12_0, hfz12_1⟩ := Sh.b2 BK132.out; have p134 : 0 ≤ ((ji8) : Int) := Sh.od; have q134 : (ji8) < (l0_1.length : Int) := Sh.od; obtain ⟨ad134, e134, hx134_0⟩ := Kd.at_int HR0_1.out (ji8) p134 q134; cases e134; replace hx134_0 := (HB.out.cell (World.block_lt_of_cell? w _ hx134_0)).trans hx134_0; replace p134 := eq_true p134; replace q134 := eq_true q134)); try go_wp2_with (first | ((with_reducible refine Sh.d 2 ?_); refine Sh.bz w (N := 2) (cs := #[.slice A0_0 l0_0.length c0_0, .slice A0_1 l0_1.length c0_1]) (t := 32) (h := ?_); clear HB; intro gb132 w11 BK132 GE132 HB; obtain ⟨hcz12_0, hcz12_1, hfz12_0, hfz12_1⟩ := Sh.b2 BK132.out; have p134 : 0 ≤ ((ji8) : Int) := Sh.od; have q134 : (ji8) < (l0_1.length : Int) := Sh.od; obtain ⟨ad134, e134, hx134_0⟩ := Kd.at_int HR0_1.out (ji8) p134 q134; cases e134; replace hx134_0 := (HB.out.cell (World.block_lt_of_cell? w _ hx134_0)).trans hx134_0; replace p134 := eq_true p134; replace q134 := eq_true q134)))
     go_ret
     exact ⟨by first | rfl | (simp [errW_none, errW_some] <;> rfl) | (simp only [← hj1]; first | rfl | (simp [errW_none, errW_some] <;> rfl)) | (simp [*, errW_none, errW_some] <;> rfl), Sh.bw⟩
    ·rw [if_neg c10] at H
     exact absurd H (by simp)
   ·rw [if_neg c9] at H
    exact absurd H (by simp)
mutual
def spec_l10Table.l0 : Nat → List (S43) → Int → List (List Bool) → List (S43) → Int → Int → List Int → List Int → Option ((List (List Bool)))
 | 0, _, _, _, _, _, _, _, _ => none
 | k + 1, x0, x5, x6, x21, x22, x23, x136000, x136001 => if x23 < x22 then (if 0 ≤ x23 then (if x23 < (x21.length : Int) then (if 0 ≤ x5 then (if (x5 : Int).toNat ≤ 281474976710656 then ((some (List.replicate (x5 : Int).toNat false : List Bool)).bind fun y138 => (spec_l10Table.l1 k x0 x5 x6 x23 y138 x21 x22 x23 (y138.length : Int) 0 x136000 x136001 ((rd_T43 x21 x23).f0) ((rd_T43 x21 x23).f1))) else (none)) else (none)) else (none)) else (none)) else (some x6)
def spec_l10Table.l1 : Nat → List (S43) → Int → List (List Bool) → Int → List Bool → List (S43) → Int → Int → Int → Int → List Int → List Int → Int → Int → Option ((List (List Bool)))
 | 0, _, _, _, _, _, _, _, _, _, _, _, _, _, _ => none
 | k + 1, x0, x5, x6, x7, x9, x21, x22, x23, x31, x32, x136000, x136001, x138000, x138001 => if x32 < x31 then (if 0 ≤ x32 then (if x32 < (x9.length : Int) then (spec_l10Table.l1 k x0 x5 x6 x7 (x9.set (x32 : Int).toNat (x138000 == 8)) x21 x22 x23 x31 (wrap64 (x32 + 1)) x136000 x136001 x138000 x138001) else (none)) else (none)) else (spec_l10Table.l2 k x0 x5 x6 x7 x9 0 x21 x22 x23 x136000 x136001)
def spec_l10Table.l2 : Nat → List (S43) → Int → List (List Bool) → Int → List Bool → Int → List (S43) → Int → Int → List Int → List Int → Option ((List (List Bool)))
 | 0, _, _, _, _, _, _, _, _, _, _, _ => none
 | k + 1, x0, x5, x6, x7, x9, x11, x21, x22, x23, x136000, x136001 => if x11 < 2 then (spec_l10Table.l3 k x0 x5 x6 x7 x9 x11 (wrap64 (x5 - 1)) x21 x22 x23 x136000 x136001) else (if x6.length < 5864062014805 then (spec_l10Table.l0 k x0 x5 (x6 ++ [x9]) x21 x22 (wrap64 (x23 + 1)) x136000 x136001) else (none))
def spec_l10Table.l3 : Nat → List (S43) → Int → List (List Bool) → Int → List Bool → Int → Int → List (S43) → Int → Int → List Int → List Int → Option ((List (List Bool)))
 | 0, _, _, _, _, _, _, _, _, _, _, _, _ => none
 | k + 1, x0, x5, x6, x7, x9, x11, x12, x21, x22, x23, x136000, x136001 => if x12 ≥ 0 then (if (wrap64 (x12 + 1)) = x5 then ((spec_l9At.f x136000 x136001 x12).bind fun t145 => (if 0 ≤ (x136000.length : Int) then (if (x136000.length : Int) < (x9.length : Int) then ((spec_l10Cell.f k x0 x6 x7 t145 x12 (x136000.length : Int) (rdOf false x9 (x136000.length : Int))).bind fun t147 => (if 0 ≤ x12 then (if x12 < (x9.length : Int) then (spec_l10Table.l3 k x0 x5 x6 x7 (x9.set (x12 : Int).toNat t147) x11 (wrap64 (x12 - 1)) x21 x22 x23 x136000 x136001) else (none)) else (none))) else (none)) else (none))) else ((spec_l9At.f x136000 x136001 x12).bind fun t149 => (if 0 ≤ (wrap64 (x12 + 1)) then (if (wrap64 (x12 + 1)) < (x9.length : Int) then ((spec_l10Cell.f k x0 x6 x7 t149 x12 (wrap64 (x12 + 1)) (rdOf false x9 (wrap64 (x12 + 1)))).bind fun t151 => (if 0 ≤ x12 then (if x12 < (x9.length : Int) then (spec_l10Table.l3 k x0 x5 x6 x7 (x9.set (x12 : Int).toNat t151) x11 (wrap64 (x12 - 1)) x21 x22 x23 x136000 x136001) else (none)) else (none))) else (none)) else (none)))) else (spec_l10Table.l2 k x0 x5 x6 x7 x9 (wrap64 (x11 + 1)) x21 x22 x23 x136000 x136001)
end
def spec_l10Table.f (k : Nat) (l0 : List (S43)) (l1_0 : List Int) (l1_1 : List Int) : Option ((List (List Bool))) := spec_l10Table.l0 k l0 (wrap64 ((l1_0.length : Int) + (l1_1.length : Int))) ([] : List (List Bool)) l0 (l0.length : Int) 0 l1_0 l1_1
theorem spec_l10Table.mono_l : ∀ k, (∀ y0 y1 y2 y3 y4 y5 y6 y7, LeO (spec_l10Table.l0 k y0 y1 y2 y3 y4 y5 y6 y7) (spec_l10Table.l0 (k + 1) y0 y1 y2 y3 y4 y5 y6 y7)) ∧ (∀ y0 y1 y2 y3 y4 y5 y6 y7 y8 y9 y10 y11 y12 y13, LeO (spec_l10Table.l1 k y0 y1 y2 y3 y4 y5 y6 y7 y8 y9 y10 y11 y12 y13) (spec_l10Table.l1 (k + 1) y0 y1 y2 y3 y4 y5 y6 y7 y8 y9 y10 y11 y12 y13)) ∧ (∀ y0 y1 y2 y3 y4 y5 y6 y7 y8 y9 y10, LeO (spec_l10Table.l2 k y0 y1 y2 y3 y4 y5 y6 y7 y8 y9 y10) (spec_l10Table.l2 (k + 1) y0 y1 y2 y3 y4 y5 y6 y7 y8 y9 y10)) ∧ (∀ y0 y1 y2 y3 y4 y5 y6 y7 y8 y9 y10 y11, LeO (spec_l10Table.l3 k y0 y1 y2 y3 y4 y5 y6 y7 y8 y9 y10 y11) (spec_l10Table.l3 (k + 1) y0 y1 y2 y3 y4 y5 y6 y7 y8 y9 y10 y11))
 | 0 => ⟨fun _ _ _ _ _ _ _ _ r h => by simp [spec_l10Table.l0] at h, fun _ _ _ _ _ _ _ _ _ _ _ _ _ _ r h => by simp [spec_l10Table.l1] at h, fun _ _ _ _ _ _ _ _ _ _ _ r h => by simp [spec_l10Table.l2] at h, fun _ _ _ _ _ _ _ _ _ _ _ _ r h => by simp [spec_l10Table.l3] at h⟩
 | k + 1 => by
  obtain ⟨ih0, ih1, ih2, ih3⟩ := spec_l10Table.mono_l k
  and_intros <;> intros
  all_goals (first | unfold spec_l10Table.l0 | unfold spec_l10Table.l1 | unfold spec_l10Table.l2 | unfold spec_l10Table.l3)
  all_goals repeat' with_reducible first | apply ih0 | apply ih1 | apply ih2 | apply ih3 | apply spec_l10Cell.mono | exact LeO.refl _ | exact LeO.none _ | apply LeO.ite | refine LeO.bind ?_ fun _ => ?_
theorem spec_l10Table.mono : ∀ a0 a1 a2 k, LeO (spec_l10Table.f k a0 a1 a2) (spec_l10Table.f (k + 1) a0 a1 a2) := by
 intro a0 a1 a2 k
 obtain ⟨ih0, ih1, ih2, ih3⟩ := spec_l10Table.mono_l k
 unfold spec_l10Table.f
 repeat' with_reducible first | apply ih0 | apply ih1 | apply ih2 | apply ih3 | apply spec_l10Cell.mono | exact LeO.refl _ | exact LeO.none _ | apply LeO.ite | refine LeO.bind ?_ fun _ => ?_
def spec_l10Table.T21 : Bool × List (List Nat × List Nat) := (true, [([], []), ([], []), ([], []), ([], []), ([], []), ([], []), ([], []), ([5, 6], [5, 6]), ([], []), ([], []), ([], []), ([], []), ([10, 11], [10, 11]), ([12], [12]), ([2, 3, 4, 7, 8, 9, 13, 7], [2, 3, 4, 7, 8, 9, 13]), ([0, 1, 0, 1, 2, 3, 4, 5, 6, 7, 8, 9, 10, 11, 12, 13, 14], [0, 1]), ([15, 14, 14, 0, 1, 2, 3, 4, 5, 6, 7, 8, 9, 10, 11, 12, 13, 14], [14, 15])])
def spec_l10Table.B21 : List Nat := [0, 0, 0, 0, 0, 0, 0, 96, 0, 0, 0, 0, 3072, 7168, 16380, 32767, 65535]
theorem spec_l10Table.tab21 : rtab .any (opsOf Try.f28 21) = spec_l10Table.T21 := by kernel_rfl
theorem spec_l10Table.bits21 : waitsOk spec_l10Table.T21.2 spec_l10Table.B21 = true := by kernel_rfl
theorem spec_l10Table.calls (k : Nat) (A0 : Option Addr) (c0 : Nat) (l0 : List (S43)) (A1_0 : Option Addr) (c1_0 : Nat) (l1_0 : List Int) (A1_1 : Option Addr) (c1_1 : Nat) (l1_1 : List Int) (r : List (List Bool)) (w : World) (hr0 : Kd.C k43 w A0 l0.length l0) (hc0 : l0.length ≤ c0) (hr1_0 : Kd.C (Kd.int .i64) w A1_0 l1_0.length l1_0) (hc1_0 : l1_0.length ≤ c1_0) (hr1_1 : Kd.C (Kd.int .i64) w A1_1 l1_1.length l1_1) (hc1_1 : l1_1.length ≤ c1_1) (h : spec_l10Table.f k l0 l1_0 l1_1 = some r) :
  Calls Try.prog 28 #[.slice A0 l0.length c0, .agg #[.slice A1_0 l1_0.length c1_0, .slice A1_1 l1_1.length c1_1]] w fun e w' => ∃ v0_ : Value, e = .returned (v0_) ∧ Kd.S (Kd.slice 4 Kd.bool) 48 w' w.heap.size (fun _ => True) v0_ r ∧ Below w.heap.size w w' := by
 have hu32 := Try.underlying32
 have hu43 := Try.underlying43
 have HR0 := am_ hr0
 have HC0 := am_ hc0
 clear hr0 hc0
 have HR1_0 := am_ hr1_0
 have HC1_0 := am_ hc1_0
 clear hr1_0 hc1_0
 have HR1_1 := am_ hr1_1
 have HC1_1 := am_ hc1_1
 clear hr1_1 hc1_1
 have HB := am_ (Below.refl w.heap.size w)
 have H := h
 clear h
 unfold spec_l10Table.f at H
 have H' := am_ H
 clear H
 go_enter Try.func28, Try.ntmps28
 go_wp2_with (first | ((with_reducible refine Sh.d 3 ?_); refine Sh.bz w (N := 3) (cs := #[.slice A1_0 l1_0.length c1_0, .slice A1_1 l1_1.length c1_1]) (t := 32) (h := ?_); clear HB; intro gb135 w3 BK135 GE135 HB; obtain ⟨hcz4_0, hcz4_1, hfz4_0, hfz4_1⟩ := Sh.b2 BK135.out))
 go_loopg [6, 23] k (fun kq v6 v23 w' => ∃ (x6_1 : List (List Bool)) (x23_1 : Int), v23 = .int .i64 x23_1 ∧ Aside0 (spec_l10Table.l0 kq l0 (wrap64 ((l1_0.length : Int) + (l1_1.length : Int))) x6_1 l0 (l0.length : Int) x23_1 l1_0 l1_1 = some r) ∧ Aside0 (kq ≤ k) ∧ Aside0 (Kd.S (Kd.slice 4 Kd.bool) 48 w' w.heap.size (fun _ => True) v6 x6_1) ∧ Aside0 (w'.heap[gb135]? = some (.cells #[(.slice A1_0 l1_0.length c1_0), (.slice A1_1 l1_1.length c1_1)] 32 (0, 0))) ∧ Aside0 (Below w.heap.size w w'))
 case atStart => exact ⟨(([] : List (List Bool))), (0), (Sh.es), H', ⟨Nat.le_refl _⟩, ⟨by first | exact Kd.S_nil _ _ _ _ _ | exact Kd.N_nil _ _ _ _ _ | exact Kd.V_nil _ _ _ _ _ | exact Kd.Q_nil _ _ _ _ _ | exact Kd.R_nil _ _ _ _ _⟩, ⟨by refine Sh.pl ?_; exact BK135.out⟩, ⟨Sh.bw⟩⟩
 case round =>
  clear H'
  try clear hcz4_0
  try clear hcz4_1
  try clear hfz4_0
  try clear hfz4_1
  obtain ⟨x6_1, x23_1, rfl, HA, HK1, HO_6, BK135, HB⟩ := hrel
  cases gk with
  | zero => exact absurd HA.out (by simp [spec_l10Table.l0])
  | succ k1 =>
   have H := HA.out
   clear HA
   simp only [spec_l10Table.l0] at H
   by_cases c5 : x23_1 < (l0.length : Int)
   ·rw [if_pos c5] at H
    have c5b0 := decide_eq_true c5
    clear c5
    by_cases c6 : 0 ≤ x23_1
    ·rw [if_pos c6] at H
     have c6b0 := decide_eq_true c6
     clear c6
     by_cases c7 : x23_1 < (l0.length : Int)
     ·rw [if_pos c7] at H
      have c7b0 := decide_eq_true c7
      clear c7
      obtain ⟨ji8, hj1⟩ : ∃ j_ : Int, (wrap64 ((l1_0.length : Int) + (l1_1.length : Int))) = j_ := ⟨_, rfl⟩
      replace H : (if 0 ≤ (ji8) then (if ((ji8) : Int).toNat ≤ 281474976710656 then ((some (List.replicate ((ji8) : Int).toNat false : List Bool)).bind fun y138 => (spec_l10Table.l1 k1 l0 (ji8) x6_1 x23_1 y138 l0 (l0.length : Int) x23_1 (y138.length : Int) 0 l1_0 l1_1 ((rd_T43 l0 x23_1).f0) ((rd_T43 l0 x23_1).f1))) else (none)) else (none)) = some r := by first | (rw [hj1] at H; exact H) | (simp only [hj1] at H ⊢; exact H)
      have hji8w : (IntKind.i64.wrap ((l1_0.length : Int) + (l1_1.length : Int))) = ji8 := (i64_w _).trans hj1
      by_cases c9 : 0 ≤ (ji8)
      ·rw [if_pos c9] at H
       have c9b0 := eq_true c9
       have c9b1 := decide_eq_true c9
       clear c9
       by_cases c10 : ((ji8) : Int).toNat ≤ 281474976710656
       ·rw [if_pos c10] at H
        have c10b0 := eq_true c10
        have c10b1 := decide_eq_true c10
        clear c10
        obtain ⟨y138, hy138⟩ : ∃ y_ : List Bool, y_ = (List.replicate ((ji8) : Int).toNat false) := ⟨_, rfl⟩
        replace H : (spec_l10Table.l1 k1 l0 (ji8) x6_1 x23_1 y138 l0 (l0.length : Int) x23_1 (y138.length : Int) 0 l1_0 l1_1 ((rd_T43 l0 x23_1).f0) ((rd_T43 l0 x23_1).f1)) = some r := by first | (rw [hy138]; with_reducible exact H) | (have H2_ := (Option.bind_some _ _).symm.trans H; rw [hy138]; with_reducible exact H2_) | (have H2_ := (Option.bind_some _ _).symm.trans H; with_reducible exact H2_) | with_reducible exact H | (rw [hy138]; exact H) | exact H
        have Ny138 := am_ hy138
        clear hy138
        have H' := am_ H
        clear H
        have p136 : 0 ≤ (x23_1 : Int) := Sh.od
        have q136 : x23_1 < (l0.length : Int) := Sh.od
        obtain ⟨ad136, e136, hx136_0, hx136_1⟩ := at_T43 HR0.out x23_1 p136 q136
        cases e136
        try replace hx136_0 := Sh.cw hx136_0
        try replace hx136_1 := Sh.cw hx136_1
        replace p136 := eq_true p136
        replace q136 := eq_true q136
        go_wp2_with (first | ((with_reducible refine Sh.d 8 ?_); refine Sh.bx (N := 8) (cs := #[.int .i64 0, .int .i64 0]) (t := 43) (h := ?_); intro gb137 hg w11 hbox hb; replace HO_6 := am_ (Kd.S_below (by (with_reducible repeat (first | apply Kd.S_alloc | apply Kd.S_drewN | apply Kd.S_drew)); exact HO_6.out) hb); have BK137 := am_ hbox; have GE137 := Sh.ag w hg; replace HB := Sh.hb hb; have NB135_137 := am_ (Sh.nl hg BK135.out); have NB137_135 := am_ (Sh.ng hg BK135.out); replace BK135 := Sh.ab BK135 hb; clear hb hbox hg; have hnb12 := NB137_135.out; have hnc12 := NB135_137.out; obtain ⟨hcz13_0, hcz13_1, hfz13_0, hfz13_1⟩ := Sh.b2 BK137.out) | ((with_reducible refine Sh.d 29 ?_); refine Kd.R_make Kd.bool _ 4 rfl (N := 29) rfl 48 _ _ rfl (ji8) rfl rfl Try.underlying48 (.bool false) 1 info4 rfl (by decide) (by omega) false (ok := fun _ => True) (okp := fun _ => True) rfl (fun _ hk => hk) trivial (of_decide_eq_true (by first | (with_reducible assumption) | assumption)) (Nat.le_trans (Nat.mul_le_mul_right _ (of_decide_eq_true (by first | (with_reducible assumption) | assumption) : (ji8).toNat ≤ 281474976710656)) (by omega)) (Below.refl _ _) (Nat.le_refl _) ?_; intro v139 w14 ho15 hb hg_ hnew_; clear hg_ hnew_; (first | rw [← Ny138.out] at ho15 | (simp only [Int.reduceToNat] at ho15; rw [← Ny138.out] at ho15)); have n0_ := am_ (Kd.S_elder' (by (with_reducible repeat (first | apply Kd.S_alloc | apply Kd.S_drewN | apply Kd.S_drew)); exact (Kd.S_mono (Kd.S_far (p := ⟨gb137, 1, none⟩) (Kd.S_far (p := ⟨gb137, 0, none⟩) (Kd.S_types HO_6.out BK137.out (by decide)) (fun _ hk => hk.2) (.int .i64 ((rd_T43 l0 x23_1).f0))) (fun _ hk => hk.2) (.int .i64 ((rd_T43 l0 x23_1).f1))) (fun _ h_ => h_.1))) (Kd.R_base ho15) hb); have n1_ := am_ (Kd.R_lower ho15 (below_size Sh.bw)); have n2_ := am_ (blk_below (g := gb135) (o := .cells #[.slice A1_0 l1_0.length c1_0, .slice A1_1 l1_1.length c1_1] 32 (0, 0)) (by refine Sh.pl ?_; refine blk_far ?_ NB135_137.out _; refine Sh.pl ?_; refine blk_far ?_ NB135_137.out _; refine Sh.pl ?_; exact BK135.out) hb); have n3_ := am_ (blk_below (g := gb137) (o := .cells #[.int .i64 ((rd_T43 l0 x23_1).f0), .int .i64 ((rd_T43 l0 x23_1).f1)] 43 (0, 0)) (by refine Sh.pl ?_; refine blk_put (cs := #[.int .i64 ((rd_T43 l0 x23_1).f0), .int .i64 0]) ?_ 1 _ rfl; refine Sh.pl ?_; refine blk_put (cs := #[.int .i64 0, .int .i64 0]) ?_ 0 _ rfl; refine Sh.pl ?_; exact BK137.out) hb); have n4_ := am_ (below_step Sh.bw hb); clear HO_6; clear BK135; clear BK137; clear HB; have HO_6 := n0_; have HO140 := n1_; have BK135 := n2_; have BK137 := n3_; have HB := n4_; clear n0_ n1_ n2_ n3_ n4_; clear hb ho15; obtain ⟨Ao16, co16, eo16⟩ := Kd.R_slice HO140.out; subst eo16))
        go_loopg [32] k1 (fun kq v32 w' => ∃ (x9_2 : List Bool) (x32_2 : Int), v32 = .int .i64 x32_2 ∧ Aside0 (spec_l10Table.l1 kq l0 (ji8) x6_1 x23_1 x9_2 l0 (l0.length : Int) x23_1 (y138.length : Int) x32_2 l1_0 l1_1 ((rd_T43 l0 x23_1).f0) ((rd_T43 l0 x23_1).f1) = some r) ∧ Aside0 (kq ≤ k1) ∧ Aside0 (Kd.S (Kd.slice 4 Kd.bool) 48 w' w.heap.size (fun k_ => some k_ ≠ ((.slice Ao16 y138.length co16) : Value).ownBlock) u6 x6_1) ∧ Aside0 (Kd.R Kd.bool 4 w' w.heap.size (fun _ => True) (.slice Ao16 y138.length co16) x9_2) ∧ Aside0 (w'.heap[gb135]? = some (.cells #[(.slice A1_0 l1_0.length c1_0), (.slice A1_1 l1_1.length c1_1)] 32 (0, 0))) ∧ Aside0 (w'.heap[gb137]? = some (.cells #[.int .i64 ((rd_T43 l0 x23_1).f0), .int .i64 ((rd_T43 l0 x23_1).f1)] 43 (0, 0))) ∧ Aside0 (Below w.heap.size w w'))
        case atStart => exact ⟨(y138), (0), (Sh.es), H', ⟨Nat.le_refl _⟩, ⟨by (with_reducible repeat (first | apply Kd.S_alloc | apply Kd.S_drewN | apply Kd.S_drew)); exact Kd.S_mono HO_6.out (fun _ hk => hk.2)⟩, ⟨Sh.rl HO140.out⟩, ⟨by refine Sh.pl ?_; exact BK135.out⟩, ⟨by refine Sh.pl ?_; exact BK137.out⟩, ⟨Sh.bw⟩⟩
        case round =>
         clear H'
         try clear hx1
         try clear hx13
         try clear hcz13_0
         try clear hcz13_1
         try clear hcz4_0
         try clear hcz4_1
         try clear hfz13_0
         try clear hfz13_1
         try clear hfz4_0
         try clear hfz4_1
         try clear hx136_0
         try clear hx136_1
         obtain ⟨x9_2, x32_2, rfl, HA, HK2, HO_6, HO_9, BK135, BK137, HB⟩ := hrel
         have hl9_2 := (Kd.R_reads' HO_9.out).1
         rw [hl9_2] at HO_9
         (try simp only [hl9_2])
         (try simp only [hl9_2] at BK135)
         (try simp only [hl9_2] at BK137)
         (try simp only [hl9_2] at HO_6)
         cases gk with
         | zero => exact absurd HA.out (by simp [spec_l10Table.l1])
         | succ k2 =>
          have H := HA.out
          clear HA
          simp only [spec_l10Table.l1] at H
          by_cases c17 : x32_2 < (y138.length : Int)
          ·rw [if_pos c17] at H
           have c17b0 := decide_eq_true c17
           clear c17
           by_cases c18 : 0 ≤ x32_2
           ·rw [if_pos c18] at H
            have c18b0 := decide_eq_true c18
            clear c18
            by_cases c19 : x32_2 < (x9_2.length : Int)
            ·rw [if_pos c19] at H
             have c19b0 := decide_eq_true c19
             clear c19
             obtain ⟨y141, hy141⟩ : ∃ y_ : List Bool, y_ = (x9_2.set (x32_2 : Int).toNat (((rd_T43 l0 x23_1).f0) == 8)) := ⟨_, rfl⟩
             replace H : (spec_l10Table.l1 k2 l0 (ji8) x6_1 x23_1 y141 l0 (l0.length : Int) x23_1 (y138.length : Int) (wrap64 (x32_2 + 1)) l1_0 l1_1 ((rd_T43 l0 x23_1).f0) ((rd_T43 l0 x23_1).f1)) = some r := by first | (rw [hy141]; with_reducible exact H) | (have H2_ := (Option.bind_some _ _).symm.trans H; rw [hy141]; with_reducible exact H2_) | (have H2_ := (Option.bind_some _ _).symm.trans H; with_reducible exact H2_) | with_reducible exact H | (rw [hy141]; exact H) | exact H
             have Ny141 := am_ hy141
             clear hy141
             have H' := am_ H
             clear H
             have hnb21 := NB137_135.out
             have hnc21 := NB135_137.out
             have hcz22_0 := Sh.bc BK137.out 0
             have hcz22_1 := Sh.bc BK137.out 1
             have hfz22_0 := blk_frozen BK137.out 0
             have hfz22_1 := blk_frozen BK137.out 1
             have p20 : 0 ≤ (x32_2 : Int) := Sh.od
             have q20 : (x32_2 : Int) < ((x9_2.length : Int) : Int) := Sh.od
             obtain ⟨go20, co20, eo20, gb20, gl20, cl20, HG20⟩ := Kd.R_form HO_9.out (by omega)
             (first | cases eo20 | (injection eo20 with ea_ en_ ec_; (first | subst ea_ | (injection ea_ with ea_; subst ea_)); subst ec_; clear en_))
             have GB20 := am_ gb20
             have GG20 := am_ HG20
             clear gb20 gl20 HG20
             obtain ⟨hx20_0, hf20_0⟩ := Kd.R_celln false HO_9.out (x32_2 : Int) p20 q20
             replace p20 := eq_true p20
             replace q20 := eq_true q20
             have HP23 := Kd.R_putg HO_9.out (x32_2 : Int) (((rd_T43 l0 x23_1).f0) == 8)
             go_wp2_with (first | ((with_reducible refine gate_store (t := 4) (p := 40) rfl ?_); refine store_event (t := 4) (p := 40) (v := ?vo_w24) (w1 := (wr.setCell ⟨go20, (x32_2 : Int).toNat, none⟩ (.bool (((rd_T43 l0 x23_1).f0) == 8)))) ?hg ?ho ?hn ?hr ?_; (case ho => rfl); (case hg => rfl); (case hn => rfl); (case hr => first | (go_simp; done) | (go_simp; rfl)); intro w24 hw; have hg : wr.grownBy w24 (some go20) := (by rw [hw]; exact HP23.2); have hp_ : Kd.R Kd.bool 4 w24 w.heap.size (fun _ => True) (.slice (some ⟨go20, 0, none⟩) x9_2.length co16) y141 := (by rw [hw, Ny141.out]; exact HP23.1); clear HP23; replace HO_6 := am_ (Kd.S_after (v := (.slice (some ⟨go20, 0, none⟩) x9_2.length co16)) (v1 := (.slice (some ⟨go20, 0, none⟩) x9_2.length co16)) (ok := (fun _ => True)) (by (with_reducible repeat (first | apply Kd.S_alloc | apply Kd.S_drewN | apply Kd.S_drew)); exact Kd.S_mono HO_6.out (fun _ hk => ⟨trivial, hk⟩)) hg (.inl rfl)); replace BK135 := am_ (blk_grown (g := gb135) (o := .cells #[.slice A1_0 l1_0.length c1_0, .slice A1_1 l1_1.length c1_1] 32 (0, 0)) (Sh.pl BK135.out) hg (Kd.R_ne HO_9.out BK135.out (by decide))); replace BK137 := am_ (blk_grown (g := gb137) (o := .cells #[.int .i64 ((rd_T43 l0 x23_1).f0), .int .i64 ((rd_T43 l0 x23_1).f1)] 43 (0, 0)) (Sh.pl BK137.out) hg (Kd.R_ne HO_9.out BK137.out (by decide))); replace HO_9 := am_ hp_; replace HB := am_ ((by rw [hw]; exact below_set (HB.out) GB20.out : Below w.heap.size w w24)); clear hg hw hp_))
             (try simp only [← hl9_2])
             go_roundg k2
             case measure => have := HK1.out; have := HK2.out; omega
             case rel => exact ⟨(y141), (wrap64 (x32_2 + 1)), (Sh.es), H', ⟨by have := HK1.out; have := HK2.out; omega⟩, ⟨by (try simp only [hl9_2]); (with_reducible repeat (first | apply Kd.S_alloc | apply Kd.S_drewN | apply Kd.S_drew)); exact Kd.S_mono HO_6.out (fun _ hk => hk.2)⟩, ⟨by (try simp only [hl9_2]); (with_reducible repeat (first | apply Kd.R_alloc | apply Kd.R_drewN | apply Kd.R_drew)); exact HO_9.out⟩, ⟨by (try simp only [hl9_2]); refine Sh.pl ?_; exact BK135.out⟩, ⟨by (try simp only [hl9_2]); refine Sh.pl ?_; exact BK137.out⟩, ⟨Sh.bw⟩⟩
            ·rw [if_neg c19] at H
             exact absurd H (by simp)
           ·rw [if_neg c18] at H
            exact absurd H (by simp)
          ·rw [if_neg c17] at H
           have c17b0 := decide_eq_false c17
           (try simp only [hl9_2] at c17b0)
           clear c17
           have H' := am_ H
           clear H
           go_wp2
           go_loopg [11] k2 (fun kq v11 w' => ∃ (x9_3 : List Bool) (x11_3 : Int), v11 = .int .i64 x11_3 ∧ Aside0 (spec_l10Table.l2 kq l0 (ji8) x6_1 x23_1 x9_3 x11_3 l0 (l0.length : Int) x23_1 l1_0 l1_1 = some r) ∧ Aside0 (kq ≤ k2) ∧ Aside0 (Kd.S (Kd.slice 4 Kd.bool) 48 w' w.heap.size (fun k_ => some k_ ≠ ((.slice Ao16 x9_2.length co16) : Value).ownBlock) u6 x6_1) ∧ Aside0 (Kd.R Kd.bool 4 w' w.heap.size (fun _ => True) (.slice Ao16 x9_2.length co16) x9_3) ∧ Aside0 (w'.heap[gb135]? = some (.cells #[(.slice A1_0 l1_0.length c1_0), (.slice A1_1 l1_1.length c1_1)] 32 (0, 0))) ∧ Aside0 (w'.heap[gb137]? = some (.cells #[.int .i64 ((rd_T43 l0 x23_1).f0), .int .i64 ((rd_T43 l0 x23_1).f1)] 43 (0, 0))) ∧ Aside0 (Below w.heap.size w w'))
           case atStart => exact ⟨(x9_2), (0), (Sh.es), H', ⟨Nat.le_refl _⟩, ⟨by (try simp only [hl9_2]); (with_reducible repeat (first | apply Kd.S_alloc | apply Kd.S_drewN | apply Kd.S_drew)); exact HO_6.out⟩, ⟨by (try simp only [hl9_2]); (with_reducible repeat (first | apply Kd.R_alloc | apply Kd.R_drewN | apply Kd.R_drew)); exact HO_9.out⟩, ⟨by (try simp only [hl9_2]); refine Sh.pl ?_; exact BK135.out⟩, ⟨by (try simp only [hl9_2]); refine Sh.pl ?_; exact BK137.out⟩, ⟨Sh.bw⟩⟩
           case round =>
            clear H'
            try clear hx1
            try clear hx2
            try clear hf2
            try clear hx13
            try clear hx20
            try clear hf20
            try clear hcz13_0
            try clear hcz13_1
            try clear hcz22_0
            try clear hcz22_1
            try clear hcz4_0
            try clear hcz4_1
            try clear hfz13_0
            try clear hfz13_1
            try clear hfz22_0
            try clear hfz22_1
            try clear hfz4_0
            try clear hfz4_1
            try clear hx136_0
            try clear hx136_1
            try clear hx20_0
            obtain ⟨x9_3, x11_3, rfl, HA, HK3, HO_6, HO_9, BK135, BK137, HB⟩ := hrel
            have hl9_3 := (Kd.R_reads' HO_9.out).1
            rw [hl9_3] at HO_9
            (try simp only [hl9_3])
            (try simp only [hl9_3] at BK135)
            (try simp only [hl9_3] at BK137)
            (try simp only [hl9_3] at HO_6)
            cases gk with
            | zero => exact absurd HA.out (by simp [spec_l10Table.l2])
            | succ k3 =>
             have H := HA.out
             clear HA
             simp only [spec_l10Table.l2] at H
             by_cases c25 : x11_3 < 2
             ·rw [if_pos c25] at H
              have c25b0 := decide_eq_true c25
              clear c25
              have H' := am_ H
              clear H
              go_wp2
              go_loopg [12] k3 (fun kq v12 w' => ∃ (x9_4 : List Bool) (x12_4 : Int), v12 = .int .i64 x12_4 ∧ Aside0 (spec_l10Table.l3 kq l0 (ji8) x6_1 x23_1 x9_4 x11_3 x12_4 l0 (l0.length : Int) x23_1 l1_0 l1_1 = some r) ∧ Aside0 (kq ≤ k3) ∧ Aside0 (Kd.S (Kd.slice 4 Kd.bool) 48 w' w.heap.size (fun k_ => some k_ ≠ ((.slice Ao16 x9_3.length co16) : Value).ownBlock) u6 x6_1) ∧ Aside0 (Kd.R Kd.bool 4 w' w.heap.size (fun _ => True) (.slice Ao16 x9_3.length co16) x9_4) ∧ Aside0 (w'.heap[gb135]? = some (.cells #[(.slice A1_0 l1_0.length c1_0), (.slice A1_1 l1_1.length c1_1)] 32 (0, 0))) ∧ Aside0 (w'.heap[gb137]? = some (.cells #[.int .i64 ((rd_T43 l0 x23_1).f0), .int .i64 ((rd_T43 l0 x23_1).f1)] 43 (0, 0))) ∧ Aside0 (Below w.heap.size w w'))
              case atStart => exact ⟨(x9_3), (wrap64 ((ji8) - 1)), (by first | rfl | (simp; done) | (simp only [← hj1] <;> (first | rfl | simp)) | (simp [*]; done)), H', ⟨Nat.le_refl _⟩, ⟨by (try simp only [hl9_2]); (try simp only [hl9_3]); (with_reducible repeat (first | apply Kd.S_alloc | apply Kd.S_drewN | apply Kd.S_drew)); exact HO_6.out⟩, ⟨by (try simp only [hl9_2]); (try simp only [hl9_3]); (with_reducible repeat (first | apply Kd.R_alloc | apply Kd.R_drewN | apply Kd.R_drew)); exact HO_9.out⟩, ⟨by (try simp only [hl9_2]); (try simp only [hl9_3]); refine Sh.pl ?_; exact BK135.out⟩, ⟨by (try simp only [hl9_2]); (try simp only [hl9_3]); refine Sh.pl ?_; exact BK137.out⟩, ⟨Sh.bw⟩⟩
              case round =>
               clear H'
               try clear hx1
               try clear hx2
               try clear hf2
               try clear hx13
               try clear hx20
               try clear hf20
               try clear hcz13_0
               try clear hcz13_1
               try clear hcz22_0
               try clear hcz22_1
               try clear hcz4_0
               try clear hcz4_1
               try clear hfz13_0
               try clear hfz13_1
               try clear hfz22_0
               try clear hfz22_1
               try clear hfz4_0
               try clear hfz4_1
               try clear hx136_0
               try clear hx136_1
               try clear hx20_0
               obtain ⟨x9_4, x12_4, rfl, HA, HK4, HO_6, HO_9, BK135, BK137, HB⟩ := hrel
               have hl9_4 := (Kd.R_reads' HO_9.out).1
               rw [hl9_4] at HO_9
               (try simp only [hl9_4])
               (try simp only [hl9_4] at BK135)
               (try simp only [hl9_4] at BK137)
               (try simp only [hl9_4] at HO_6)
               cases gk with
               | zero => exact absurd HA.out (by simp [spec_l10Table.l3])
               | succ k4 =>
                have H := HA.out
                clear HA
                simp only [spec_l10Table.l3] at H
                by_cases c26 : x12_4 ≥ 0
                ·rw [if_pos c26] at H
                 have c26b0 : decide (0 ≤ x12_4) = true := decide_eq_true c26
                 clear c26
                 by_cases c27 : (wrap64 (x12_4 + 1)) = (ji8)
                 ·rw [if_pos c27] at H
                  have c27b0 : ((wrap64 (x12_4 + 1)) == (ji8)) = true := beq_iff_eq.mpr c27
                  have c27b1 : ((wrap64 (x12_4 + 1)) != (ji8)) = false := bne_eq_false_iff_eq.mpr c27
                  clear c27
                  obtain ⟨t145, A28, H⟩ := Sh.ba H
                  by_cases c29 : 0 ≤ (l1_0.length : Int)
                  ·rw [if_pos c29] at H
                   have c29b0 := decide_eq_true c29
                   have c29b1 : decide (0 ≤ l1_0.length) = true := decide_eq_true (by omega)
                   clear c29
                   by_cases c30 : (l1_0.length : Int) < (x9_4.length : Int)
                   ·rw [if_pos c30] at H
                    have c30b0 := decide_eq_true c30
                    have c30b1 : decide (l1_0.length < x9_4.length) = true := decide_eq_true (Int.ofNat_lt.mp c30)
                    clear c30
                    obtain ⟨t147, A31, H⟩ := Sh.ba H
                    by_cases c32 : 0 ≤ x12_4
                    ·rw [if_pos c32] at H
                     have c32b0 := decide_eq_true c32
                     clear c32
                     by_cases c33 : x12_4 < (x9_4.length : Int)
                     ·rw [if_pos c33] at H
                      have c33b0 := decide_eq_true c33
                      clear c33
                      obtain ⟨y148, hy148⟩ : ∃ y_ : List Bool, y_ = (x9_4.set (x12_4 : Int).toNat t147) := ⟨_, rfl⟩
                      replace H : (spec_l10Table.l3 k4 l0 (ji8) x6_1 x23_1 y148 x11_3 (wrap64 (x12_4 - 1)) l0 (l0.length : Int) x23_1 l1_0 l1_1) = some r := by first | (rw [hy148]; with_reducible exact H) | (have H2_ := (Option.bind_some _ _).symm.trans H; rw [hy148]; with_reducible exact H2_) | (have H2_ := (Option.bind_some _ _).symm.trans H; with_reducible exact H2_) | with_reducible exact H | (rw [hy148]; exact H) | exact H
                      have Ny148 := am_ hy148
                      clear hy148
                      have H' := am_ H
                      clear H
                      have hnb35 := NB135_137.out
                      have hnc35 := NB137_135.out
                      have hcz36_0 := Sh.bc BK135.out 0
                      have hcz36_1 := Sh.bc BK135.out 1
                      have hfz36_0 := blk_frozen BK135.out 0
                      have hfz36_1 := blk_frozen BK135.out 1
                      try go_wp2
                      replace HO_6 := am_ (Kd.S_drew HO_6.out)
                      replace HO_9 := am_ (Kd.R_drew HO_9.out)
                      replace BK135 := am_ (blk_drew BK135.out)
                      replace BK137 := am_ (blk_drew BK137.out)
                      replace HB := am_ (below_drew1 HB.out)
                      have p146 : 0 ≤ ((l1_0.length : Int) : Int) := Sh.od
                      have q146 : (l1_0.length : Int) < (x9_4.length : Int) := Sh.od
                      obtain ⟨ad146, e146, hx146_0⟩ := Kd.at_bool (Kd.R_reads' HO_9.out).2.2 (l1_0.length : Int) p146 q146
                      cases e146
                      (try simp only [Go.IntWalk.toNatUp] at hx146_0)
                      (try simp only [hl9_2, hl9_3, hl9_4] at p146)
                      (try simp only [hl9_2, hl9_3, hl9_4] at q146)
                      (try simp only [hl9_2, hl9_3, hl9_4] at hx146_0)
                      replace p146 := eq_true p146
                      replace q146 := eq_true q146
                      refine start_ (n := 17) (S := fun w' => w'.cell? ⟨gb135, 0, none⟩ = some (.slice A1_0 l1_0.length c1_0) ∧ w'.cell? ⟨gb135, 1, none⟩ = some (.slice A1_1 l1_1.length c1_1) ∧ w'.cell? (ad146.add l1_0.length) = some (.bool (rdOf false x9_4 (l1_0.length : Int)))) (ds := [16]) (Sh.nm 17 0) (by kernel_rfl) rfl rfl ⟨(blk_cell BK135.out 0).trans rfl, (blk_cell BK135.out 1).trans rfl, hx146_0⟩ (fun hHeld => ?_); refine with_tabW spec_l10Table.tab21 spec_l10Table.bits21 (fun HT_ HW_ => ?_)
                      generalize wr.drew = w37 at HO_6 HO_9 BK135 BK137 HB hx146_0 hHeld ⊢
                      refine Sh.qA 0 ?_; refine Sh.qA 1 ?_; refine Sh.qA 2 ?_; refine Sh.qA 3 ?_; refine Sh.qA 4 ?_; refine Sh.qA 6 ?_; refine Sh.qA 8 ?_; refine Sh.qA 9 ?_; refine Sh.qA 10 ?_; refine Sh.qA 11 ?_; refine Sh.qA 12 ?_; refine Sh.qT 5 hHeld ?_; refine Sh.qT 13 hHeld ?_
                      refine Sh.oC 7 Try.func36 #[.agg #[.slice A1_0 l1_0.length c1_0, .slice A1_1 l1_1.length c1_1], .int .i64 x12_4] fun K hK => ?_
                      with_reducible refine (spec_l9At.calls _ _ l1_0 _ _ l1_1 x12_4 t145 _ (Sh.cB HR1_0.out) HC1_0.out (Sh.cB HR1_1.out) HC1_1.out A28.out).mono ?_
                      rintro e w38 ⟨rfl, hb⟩
                      have HS2_ := (hb.cell (World.block_lt_of_cell? _ _ (hHeld.2.2))).trans (hHeld.2.2)
                      refine ⟨_, rfl, ?_⟩
                      replace HO_6 := am_ (Kd.S_below (by (with_reducible repeat (first | apply Kd.S_alloc | apply Kd.S_drewN | apply Kd.S_drew)); exact HO_6.out) hb)
                      replace HO_9 := am_ (Kd.R_below (Sh.rl HO_9.out) hb)
                      replace BK135 := Sh.ab BK135 hb
                      replace BK137 := Sh.ab BK137 hb
                      replace HB := Sh.hb hb
                      (try clear hb)
                      (try clear hb2)
                      (try clear hk)
                      (try clear hi)
                      obtain ⟨Ao39, co39, eo39⟩ := Kd.S_slice HO_6.out
                      (first | subst eo39 | (injection eo39 with f1_ f2_ f3_; have f4_ := f1_.symm; have f5_ := f3_.symm; clear f1_ f2_ f3_; subst f4_; subst f5_))
                      refine Sh.kN hK ⟨(blk_cell BK135.out 0).trans rfl, (blk_cell BK135.out 1).trans rfl, HS2_⟩ fun hHeld => ?_
                      clear hK K
                      refine Sh.oC 14 Try.func35 #[.slice (some ad136) l0.length c0, .slice Ao39 x6_1.length co39, .int .i64 x23_1, .int .i64 t145, .int .i64 x12_4, .int .i64 (l1_0.length : Int), .bool (rdOf false x9_4 (l1_0.length : Int))] fun K hK => ?_
                      with_reducible refine (spec_l10Cell.calls k4 _ _ l0 _ _ x6_1 x23_1 t145 x12_4 (l1_0.length : Int) (rdOf false x9_4 (l1_0.length : Int)) t147 _ (Sh.cB HR0.out) HC0.out (Sh.cR (Kd.S_reads' HO_6.out).2.2) (Kd.S_reads' HO_6.out).2.1 A31.out).mono ?_
                      rintro e w40 ⟨rfl, hb⟩
                      have HS2_ := (hb.cell (World.block_lt_of_cell? _ _ (hHeld.2.2))).trans (hHeld.2.2)
                      refine ⟨_, rfl, ?_⟩
                      replace HO_6 := am_ (Kd.S_below (by (with_reducible repeat (first | apply Kd.S_alloc | apply Kd.S_drewN | apply Kd.S_drew)); exact HO_6.out) hb)
                      replace HO_9 := am_ (Kd.R_below (Sh.rl HO_9.out) hb)
                      replace BK135 := Sh.ab BK135 hb
                      replace BK137 := Sh.ab BK137 hb
                      replace HB := Sh.hb hb
                      (try clear hb)
                      (try clear hb2)
                      (try clear hk)
                      (try clear hi)
                      have p34 : 0 ≤ (x12_4 : Int) := Sh.od
                      have q34 : (x12_4 : Int) < ((x9_4.length : Int) : Int) := Sh.od
                      obtain ⟨go34, co34, eo34, gb34, gl34, cl34, HG34⟩ := Kd.R_form HO_9.out (by omega)
                      (first | cases eo34 | (injection eo34 with ea_ en_ ec_; (first | subst ea_ | (injection ea_ with ea_; subst ea_)); subst ec_; clear en_))
                      have GB34 := am_ gb34
                      have GG34 := am_ HG34
                      clear gb34 gl34 HG34
                      (first | simp only [add_plain] at hx146_0 | skip)
                      obtain ⟨hx34_0, hf34_0⟩ := Kd.R_celln false HO_9.out (x12_4 : Int) p34 q34
                      replace p34 := eq_true p34
                      replace q34 := eq_true q34
                      have HP41 := Kd.R_putn HO_9.out (x12_4 : Int) t147
                      rw [← Ny148.out] at HP41
                      have HQ41 := am_ HP41
                      clear HP41
                      refine Sh.kN hK ⟨(blk_cell BK135.out 0).trans rfl, (blk_cell BK135.out 1).trans rfl, HS2_⟩ fun hHeld => ?_
                      clear hK K
                      refine Sh.qA 15 ?_
                      refine last_ (i := 16) (N := none) (Sh.nm 17 131071) rfl rfl (one_of HT_.out (by kernel_rfl)) (by decide) (fun K hK => ?_)
                      refine skip_ (w1 := ?_) (by rfl) rfl ?_ ?_
                      rotate_left
                      ·go_simp
                       rfl
                      refine hK.out _ _ ?_
                      clear hK K
                      refine done_ (done_of HT_.out (by kernel_rfl)) ?_
                      try go_wp2
                      (try simp only [← hl9_4])
                      go_roundg k4
                      case measure => have := HK1.out; have := HK2.out; have := HK3.out; have := HK4.out; omega
                      case rel => exact ⟨(y148), (wrap64 (x12_4 - 1)), (Sh.es), H', ⟨by have := HK1.out; have := HK2.out; have := HK3.out; have := HK4.out; omega⟩, ⟨by (try simp only [hl9_2]); (try simp only [hl9_3]); (try simp only [hl9_4]); (with_reducible repeat (first | apply Kd.S_alloc | apply Kd.S_drewN | apply Kd.S_drew)); exact Kd.S_mono (Kd.S_far (p := ⟨go34, (x12_4 : Int).toNat, none⟩) (Kd.S_mono HO_6.out (fun k_ hk => (⟨hk, fun e_ => hk (by rw [e_]; rfl)⟩ : _ ∧ k_ ≠ go34))) (fun _ hk => hk.2) (.bool t147)) (fun _ hk => hk.1)⟩, ⟨by (try simp only [hl9_2]); (try simp only [hl9_3]); (try simp only [hl9_4]); (with_reducible repeat (first | apply Kd.R_alloc | apply Kd.R_drewN | apply Kd.R_drew)); exact HQ41.out⟩, ⟨by (try simp only [hl9_2]); (try simp only [hl9_3]); (try simp only [hl9_4]); refine Sh.pl ?_; refine blk_far ?_ (by have h_ := Kd.R_ne HO_9.out BK135.out (by decide); intro e_; exact h_ (by rw [e_]; rfl)) _; refine Sh.pl ?_; exact BK135.out⟩, ⟨by (try simp only [hl9_2]); (try simp only [hl9_3]); (try simp only [hl9_4]); refine Sh.pl ?_; refine blk_far ?_ (by have h_ := Kd.R_ne HO_9.out BK137.out (by decide); intro e_; exact h_ (by rw [e_]; rfl)) _; refine Sh.pl ?_; exact BK137.out⟩, ⟨Sh.bw⟩⟩
                     ·rw [if_neg c33] at H
                      exact absurd H (by simp)
                    ·rw [if_neg c32] at H
                     exact absurd H (by simp)
                   ·rw [if_neg c30] at H
                    exact absurd H (by simp)
                  ·rw [if_neg c29] at H
                   exact absurd H (by simp)
                 ·rw [if_neg c27] at H
                  have c27b0 : ((wrap64 (x12_4 + 1)) == (ji8)) = false := beq_eq_false_iff_ne.mpr c27
                  have c27b1 : ((wrap64 (x12_4 + 1)) != (ji8)) = true := bne_iff_ne.mpr c27
                  obtain ⟨t149, A42, H⟩ := Sh.ba H
                  obtain ⟨ji43, hj2⟩ : ∃ j_ : Int, (wrap64 (x12_4 + 1)) = j_ := ⟨_, rfl⟩
                  have hj3 := hj1; (try rw [hj2] at hj3)
                  replace H : (if 0 ≤ (ji43) then (if (ji43) < (x9_4.length : Int) then ((spec_l10Cell.f k4 l0 x6_1 x23_1 t149 x12_4 (ji43) (rdOf false x9_4 (ji43))).bind fun t151 => (if 0 ≤ x12_4 then (if x12_4 < (x9_4.length : Int) then (spec_l10Table.l3 k4 l0 (ji8) x6_1 x23_1 (x9_4.set (x12_4 : Int).toNat t151) x11_3 (wrap64 (x12_4 - 1)) l0 (l0.length : Int) x23_1 l1_0 l1_1) else (none)) else (none))) else (none)) else (none)) = some r := by first | (rw [hj2] at H; exact H) | (simp only [hj2] at H ⊢; exact H)
                  (try rw [hj2] at c27b0)
                  (try rw [hj2] at c27b1)
                  (try rw [hj2] at A42)
                  have hji43w : (IntKind.i64.wrap (x12_4 + 1)) = ji43 := (i64_w _).trans hj2
                  by_cases c44 : 0 ≤ (ji43)
                  ·rw [if_pos c44] at H
                   have c44b0 := decide_eq_true c44
                   clear c44
                   by_cases c45 : (ji43) < (x9_4.length : Int)
                   ·rw [if_pos c45] at H
                    have c45b0 := decide_eq_true c45
                    clear c45
                    obtain ⟨t151, A46, H⟩ := Sh.ba H
                    by_cases c47 : 0 ≤ x12_4
                    ·rw [if_pos c47] at H
                     have c47b0 := decide_eq_true c47
                     clear c47
                     by_cases c48 : x12_4 < (x9_4.length : Int)
                     ·rw [if_pos c48] at H
                      have c48b0 := decide_eq_true c48
                      clear c48
                      obtain ⟨y152, hy152⟩ : ∃ y_ : List Bool, y_ = (x9_4.set (x12_4 : Int).toNat t151) := ⟨_, rfl⟩
                      replace H : (spec_l10Table.l3 k4 l0 (ji8) x6_1 x23_1 y152 x11_3 (wrap64 (x12_4 - 1)) l0 (l0.length : Int) x23_1 l1_0 l1_1) = some r := by first | (rw [hy152]; with_reducible exact H) | (have H2_ := (Option.bind_some _ _).symm.trans H; rw [hy152]; with_reducible exact H2_) | (have H2_ := (Option.bind_some _ _).symm.trans H; with_reducible exact H2_) | with_reducible exact H | (rw [hy152]; exact H) | exact H
                      have Ny152 := am_ hy152
                      clear hy152
                      have H' := am_ H
                      clear H
                      try go_wp2
                      replace HO_6 := am_ (Kd.S_drew HO_6.out)
                      replace HO_9 := am_ (Kd.R_drew HO_9.out)
                      replace BK135 := am_ (blk_drew BK135.out)
                      replace BK137 := am_ (blk_drew BK137.out)
                      replace HB := am_ (below_drew1 HB.out)
                      have p150 : 0 ≤ ((ji43) : Int) := Sh.od
                      have q150 : (ji43) < (x9_4.length : Int) := Sh.od
                      obtain ⟨ad150, e150, hx150_0⟩ := Kd.at_bool (Kd.R_reads' HO_9.out).2.2 (ji43) p150 q150
                      cases e150
                      replace p150 := eq_true p150
                      replace q150 := eq_true q150
                      refine start_ (n := 17) (S := fun w' => w'.cell? ⟨gb135, 0, none⟩ = some (.slice A1_0 l1_0.length c1_0) ∧ w'.cell? ⟨gb135, 1, none⟩ = some (.slice A1_1 l1_1.length c1_1) ∧ w'.cell? (ad150.add ((ji43)).toNat) = some (.bool (rdOf false x9_4 (ji43)))) (ds := [16]) (Sh.nm 17 0) (by kernel_rfl) rfl rfl ⟨(blk_cell BK135.out 0).trans rfl, (blk_cell BK135.out 1).trans rfl, hx150_0⟩ (fun hHeld => ?_); refine with_tabW spec_l10Table.tab21 spec_l10Table.bits21 (fun HT_ HW_ => ?_)
                      generalize wr.drew = w50 at HO_6 HO_9 BK135 BK137 HB hx150_0 hHeld ⊢
                      refine Sh.qA 0 ?_; refine Sh.qA 1 ?_; refine Sh.qA 2 ?_; refine Sh.qA 3 ?_; refine Sh.qA 4 ?_; refine Sh.qA 6 ?_; refine Sh.qA 8 ?_; refine Sh.qA 9 ?_; refine Sh.qA 10 ?_; refine Sh.qA 11 ?_; refine Sh.qA 12 ?_; refine Sh.qT 5 hHeld ?_; refine Sh.qT 13 hHeld ?_
                      refine Sh.oC 7 Try.func36 #[.agg #[.slice A1_0 l1_0.length c1_0, .slice A1_1 l1_1.length c1_1], .int .i64 x12_4] fun K hK => ?_
                      with_reducible refine (spec_l9At.calls _ _ l1_0 _ _ l1_1 x12_4 t149 _ (Sh.cB HR1_0.out) HC1_0.out (Sh.cB HR1_1.out) HC1_1.out A42.out).mono ?_
                      rintro e w51 ⟨rfl, hb⟩
                      have HS2_ := (hb.cell (World.block_lt_of_cell? _ _ (hHeld.2.2))).trans (hHeld.2.2)
                      refine ⟨_, rfl, ?_⟩
                      replace HO_6 := am_ (Kd.S_below (by (with_reducible repeat (first | apply Kd.S_alloc | apply Kd.S_drewN | apply Kd.S_drew)); exact HO_6.out) hb)
                      replace HO_9 := am_ (Kd.R_below (Sh.rl HO_9.out) hb)
                      replace BK135 := Sh.ab BK135 hb
                      replace BK137 := Sh.ab BK137 hb
                      replace HB := Sh.hb hb
                      (try clear hb)
                      (try clear hb2)
                      (try clear hk)
                      (try clear hi)
                      obtain ⟨Ao52, co52, eo52⟩ := Kd.S_slice HO_6.out
                      (first | subst eo52 | (injection eo52 with f1_ f2_ f3_; have f4_ := f1_.symm; have f5_ := f3_.symm; clear f1_ f2_ f3_; subst f4_; subst f5_))
                      refine Sh.kN hK ⟨(blk_cell BK135.out 0).trans rfl, (blk_cell BK135.out 1).trans rfl, HS2_⟩ fun hHeld => ?_
                      clear hK K
                      refine one_ (i := 14) (N := some 74) (Sh.nm 17 32767) rfl rfl (one_of HT_.out (by kernel_rfl)) (by decide) (fun K hK => ?_)
                      refine goes_ Try.func35 (by kernel_rfl) rfl #[.slice (some ad136) l0.length c0, .slice Ao52 x6_1.length co52, .int .i64 x23_1, .int .i64 t149, .int .i64 x12_4, .int .i64 ji43, .bool (rdOf false x9_4 (ji43))] (by rfl) rfl rfl (by (try simp only [List.map_toArray, List.map_cons, List.map_nil]); first | done | (simp only [hj2]; rfl) | rfl | (simp only [List.length_drop, List.length_take]; rfl)) ?_
                      with_reducible refine (spec_l10Cell.calls k4 _ _ l0 _ _ x6_1 x23_1 t149 x12_4 ji43 (rdOf false x9_4 (ji43)) t151 _ (Sh.cB HR0.out) HC0.out (Sh.cR (Kd.S_reads' HO_6.out).2.2) (Kd.S_reads' HO_6.out).2.1 A46.out).mono ?_
                      rintro e w53 ⟨rfl, hb⟩
                      have HS2_ := (hb.cell (World.block_lt_of_cell? _ _ (hHeld.2.2))).trans (hHeld.2.2)
                      refine ⟨_, rfl, ?_⟩
                      replace HO_6 := am_ (Kd.S_below (by (with_reducible repeat (first | apply Kd.S_alloc | apply Kd.S_drewN | apply Kd.S_drew)); exact HO_6.out) hb)
                      replace HO_9 := am_ (Kd.R_below (Sh.rl HO_9.out) hb)
                      replace BK135 := Sh.ab BK135 hb
                      replace BK137 := Sh.ab BK137 hb
                      replace HB := Sh.hb hb
                      (try clear hb)
                      (try clear hb2)
                      (try clear hk)
                      (try clear hi)
                      have p49 : 0 ≤ (x12_4 : Int) := Sh.od
                      have q49 : (x12_4 : Int) < ((x9_4.length : Int) : Int) := Sh.od
                      obtain ⟨go49, co49, eo49, gb49, gl49, cl49, HG49⟩ := Kd.R_form HO_9.out (by omega)
                      (first | cases eo49 | (injection eo49 with ea_ en_ ec_; (first | subst ea_ | (injection ea_ with ea_; subst ea_)); subst ec_; clear en_))
                      have GB49 := am_ gb49
                      have GG49 := am_ HG49
                      clear gb49 gl49 HG49
                      (first | simp only [add_plain] at hx150_0 | skip)
                      obtain ⟨hx49_0, hf49_0⟩ := Kd.R_celln false HO_9.out (x12_4 : Int) p49 q49
                      replace p49 := eq_true p49
                      replace q49 := eq_true q49
                      have HP54 := Kd.R_putn HO_9.out (x12_4 : Int) t151
                      rw [← Ny152.out] at HP54
                      have HQ54 := am_ HP54
                      clear HP54
                      refine Sh.kN hK ⟨(blk_cell BK135.out 0).trans rfl, (blk_cell BK135.out 1).trans rfl, HS2_⟩ fun hHeld => ?_
                      clear hK K
                      refine Sh.qA 15 ?_
                      refine last_ (i := 16) (N := none) (Sh.nm 17 131071) rfl rfl (one_of HT_.out (by kernel_rfl)) (by decide) (fun K hK => ?_)
                      refine skip_ (w1 := ?_) (by rfl) rfl ?_ ?_
                      rotate_left
                      ·go_simp
                       rfl
                      refine hK.out _ _ ?_
                      clear hK K
                      refine done_ (done_of HT_.out (by kernel_rfl)) ?_
                      try go_wp2
                      (try simp only [← hl9_4])
                      go_roundg k4
                      case measure => have := HK1.out; have := HK2.out; have := HK3.out; have := HK4.out; omega
                      case rel => exact ⟨(y152), (wrap64 (x12_4 - 1)), (Sh.es), H', ⟨by have := HK1.out; have := HK2.out; have := HK3.out; have := HK4.out; omega⟩, ⟨by (try simp only [hl9_2]); (try simp only [hl9_3]); (try simp only [hl9_4]); (with_reducible repeat (first | apply Kd.S_alloc | apply Kd.S_drewN | apply Kd.S_drew)); exact Kd.S_mono (Kd.S_far (p := ⟨go49, (x12_4 : Int).toNat, none⟩) (Kd.S_mono HO_6.out (fun k_ hk => (⟨hk, fun e_ => hk (by rw [e_]; rfl)⟩ : _ ∧ k_ ≠ go49))) (fun _ hk => hk.2) (.bool t151)) (fun _ hk => hk.1)⟩, ⟨by (try simp only [hl9_2]); (try simp only [hl9_3]); (try simp only [hl9_4]); (with_reducible repeat (first | apply Kd.R_alloc | apply Kd.R_drewN | apply Kd.R_drew)); exact HQ54.out⟩, ⟨by (try simp only [hl9_2]); (try simp only [hl9_3]); (try simp only [hl9_4]); refine Sh.pl ?_; refine blk_far ?_ (by have h_ := Kd.R_ne HO_9.out BK135.out (by decide); intro e_; exact h_ (by rw [e_]; rfl)) _; refine Sh.pl ?_; exact BK135.out⟩, ⟨by (try simp only [hl9_2]); (try simp only [hl9_3]); (try simp only [hl9_4]); refine Sh.pl ?_; refine blk_far ?_ (by have h_ := Kd.R_ne HO_9.out BK137.out (by decide); intro e_; exact h_ (by rw [e_]; rfl)) _; refine Sh.pl ?_; exact BK137.out⟩, ⟨Sh.bw⟩⟩
                     ·rw [if_neg c48] at H
                      exact absurd H (by simp)
                    ·rw [if_neg c47] at H
                     exact absurd H (by simp)
                   ·rw [if_neg c45] at H
                    exact absurd H (by simp)
                  ·rw [if_neg c44] at H
                   exact absurd H (by simp)
                ·rw [if_neg c26] at H
                 have c26b0 : decide (0 ≤ x12_4) = false := decide_eq_false c26
                 clear c26
                 have H' := am_ H
                 clear H
                 go_wp2
                 (try simp only [← hl9_3, ← hl9_4])
                 go_roundg k4
                 case measure => have := HK1.out; have := HK2.out; have := HK3.out; have := HK4.out; omega
                 case rel => exact ⟨(x9_4), (wrap64 (x11_3 + 1)), (Sh.es), H', ⟨by have := HK1.out; have := HK2.out; have := HK3.out; have := HK4.out; omega⟩, ⟨by (try simp only [hl9_2]); (try simp only [hl9_3]); (try simp only [hl9_4]); (with_reducible repeat (first | apply Kd.S_alloc | apply Kd.S_drewN | apply Kd.S_drew)); exact HO_6.out⟩, ⟨by (try simp only [hl9_2]); (try simp only [hl9_3]); (try simp only [hl9_4]); (with_reducible repeat (first | apply Kd.R_alloc | apply Kd.R_drewN | apply Kd.R_drew)); exact HO_9.out⟩, ⟨by (try simp only [hl9_2]); (try simp only [hl9_3]); (try simp only [hl9_4]); refine Sh.pl ?_; exact BK135.out⟩, ⟨by (try simp only [hl9_2]); (try simp only [hl9_3]); (try simp only [hl9_4]); refine Sh.pl ?_; exact BK137.out⟩, ⟨Sh.bw⟩⟩
             ·rw [if_neg c25] at H
              have c25b0 := decide_eq_false c25
              clear c25
              by_cases c55 : x6_1.length < 5864062014805
              ·rw [if_pos c55] at H
               have LMc55 := am_ c55
               clear c55
               obtain ⟨y142, hy142⟩ : ∃ y_ : List (List Bool), y_ = (x6_1 ++ [x9_3]) := ⟨_, rfl⟩
               replace H : (spec_l10Table.l0 k3 l0 (ji8) y142 l0 (l0.length : Int) (wrap64 (x23_1 + 1)) l1_0 l1_1) = some r := by first | (rw [hy142]; with_reducible exact H) | (have H2_ := (Option.bind_some _ _).symm.trans H; rw [hy142]; with_reducible exact H2_) | (have H2_ := (Option.bind_some _ _).symm.trans H; with_reducible exact H2_) | with_reducible exact H | (rw [hy142]; exact H) | exact H
               have Ny142 := am_ hy142
               clear hy142
               have H' := am_ H
               clear H
               go_wp2_with (first | ((with_reducible refine gate_builtin (b := .append) (xs := #[.tmp 76, .tmp 78]) rfl ?_); at_builtin; refine Kd.S_append (Kd.slice 4 Kd.bool) (w0 := w) w.heap.size rfl (.tmp 76) (.tmp 78) 55 48 (.slice none 0 0) 24 rfl Try.underlying55 info48 rfl (by decide) (by omega) u6 x6_1 x9_3 [.slice Ao16 x9_3.length co16] (fun _ => True) (fun k_ => some k_ = (.slice Ao16 x9_3.length co16 : Value).ownBlock) rfl rfl ?aP (fun k_ hk_ => ((Kd.R_mono (ok' := fun k_ => ((fun _ => True)) k_ ∧ some k_ ≠ (u6 : Value).ownBlock) (Kd.R_apart' (HO_9.out) (Kd.S_typed HO_6.out) (by decide)) (fun k_ hk => ⟨trivial, hk.2⟩))).1 k_ hk_.symm) ?aF ?aO ?aB ?aS ?aL ?_; (case aP => exact Kd.M_row (Kd.R_mono (Kd.R_tight rfl (Kd.R_mono (ok' := fun k_ => ((fun _ => True)) k_ ∧ some k_ ≠ (u6 : Value).ownBlock) (Kd.R_apart' (HO_9.out) (Kd.S_typed HO_6.out) (by decide)) (fun k_ hk => ⟨trivial, hk.2⟩))) (fun _ h_ => h_))); (case aB => exact Sh.bw); (case aF => exact (fun _ _ => trivial)); (case aO => exact (by (with_reducible repeat (first | apply Kd.S_alloc | apply Kd.S_drewN | apply Kd.S_drew)); exact Kd.S_mono HO_6.out (fun k_ hk => ⟨trivial, fun e_ => hk e_⟩))); (case aS => exact (below_size Sh.bw)); (case aL => have := LMc55.out; omega); intro v143 w56 ho hb hg hat; rw [← Ny142.out] at ho; have n0_ := am_ (blk_grown (g := gb135) (o := .cells #[.slice A1_0 l1_0.length c1_0, .slice A1_1 l1_1.length c1_1] 32 (0, 0)) (Sh.pl BK135.out) hg (Kd.S_ne HO_6.out BK135.out (by decide))); have n1_ := am_ (blk_grown (g := gb137) (o := .cells #[.int .i64 ((rd_T43 l0 x23_1).f0), .int .i64 ((rd_T43 l0 x23_1).f1)] 43 (0, 0)) (Sh.pl BK137.out) hg (Kd.S_ne HO_6.out BK137.out (by decide))); have n2_ := am_ hb; have n3_ := am_ ho; clear BK135; clear BK137; clear HB; clear HO_6; clear HO_9; have BK135 := n0_; have BK137 := n1_; have HB := n2_; have HO144 := n3_; clear n0_ n1_ n2_ n3_; clear ho hb hg hat))
               (try simp only [← hl9_2, ← hl9_3])
               (try simp only [← hj1])
               go_roundg k3
               case measure => have := HK1.out; have := HK2.out; have := HK3.out; omega
               case rel => exact ⟨(y142), (wrap64 (x23_1 + 1)), (Sh.es), ⟨by first | exact H'.out | (rw [hj1]; exact H'.out)⟩, ⟨by have := HK1.out; have := HK2.out; have := HK3.out; omega⟩, ⟨by (try simp only [hl9_2]); (try simp only [hl9_3]); (with_reducible repeat (first | apply Kd.S_alloc | apply Kd.S_drewN | apply Kd.S_drew)); exact HO144.out⟩, ⟨by (try simp only [hl9_2]); (try simp only [hl9_3]); refine Sh.pl ?_; exact BK135.out⟩, ⟨Sh.bw⟩⟩
              ·rw [if_neg c55] at H
               exact absurd H (by simp)
       ·rw [if_neg c10] at H
        exact absurd H (by simp)
      ·rw [if_neg c9] at H
       exact absurd H (by simp)
     ·rw [if_neg c7] at H
      exact absurd H (by simp)
    ·rw [if_neg c6] at H
     exact absurd H (by simp)
   ·rw [if_neg c5] at H
    have c5b0 := decide_eq_false c5
    clear c5
    obtain rfl := Option.some.inj H
    go_wp2
    go_ret
    exact ⟨_, Sh.eR, by (with_reducible repeat (first | apply Kd.S_alloc | apply Kd.S_drewN | apply Kd.S_drew)); exact HO_6.out, Sh.bw⟩
def spec_l10Fold.f (l0_0 : List Int) (l0_1 : List Int) (a1 : Int) : Option (Int) := if a1 < (l0_0.length : Int) then (some a1) else (if (l0_1.length : Int) = 0 then (none) else (some (wrap64 ((l0_0.length : Int) + (Int.tmod (wrap64 (a1 - (l0_0.length : Int))) (l0_1.length : Int))))))
theorem spec_l10Fold.calls (A0_0 : Option Addr) (c0_0 : Nat) (l0_0 : List Int) (A0_1 : Option Addr) (c0_1 : Nat) (l0_1 : List Int) (a1 : Int) (r : Int) (w : World) (hr0_0 : Kd.C (Kd.int .i64) w A0_0 l0_0.length l0_0) (hc0_0 : l0_0.length ≤ c0_0) (hr0_1 : Kd.C (Kd.int .i64) w A0_1 l0_1.length l0_1) (hc0_1 : l0_1.length ≤ c0_1) (h : spec_l10Fold.f l0_0 l0_1 a1 = some r) :
  Calls Try.prog 29 #[.agg #[.slice A0_0 l0_0.length c0_0, .slice A0_1 l0_1.length c0_1], .int .i64 a1] w fun e w' => e = .returned (.int .i64 r) ∧ Below w.heap.size w w' := by
 have hu32 := Try.underlying32
 have HR0_0 := am_ hr0_0
 have HC0_0 := am_ hc0_0
 clear hr0_0 hc0_0
 have HR0_1 := am_ hr0_1
 have HC0_1 := am_ hc0_1
 clear hr0_1 hc0_1
 have HB := am_ (Below.refl w.heap.size w)
 have H := h
 clear h
 unfold spec_l10Fold.f at H
 by_cases c3 : a1 < (l0_0.length : Int)
 ·rw [if_pos c3] at H
  have c3b0 := decide_eq_true c3
  clear c3
  obtain rfl := Option.some.inj H
  go_enter Try.func29, Try.ntmps29
  go_wp2_with (first | ((with_reducible refine Sh.d 2 ?_); refine Sh.bz w (N := 2) (cs := #[.slice A0_0 l0_0.length c0_0, .slice A0_1 l0_1.length c0_1]) (t := 32) (h := ?_); clear HB; intro gb153 w4 BK153 GE153 HB; obtain ⟨hcz5_0, hcz5_1, hfz5_0, hfz5_1⟩ := Sh.b2 BK153.out))
  repeat (go_quiet (first | ((with_reducible refine Sh.d 2 ?_); refine Sh.bz w (N := 2) (cs := #[.slice A0_0 l0_0.length c0_0, .slice A0_1 l0_1.length c0_1]) (t := 32) (h := ?_); clear HB; intro gb153 w4 BK153 GE153 HB; obtain ⟨hcz5_0, hcz5_1, hfz5_0, hfz5_1⟩ := Sh.b2 BK153.out)); try go_wp2_with (first | ((with_reducible refine Sh.d 2 ?_); refine Sh.bz w (N := 2) (cs := #[.slice A0_0 l0_0.length c0_0, .slice A0_1 l0_1.length c0_1]) (t := 32) (h := ?_); clear HB; intro gb153 w4 BK153 GE153 HB; obtain ⟨hcz5_0, hcz5_1, hfz5_0, hfz5_1⟩ := Sh.b2 BK153.out)))
  go_ret
  exact ⟨Sh.eR, Sh.bw⟩
 ·rw [if_neg c3] at H
  have c3b0 := decide_eq_false c3
  clear c3
  by_cases c6 : (l0_1.length : Int) = 0
  ·rw [if_pos c6] at H
   exact absurd H (by simp)
  ·rw [if_neg c6] at H
   have c6b0 : ((l0_1.length : Int) == 0) = false := beq_eq_false_iff_ne.mpr c6
   have c6b1 : ((l0_1.length : Int) != 0) = true := bne_iff_ne.mpr c6
   have c6b2 : ¬ (l0_1 = []) := fun h_ => c6 (by rw [h_]; rfl)
   obtain rfl := Option.some.inj H
   go_enter Try.func29, Try.ntmps29
   go_wp2_with (first | ((with_reducible refine Sh.d 2 ?_); refine Sh.bz w (N := 2) (cs := #[.slice A0_0 l0_0.length c0_0, .slice A0_1 l0_1.length c0_1]) (t := 32) (h := ?_); clear HB; intro gb153 w7 BK153 GE153 HB; obtain ⟨hcz8_0, hcz8_1, hfz8_0, hfz8_1⟩ := Sh.b2 BK153.out))
   repeat (go_quiet (first | ((with_reducible refine Sh.d 2 ?_); refine Sh.bz w (N := 2) (cs := #[.slice A0_0 l0_0.length c0_0, .slice A0_1 l0_1.length c0_1]) (t := 32) (h := ?_); clear HB; intro gb153 w7 BK153 GE153 HB; obtain ⟨hcz8_0, hcz8_1, hfz8_0, hfz8_1⟩ := Sh.b2 BK153.out)); try go_wp2_with (first | ((with_reducible refine Sh.d 2 ?_); refine Sh.bz w (N := 2) (cs := #[.slice A0_0 l0_0.length c0_0, .slice A0_1 l0_1.length c0_1]) (t := 32) (h := ?_); clear HB; intro gb153 w7 BK153 GE153 HB; obtain ⟨hcz8_0, hcz8_1, hfz8_0, hfz8_1⟩ := Sh.b2 BK153.out)))
   go_ret
   exact ⟨Sh.eR, Sh.bw⟩
end Go.Proofs.Ytgcglmkkfkjhhaa.P
