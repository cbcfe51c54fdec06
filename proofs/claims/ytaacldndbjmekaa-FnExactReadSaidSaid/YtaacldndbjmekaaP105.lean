/- Go functions of this seat as Lean functions, and the proofs that the calls come to what these say; printed by a program of this session. No condition. -/
import Derived.Test.YtaacldndbjmekaaP0
namespace Go.Proofs.Ytaacldndbjmekaa.P
open Go.RowKit Go.Proofs.YtaacldndbjmekaaW.PrintWords Go.Proofs.YtaacldndbjmekaaW.PrintLast Go.Proofs.YtaacldndbjmekaaW.PrintMore Go.Proofs.Ytaacldndbjmekaa.Hof
attribute [local go_sem] max2_int min2_int max_two min_two max_three min_three max_four min_four   -- for this text's walks alone
set_option linter.unusedVariables false
set_option linter.unusedSimpArgs false

/-! ### spec_l10Read: function 68 -/
mutual
def spec_l10Read.j0 : Nat → ByteArray → Int → Int → Int → Bool → Option ((List (S59)) × Int × Bool)
 | 0, _, _, _, _, _ => none
 | k + 1, x0, x1, x7, x28, x29 => if x29 = true then (some ((([(⟨1, (x7 - 112) % 256⟩ : S59)] : List (S59))), wrap64 (x1 + 1), true)) else (if x28 = 48 then (spec_l10Read.j1 k x0 x1 x7 x28 (x28 == 48)) else (spec_l10Read.j1 k x0 x1 x7 x28 (x28 == 49)))
def spec_l10Read.j1 : Nat → ByteArray → Int → Int → Int → Bool → Option ((List (S59)) × Int × Bool)
 | 0, _, _, _, _, _ => none
 | k + 1, x0, x1, x7, x28, x40 => if x40 = true then (some ((([(⟨2, (x7 - 48) % 256⟩ : S59)] : List (S59))), wrap64 (x1 + 1), true)) else (if x28 = 33 then (spec_l10Read.j2 k x0 x1 x7 x28 (x28 == 33)) else (spec_l10Read.j2 k x0 x1 x7 x28 (x28 == 88)))
def spec_l10Read.j2 : Nat → ByteArray → Int → Int → Int → Bool → Option ((List (S59)) × Int × Bool)
 | 0, _, _, _, _, _ => none
 | k + 1, x0, x1, x7, x28, x50 => if x50 = true then ((spec_l10Read.f k x0 (wrap64 (x1 + 1))).bind fun bt733 => (if x7 = 88 then (if bt733.1.length < 8796093022208 then (some ((bt733.1 ++ [(⟨4, 0⟩ : S59)]), bt733.2.1, bt733.2.2)) else (none)) else (if bt733.1.length < 8796093022208 then (some ((bt733.1 ++ [(⟨3, 0⟩ : S59)]), bt733.2.1, bt733.2.2)) else (none)))) else (if x28 = 40 then ((spec_l10Read.f k x0 (wrap64 (x1 + 1))).bind fun bt744 => (if bt744.2.2 = true then (spec_l10Read.j3 k x0 bt744.1 bt744.2.1 (bt744.2.1 == (x0.size : Int))) else (spec_l10Read.j3 k x0 bt744.1 bt744.2.1 true))) else (some (([] : List (S59)), x1, false)))
def spec_l10Read.j3 : Nat → ByteArray → List (S59) → Int → Bool → Option ((List (S59)) × Int × Bool)
 | 0, _, _, _, _ => none
 | k + 1, x0, x12, x13, x87 => if x87 = true then (some (([] : List (S59)), x13, false)) else (spec_l10Read.l0 k x0 x12 x13 0 5)
def spec_l10Read.l0 : Nat → ByteArray → List (S59) → Int → Int → Int → Option ((List (S59)) × Int × Bool)
 | 0, _, _, _, _, _ => none
 | k + 1, x0, x12, x13, x15, x16 => if x16 ≤ 8 then (if 0 ≤ (wrap64 (x16 - 5)) then (if (wrap64 (x16 - 5)) < 4 then (if 0 ≤ x13 then (if x13 < (x0.size : Int) then (if (bt (⟨#[38, 124, 85, 82]⟩ : ByteArray) (wrap64 (x16 - 5))) = (bt x0 x13) then (spec_l10Read.l0 k x0 x12 x13 x16 (wrap64 (x16 + 1))) else (spec_l10Read.l0 k x0 x12 x13 x15 (wrap64 (x16 + 1)))) else (none)) else (none)) else (none)) else (none)) else (if x15 = 0 then (some (([] : List (S59)), x13, false)) else ((spec_l10Read.f k x0 (wrap64 (x13 + 1))).bind fun bt749 => (if bt749.2.2 = true then (if bt749.2.1 = (x0.size : Int) then (some (([] : List (S59)), bt749.2.1, false)) else (if 0 ≤ bt749.2.1 then (if bt749.2.1 < (x0.size : Int) then (if (bt x0 bt749.2.1) = 41 then (if x12.length + bt749.1.length < 8796093022208 then ((some (x12 ++ bt749.1 : List (S59))).bind fun y754 => (if y754.length < 8796093022208 then (some ((y754 ++ [(⟨x15, 0⟩ : S59)]), wrap64 (bt749.2.1 + 1), true)) else (none))) else (none)) else (some (([] : List (S59)), bt749.2.1, false))) else (none)) else (none))) else (some (([] : List (S59)), bt749.2.1, false)))))
def spec_l10Read.f : Nat → ByteArray → Int → Option ((List (S59)) × Int × Bool)
 | 0, _, _ => none
 | k + 1, a0, a1 => if a1 = (a0.size : Int) then (some (([] : List (S59)), a1, false)) else (if 0 ≤ a1 then (if a1 < (a0.size : Int) then (if (bt a0 a1) = 112 then (spec_l10Read.j0 k a0 a1 (bt a0 a1) (bt a0 a1) ((bt a0 a1) == 112)) else (if (bt a0 a1) = 113 then (spec_l10Read.j0 k a0 a1 (bt a0 a1) (bt a0 a1) ((bt a0 a1) == 113)) else (spec_l10Read.j0 k a0 a1 (bt a0 a1) (bt a0 a1) ((bt a0 a1) == 114)))) else (none)) else (none))
end
theorem spec_l10Read.mono_l : ∀ k, (∀ y0 y1, LeO (spec_l10Read.f k y0 y1) (spec_l10Read.f (k + 1) y0 y1)) ∧ (∀ y0 y1 y2 y3 y4, LeO (spec_l10Read.j0 k y0 y1 y2 y3 y4) (spec_l10Read.j0 (k + 1) y0 y1 y2 y3 y4)) ∧ (∀ y0 y1 y2 y3 y4, LeO (spec_l10Read.j1 k y0 y1 y2 y3 y4) (spec_l10Read.j1 (k + 1) y0 y1 y2 y3 y4)) ∧ (∀ y0 y1 y2 y3 y4, LeO (spec_l10Read.j2 k y0 y1 y2 y3 y4) (spec_l10Read.j2 (k + 1) y0 y1 y2 y3 y4)) ∧ (∀ y0 y1 y2 y3, LeO (spec_l10Read.j3 k y0 y1 y2 y3) (spec_l10Read.j3 (k + 1) y0 y1 y2 y3)) ∧ (∀ y0 y1 y2 y3 y4, LeO (spec_l10Read.l0 k y0 y1 y2 y3 y4) (spec_l10Read.l0 (k + 1) y0 y1 y2 y3 y4))
 | 0 => ⟨fun _ _ r h => by simp [spec_l10Read.f] at h, fun _ _ _ _ _ r h => by simp [spec_l10Read.j0] at h, fun _ _ _ _ _ r h => by simp [spec_l10Read.j1] at h, fun _ _ _ _ _ r h => by simp [spec_l10Read.j2] at h, fun _ _ _ _ r h => by simp [spec_l10Read.j3] at h, fun _ _ _ _ _ r h => by simp [spec_l10Read.l0] at h⟩
 | k + 1 => by
  obtain ⟨ih0, ih1, ih2, ih3, ih4, ih5⟩ := spec_l10Read.mono_l k
  and_intros <;> intros
  all_goals (first | unfold spec_l10Read.f | unfold spec_l10Read.j0 | unfold spec_l10Read.j1 | unfold spec_l10Read.j2 | unfold spec_l10Read.j3 | unfold spec_l10Read.l0)
  all_goals repeat' with_reducible first | apply ih0 | apply ih1 | apply ih2 | apply ih3 | apply ih4 | apply ih5 | exact LeO.refl _ | exact LeO.none _ | apply LeO.ite | refine LeO.bind ?_ fun _ => ?_
theorem spec_l10Read.mono : ∀ a0 a1 k, LeO (spec_l10Read.f k a0 a1) (spec_l10Read.f (k + 1) a0 a1) := by
 intro a0 a1 k
 obtain ⟨ih0, ih1, ih2, ih3, ih4, ih5⟩ := spec_l10Read.mono_l k
 exact ih0 a0 a1
set_option maxHeartbeats 8000000 in
set_option maxRecDepth 100000 in
theorem spec_l10Read.calls (k : Nat) : ∀ (a0 : ByteArray) (a1 : Int) (r1 : List (S59)) (r2 : Int) (r3 : Bool) (w : World) (h : spec_l10Read.f k a0 a1 = some (r1, r2, r3)),
  Calls Try.prog 68 #[.string a0, .int .i64 a1] w fun e w' => ∃ v0_ : Value, e = .returned (.tuple #[v0_, .int .i64 r2, .bool r3]) ∧ Kd.R k59 59 w' w.heap.size (fun _ => True) v0_ r1 ∧ Below w.heap.size w w' := by
 induction k using Nat.strongRecOn with
 | _ k ih =>
 intro a0 a1 r1 r2 r3 w h
 cases k with
 | zero => exact absurd h (by simp [spec_l10Read.f])
 | succ k =>
 simp only [spec_l10Read.f] at h
 have hu59 := Try.underlying59
 have HB := am_ (Below.refl w.heap.size w)
 have H : (if a1 = (a0.size : Int) then (some (([] : List (S59)), a1, false)) else (if 0 ≤ a1 then (if a1 < (a0.size : Int) then (if (bt a0 a1) = 112 then (spec_l10Read.j0 k a0 a1 (bt a0 a1) (bt a0 a1) ((bt a0 a1) == 112)) else (if (bt a0 a1) = 113 then (spec_l10Read.j0 k a0 a1 (bt a0 a1) (bt a0 a1) ((bt a0 a1) == 113)) else (spec_l10Read.j0 k a0 a1 (bt a0 a1) (bt a0 a1) ((bt a0 a1) == 114)))) else (none)) else (none))) = some (r1, r2, r3) := h
 clear h
 by_cases c3 : a1 = (a0.size : Int)
 ·rw [if_pos c3] at H
  have c3b0 : (a1 == (a0.size : Int)) = true := beq_iff_eq.mpr c3
  have c3b1 : (a1 != (a0.size : Int)) = false := bne_eq_false_iff_eq.mpr c3
  clear c3
  simp only [Option.some.injEq, Prod.mk.injEq] at H
  obtain ⟨rfl, rfl, rfl⟩ := H
  go_enter Try.func68, Try.ntmps68
  go_wp2
  repeat (go_quiet (fail); try go_wp2)
  go_ret3
  exact ⟨_, Sh.eR, by first | exact Kd.R_nil _ _ _ _ _ | exact Kd.N_nil _ _ _ _ _ | exact Kd.V_nil _ _ _ _ _ | exact Kd.Q_nil _ _ _ _ _ | exact Kd.S_nil _ _ _ _ _, Sh.bw⟩
 ·rw [if_neg c3] at H
  have c3b0 : (a1 == (a0.size : Int)) = false := beq_eq_false_iff_ne.mpr c3
  have c3b1 : (a1 != (a0.size : Int)) = true := bne_iff_ne.mpr c3
  by_cases c4 : 0 ≤ a1
  ·rw [if_pos c4] at H
   have c4b0 := decide_eq_true c4
   clear c4
   by_cases c5 : a1 < (a0.size : Int)
   ·rw [if_pos c5] at H
    have c5b0 := decide_eq_true c5
    clear c5
    have HC7 := am_ H
    clear H
    have p6 : 0 ≤ (a1 : Int) := Sh.od
    have q6 : a1 < (a0.size : Int) := Sh.od
    have hx6 := bt_at a0 a1
    replace p6 := eq_true p6
    replace q6 := eq_true q6
    go_enter Try.func68, Try.ntmps68
    go_upto_if 29 with (fail)
    repeat (go_quiet (fail); go_upto_if 29 with (fail))
    go_cut [29] (fun v29 wc => ∃ (kq : Nat) (x29_6 : Bool), v29 = .bool x29_6 ∧ Aside0 (spec_l10Read.j0 kq a0 a1 (bt a0 a1) (bt a0 a1) x29_6 = some (r1, r2, r3)) ∧ Aside0 (kq ≤ k) ∧ Aside0 (Below w.heap.size w wc))
    case first =>
     have H := HC7.out
     clear HC7
     by_cases c8 : (bt a0 a1) = 112
     ·rw [if_pos c8] at H
      have c8b0 : ((bt a0 a1) == 112) = true := beq_iff_eq.mpr c8
      have c8b1 : ((bt a0 a1) != 112) = false := bne_eq_false_iff_eq.mpr c8
      clear c8
      first | rw [c8b0] | (simp only [i64_w, i32_w]; rw [c8b0]) | skip
      have H' := am_ H
      clear H
      go_wp2
      repeat (go_quiet (fail); try go_wp2)
      go_meet
      case rel => exact ⟨_, (((bt a0 a1) == 112)), (Sh.es), H', ⟨Sh.om⟩, ⟨Sh.bw⟩⟩
     ·rw [if_neg c8] at H
      have c8b0 : ((bt a0 a1) == 112) = false := beq_eq_false_iff_ne.mpr c8
      have c8b1 : ((bt a0 a1) != 112) = true := bne_iff_ne.mpr c8
      first | rw [c8b0] | (simp only [i64_w, i32_w]; rw [c8b0]) | skip
      by_cases c9 : (bt a0 a1) = 113
      ·rw [if_pos c9] at H
       have c9b0 : ((bt a0 a1) == 113) = true := beq_iff_eq.mpr c9
       have c9b1 : ((bt a0 a1) != 113) = false := bne_eq_false_iff_eq.mpr c9
       clear c9
       have H' := am_ H
       clear H
       go_wp2
       repeat (go_quiet (fail); try go_wp2)
       go_meet
       case rel => exact ⟨_, (((bt a0 a1) == 113)), (Sh.es), H', ⟨Sh.om⟩, ⟨Sh.bw⟩⟩
      ·rw [if_neg c9] at H
       have c9b0 : ((bt a0 a1) == 113) = false := beq_eq_false_iff_ne.mpr c9
       have c9b1 : ((bt a0 a1) != 113) = true := bne_iff_ne.mpr c9
       have H' := am_ H
       clear H
       go_wp2
       repeat (go_quiet (fail); try go_wp2)
       go_meet
       case rel => exact ⟨_, (((bt a0 a1) == 114)), (Sh.es), H', ⟨Sh.om⟩, ⟨Sh.bw⟩⟩
    case rest =>
     clear HC7
     try clear hx6
     obtain ⟨kq, x29_6, rfl, HA, HJ6, HB⟩ := hcut
     cases kq with
     | zero => exact absurd HA.out (by simp [spec_l10Read.j0])
     | succ kj6 =>
      have H := HA.out
      clear HA
      simp only [spec_l10Read.j0] at H
      by_cases c10 : x29_6 = true
      ·subst c10
       rw [if_pos rfl] at H
       obtain ⟨y727, hy727⟩ : ∃ y_ : List (S59), y_ = (([(⟨1, ((bt a0 a1) - 112) % 256⟩ : S59)] : List (S59))) := ⟨_, rfl⟩
       replace H : (some (y727, wrap64 (a1 + 1), true)) = some (r1, r2, r3) := by first | (rw [hy727]; with_reducible exact H) | (have H2_ := (Option.bind_some _ _).symm.trans H; rw [hy727]; with_reducible exact H2_) | (have H2_ := (Option.bind_some _ _).symm.trans H; with_reducible exact H2_) | with_reducible exact H | (rw [hy727]; exact H) | exact H
       have Ny727 := am_ hy727
       clear hy727
       simp only [Option.some.injEq, Prod.mk.injEq] at H
       obtain ⟨rfl, rfl, rfl⟩ := H
       go_wp2_with (first | ((with_reducible refine Sh.d 37 ?_); (try (refine gate_guard (by rfl) ?_; dsimp only)); refine Kd.R_lit k59 _ 59 ?hg (N := 37) ?hd (xs := ([(⟨1, ((bt a0 a1) - 112) % 256⟩ : S59)] : List (S59))) (inner := [.int .i64 1, .int .i64 (((bt a0 a1) - 112) % 256)]) (ok := fun _ => True) (okp := fun _ => True) ?hr ?hp (fun _ hk => hk) trivial (Below.refl _ _) (Nat.le_refl _) (by simp) ?_; (case hd => rfl); (case hg => rfl); (case hr => first | (go_simp; done) | (go_simp; rfl)); (case hp => exact (Reps.c2 (show Kd.M k59 _ _ _ (⟨1, ((bt a0 a1) - 112) % 256⟩ : S59) [.int .i64 1, .int .i64 (((bt a0 a1) - 112) % 256)] from (k59_mkM _ _ _ (⟨1, ((bt a0 a1) - 112) % 256⟩ : S59) )) (Reps.none _ _))); intro v728 w11 ho12 hb hg_ hnew_; clear hg_ hnew_; (first | rw [← Ny727.out] at ho12 | (simp only [Int.reduceToNat] at ho12; rw [← Ny727.out] at ho12)); have HO729 := am_ (Kd.R_lower ho12 (below_size Sh.bw)); replace HB := Sh.hb hb; clear hb ho12))
       repeat (go_quiet (first | ((with_reducible refine Sh.d 37 ?_); (try (refine gate_guard (by rfl) ?_; dsimp only)); refine Kd.R_lit k59 _ 59 ?hg (N := 37) ?hd (xs := ([(⟨1, ((bt a0 a1) - 112) % 256⟩ : S59)] : List (S59))) (inner := [.int .i64 1, .int .i64 (((bt a0 a1) - 112) % 256)]) (ok := fun _ => True) (okp := fun _ => True) ?hr ?hp (fun _ hk => hk) trivial (Below.refl _ _) (Nat.le_refl _) (by simp) ?_; (case hd => rfl); (case hg => rfl); (case hr => first | (go_simp; done) | (go_simp; rfl)); (case hp => exact (Reps.c2 (show Kd.M k59 _ _ _ (⟨1, ((bt a0 a1) - 112) % 256⟩ : S59) [.int .i64 1, .int .i64 (((bt a0 a1) - 112) % 256)] from (k59_mkM _ _ _ (⟨1, ((bt a0 a1) - 112) % 256⟩ : S59) )) (Reps.none _ _))); intro v728 w11 ho12 hb hg_ hnew_; clear hg_ hnew_; (first | rw [← Ny727.out] at ho12 | (simp only [Int.reduceToNat] at ho12; rw [← Ny727.out] at ho12)); have HO729 := am_ (Kd.R_lower ho12 (below_size Sh.bw)); replace HB := Sh.hb hb; clear hb ho12)); try go_wp2_with (first | ((with_reducible refine Sh.d 37 ?_); (try (refine gate_guard (by rfl) ?_; dsimp only)); refine Kd.R_lit k59 _ 59 ?hg (N := 37) ?hd (xs := ([(⟨1, ((bt a0 a1) - 112) % 256⟩ : S59)] : List (S59))) (inner := [.int .i64 1, .int .i64 (((bt a0 a1) - 112) % 256)]) (ok := fun _ => True) (okp := fun _ => True) ?hr ?hp (fun _ hk => hk) trivial (Below.refl _ _) (Nat.le_refl _) (by simp) ?_; (case hd => rfl); (case hg => rfl); (case hr => first | (go_simp; done) | (go_simp; rfl)); (case hp => exact (Reps.c2 (show Kd.M k59 _ _ _ (⟨1, ((bt a0 a1) - 112) % 256⟩ : S59) [.int .i64 1, .int .i64 (((bt a0 a1) - 112) % 256)] from (k59_mkM _ _ _ (⟨1, ((bt a0 a1) - 112) % 256⟩ : S59) )) (Reps.none _ _))); intro v728 w11 ho12 hb hg_ hnew_; clear hg_ hnew_; (first | rw [← Ny727.out] at ho12 | (simp only [Int.reduceToNat] at ho12; rw [← Ny727.out] at ho12)); have HO729 := am_ (Kd.R_lower ho12 (below_size Sh.bw)); replace HB := Sh.hb hb; clear hb ho12)))
       go_ret3
       exact ⟨_, Sh.eR, Sh.rl HO729.out, Sh.bw⟩
      ·replace c10 := Bool.eq_false_iff.mpr c10
       subst c10
       rw [Sh.nf] at H
       have HC13 := am_ H
       clear H
       go_upto_if 40 with (fail)
       repeat (go_quiet (fail); go_upto_if 40 with (fail))
       go_cut [40] (fun v40 wc => ∃ (kq : Nat) (x40_12 : Bool), v40 = .bool x40_12 ∧ Aside0 (spec_l10Read.j1 kq a0 a1 (bt a0 a1) (bt a0 a1) x40_12 = some (r1, r2, r3)) ∧ Aside0 (kq ≤ kj6) ∧ Aside0 (Below w.heap.size w wc))
       case first =>
        have H := HC13.out
        clear HC13
        by_cases c14 : (bt a0 a1) = 48
        ·rw [if_pos c14] at H
         have c14b0 : ((bt a0 a1) == 48) = true := beq_iff_eq.mpr c14
         have c14b1 : ((bt a0 a1) != 48) = false := bne_eq_false_iff_eq.mpr c14
         clear c14
         first | rw [c14b0] | (simp only [i64_w, i32_w]; rw [c14b0]) | skip
         have H' := am_ H
         clear H
         go_wp2
         repeat (go_quiet (fail); try go_wp2)
         go_meet
         case rel => exact ⟨_, (((bt a0 a1) == 48)), (Sh.es), H', ⟨by have := HJ6.out; first | omega | exact Nat.le_refl _⟩, ⟨Sh.bw⟩⟩
        ·rw [if_neg c14] at H
         have c14b0 : ((bt a0 a1) == 48) = false := beq_eq_false_iff_ne.mpr c14
         have c14b1 : ((bt a0 a1) != 48) = true := bne_iff_ne.mpr c14
         first | rw [c14b0] | (simp only [i64_w, i32_w]; rw [c14b0]) | skip
         have H' := am_ H
         clear H
         go_wp2
         repeat (go_quiet (fail); try go_wp2)
         go_meet
         case rel => exact ⟨_, (((bt a0 a1) == 49)), (Sh.es), H', ⟨by have := HJ6.out; first | omega | exact Nat.le_refl _⟩, ⟨Sh.bw⟩⟩
       case rest =>
        clear HC13
        try clear hx6
        obtain ⟨kq, x40_12, rfl, HA, HJ12, HB⟩ := hcut
        cases kq with
        | zero => exact absurd HA.out (by simp [spec_l10Read.j1])
        | succ kj12 =>
         have H := HA.out
         clear HA
         simp only [spec_l10Read.j1] at H
         by_cases c15 : x40_12 = true
         ·subst c15
          rw [if_pos rfl] at H
          obtain ⟨y730, hy730⟩ : ∃ y_ : List (S59), y_ = (([(⟨2, ((bt a0 a1) - 48) % 256⟩ : S59)] : List (S59))) := ⟨_, rfl⟩
          replace H : (some (y730, wrap64 (a1 + 1), true)) = some (r1, r2, r3) := by first | (rw [hy730]; with_reducible exact H) | (have H2_ := (Option.bind_some _ _).symm.trans H; rw [hy730]; with_reducible exact H2_) | (have H2_ := (Option.bind_some _ _).symm.trans H; with_reducible exact H2_) | with_reducible exact H | (rw [hy730]; exact H) | exact H
          have Ny730 := am_ hy730
          clear hy730
          simp only [Option.some.injEq, Prod.mk.injEq] at H
          obtain ⟨rfl, rfl, rfl⟩ := H
          go_wp2_with (first | ((with_reducible refine Sh.d 47 ?_); (try (refine gate_guard (by rfl) ?_; dsimp only)); refine Kd.R_lit k59 _ 59 ?hg (N := 47) ?hd (xs := ([(⟨2, ((bt a0 a1) - 48) % 256⟩ : S59)] : List (S59))) (inner := [.int .i64 2, .int .i64 (((bt a0 a1) - 48) % 256)]) (ok := fun _ => True) (okp := fun _ => True) ?hr ?hp (fun _ hk => hk) trivial (Below.refl _ _) (Nat.le_refl _) (by simp) ?_; (case hd => rfl); (case hg => rfl); (case hr => first | (go_simp; done) | (go_simp; rfl)); (case hp => exact (Reps.c2 (show Kd.M k59 _ _ _ (⟨2, ((bt a0 a1) - 48) % 256⟩ : S59) [.int .i64 2, .int .i64 (((bt a0 a1) - 48) % 256)] from (k59_mkM _ _ _ (⟨2, ((bt a0 a1) - 48) % 256⟩ : S59) )) (Reps.none _ _))); intro v731 w16 ho17 hb hg_ hnew_; clear hg_ hnew_; (first | rw [← Ny730.out] at ho17 | (simp only [Int.reduceToNat] at ho17; rw [← Ny730.out] at ho17)); have HO732 := am_ (Kd.R_lower ho17 (below_size Sh.bw)); replace HB := Sh.hb hb; clear hb ho17))
          repeat (go_quiet (first | ((with_reducible refine Sh.d 47 ?_); (try (refine gate_guard (by rfl) ?_; dsimp only)); refine Kd.R_lit k59 _ 59 ?hg (N := 47) ?hd (xs := ([(⟨2, ((bt a0 a1) - 48) % 256⟩ : S59)] : List (S59))) (inner := [.int .i64 2, .int .i64 (((bt a0 a1) - 48) % 256)]) (ok := fun _ => True) (okp := fun _ => True) ?hr ?hp (fun _ hk => hk) trivial (Below.refl _ _) (Nat.le_refl _) (by simp) ?_; (case hd => rfl); (case hg => rfl); (case hr => first | (go_simp; done) | (go_simp; rfl)); (case hp => exact (Reps.c2 (show Kd.M k59 _ _ _ (⟨2, ((bt a0 a1) - 48) % 256⟩ : S59) [.int .i64 2, .int .i64 (((bt a0 a1) - 48) % 256)] from (k59_mkM _ _ _ (⟨2, ((bt a0 a1) - 48) % 256⟩ : S59) )) (Reps.none _ _))); intro v731 w16 ho17 hb hg_ hnew_; clear hg_ hnew_; (first | rw [← Ny730.out] at ho17 | (simp only [Int.reduceToNat] at ho17; rw [← Ny730.out] at ho17)); have HO732 := am_ (Kd.R_lower ho17 (below_size Sh.bw)); replace HB := Sh.hb hb; clear hb ho17)); try go_wp2_with (first | ((with_reducible refine Sh.d 47 ?_); (try (refine gate_guard (by rfl) ?_; dsimp only)); refine Kd.R_lit k59 _ 59 ?hg (N := 47) ?hd (xs := ([(⟨2, ((bt a0 a1) - 48) % 256⟩ : S59)] : List (S59))) (inner := [.int .i64 2, .int .i64 (((bt a0 a1) - 48) % 256)]) (ok := fun _ => True) (okp := fun _ => True) ?hr ?hp (fun _ hk => hk) trivial (Below.refl _ _) (Nat.le_refl _) (by simp) ?_; (case hd => rfl); (case hg => rfl); (case hr => first | (go_simp; done) | (go_simp; rfl)); (case hp => exact (Reps.c2 (show Kd.M k59 _ _ _ (⟨2, ((bt a0 a1) - 48) % 256⟩ : S59) [.int .i64 2, .int .i64 (((bt a0 a1) - 48) % 256)] from (k59_mkM _ _ _ (⟨2, ((bt a0 a1) - 48) % 256⟩ : S59) )) (Reps.none _ _))); intro v731 w16 ho17 hb hg_ hnew_; clear hg_ hnew_; (first | rw [← Ny730.out] at ho17 | (simp only [Int.reduceToNat] at ho17; rw [← Ny730.out] at ho17)); have HO732 := am_ (Kd.R_lower ho17 (below_size Sh.bw)); replace HB := Sh.hb hb; clear hb ho17)))
          go_ret3
          exact ⟨_, Sh.eR, Sh.rl HO732.out, Sh.bw⟩
         ·replace c15 := Bool.eq_false_iff.mpr c15
          subst c15
          rw [Sh.nf] at H
          have HC18 := am_ H
          clear H
          go_upto_if 50 with (fail)
          repeat (go_quiet (fail); go_upto_if 50 with (fail))
          go_cut [50] (fun v50 wc => ∃ (kq : Nat) (x50_17 : Bool), v50 = .bool x50_17 ∧ Aside0 (spec_l10Read.j2 kq a0 a1 (bt a0 a1) (bt a0 a1) x50_17 = some (r1, r2, r3)) ∧ Aside0 (kq ≤ kj12) ∧ Aside0 (Below w.heap.size w wc))
          case first =>
           have H := HC18.out
           clear HC18
           by_cases c19 : (bt a0 a1) = 33
           ·rw [if_pos c19] at H
            have c19b0 : ((bt a0 a1) == 33) = true := beq_iff_eq.mpr c19
            have c19b1 : ((bt a0 a1) != 33) = false := bne_eq_false_iff_eq.mpr c19
            clear c19
            first | rw [c19b0] | (simp only [i64_w, i32_w]; rw [c19b0]) | skip
            have H' := am_ H
            clear H
            go_wp2
            repeat (go_quiet (fail); try go_wp2)
            go_meet
            case rel => exact ⟨_, (((bt a0 a1) == 33)), (Sh.es), H', ⟨by have := HJ6.out; have := HJ12.out; first | omega | exact Nat.le_refl _⟩, ⟨Sh.bw⟩⟩
           ·rw [if_neg c19] at H
            have c19b0 : ((bt a0 a1) == 33) = false := beq_eq_false_iff_ne.mpr c19
            have c19b1 : ((bt a0 a1) != 33) = true := bne_iff_ne.mpr c19
            first | rw [c19b0] | (simp only [i64_w, i32_w]; rw [c19b0]) | skip
            have H' := am_ H
            clear H
            go_wp2
            repeat (go_quiet (fail); try go_wp2)
            go_meet
            case rel => exact ⟨_, (((bt a0 a1) == 88)), (Sh.es), H', ⟨by have := HJ6.out; have := HJ12.out; first | omega | exact Nat.le_refl _⟩, ⟨Sh.bw⟩⟩
          case rest =>
           clear HC18
           try clear hx6
           obtain ⟨kq, x50_17, rfl, HA, HJ17, HB⟩ := hcut
           cases kq with
           | zero => exact absurd HA.out (by simp [spec_l10Read.j2])
           | succ kj17 =>
            have H := HA.out
            clear HA
            simp only [spec_l10Read.j2] at H
            by_cases c20 : x50_17 = true
            ·subst c20
             rw [if_pos rfl] at H
             obtain ⟨⟨t733, t734, t735⟩, A210, H⟩ := Sh.bd H
             have A21 := am_ A210
             clear A210
             by_cases c22 : (bt a0 a1) = 88
             ·rw [if_pos c22] at H
              have c22b0 : ((bt a0 a1) == 88) = true := beq_iff_eq.mpr c22
              have c22b1 : ((bt a0 a1) != 88) = false := bne_eq_false_iff_eq.mpr c22
              clear c22
              by_cases c23 : t733.length < 8796093022208
              ·rw [if_pos c23] at H
               have LMc23 := am_ c23
               clear c23
               obtain ⟨y738, hy738⟩ : ∃ y_ : List (S59), y_ = (t733 ++ [(⟨4, 0⟩ : S59)]) := ⟨_, rfl⟩
               replace H : (some (y738, t734, t735)) = some (r1, r2, r3) := by first | (rw [hy738]; with_reducible exact H) | (have H2_ := (Option.bind_some _ _).symm.trans H; rw [hy738]; with_reducible exact H2_) | (have H2_ := (Option.bind_some _ _).symm.trans H; with_reducible exact H2_) | with_reducible exact H | (rw [hy738]; exact H) | exact H
               have Ny738 := am_ hy738
               clear hy738
               simp only [Option.some.injEq, Prod.mk.injEq] at H
               obtain ⟨rfl, rfl, rfl⟩ := H
               go_wp2_with (first | (go_at_call 68; (with_reducible refine (ih kj17 (by have := HJ6.out; have := HJ12.out; have := HJ17.out; omega) a0 (wrap64 (a1 + 1)) t733 t734 t735 _ A21.out).mono ?_); rintro e w24 ⟨v736, rfl, ho0, hb⟩; have HO737 := am_ (Kd.R_lower ho0 (below_size Sh.bw)); replace HB := Sh.hb hb; (try clear hb); (try clear hb2); (try clear hk); (try clear hi); (try clear ho0)) | ((with_reducible refine gate_builtin (b := .append) (xs := #[.tmp 63, .tmp 66]) rfl ?_); (try (refine gate_guard (by rfl) ?_; dsimp only)); at_builtin; refine Kd.R_append k59 (w0 := w) w.heap.size rfl (.tmp 63) (.tmp 66) 27 59 (.agg #[(.int .i64 0), (.int .i64 0)]) 16 rfl Try.underlying27 info59 rfl (by decide) (by omega) v736 t733 (⟨4, 0⟩ : S59) [.int .i64 4, .int .i64 0] (fun _ => True) (fun _ => False) rfl rfl ?aP (fun _ hk => hk.elim) ?aF ?aO ?aB ?aS ?aL ?_; (case aP => exact k59_mkM _ _ _ (⟨4, 0⟩ : S59)); (case aB => exact Sh.bw); (case aF => exact (fun _ _ => trivial)); (case aO => exact (Sh.rl HO737.out)); (case aS => exact (below_size Sh.bw)); (case aL => have := LMc23.out; omega); intro v739 w25 ho hb hg hat; rw [← Ny738.out] at ho; have n0_ := am_ hb; have n1_ := am_ ho; clear HB; clear HO737; have HB := n0_; have HO740 := n1_; clear n0_ n1_; clear ho hb hg hat))
               repeat (go_quiet (first | (go_at_call 68; (with_reducible refine (ih kj17 (by have := HJ6.out; have := HJ12.out; have := HJ17.out; omega) a0 (wrap64 (a1 + 1)) t733 t734 t735 _ A21.out).mono ?_); rintro e w24 ⟨v736, rfl, ho0, hb⟩; have HO737 := am_ (Kd.R_lower ho0 (below_size Sh.bw)); replace HB := Sh.hb hb; (try clear hb); (try clear hb2); (try clear hk); (try clear hi); (try clear ho0)) | ((with_reducible refine gate_builtin (b := .append) (xs := #[.tmp 63, .tmp 66]) rfl ?_); (try (refine gate_guard (by rfl) ?_; dsimp only)); at_builtin; refine Kd.R_append k59 (w0 := w) w.heap.size rfl (.tmp 63) (.tmp 66) 27 59 (.agg #[(.int .i64 0), (.int .i64 0)]) 16 rfl Try.underlying27 info59 rfl (by decide) (by omega) v736 t733 (⟨4, 0⟩ : S59) [.int .i64 4, .int .i64 0] (fun _ => True) (fun _ => False) rfl rfl ?aP (fun _ hk => hk.elim) ?aF ?aO ?aB ?aS ?aL ?_; (case aP => exact k59_mkM _ _ _ (⟨4, 0⟩ : S59)); (case aB => exact Sh.bw); (case aF => exact (fun _ _ => trivial)); (case aO => exact (Sh.rl HO737.out)); (case aS => exact (below_size Sh.bw)); (case aL => have := LMc23.out; omega); intro v739 w25 ho hb hg hat; rw [← Ny738.out] at ho; have n0_ := am_ hb; have n1_ := am_ ho; clear HB; clear HO737; have HB := n0_; have HO740 := n1_; clear n0_ n1_; clear ho hb hg hat)); try go_wp2_with (first | (go_at_call 68; (with_reducible refine (ih kj17 (by have := HJ6.out; have := HJ12.out; have := HJ17.out; omega) a0 (wrap64 (a1 + 1)) t733 t734 t735 _ A21.out).mono ?_); rintro e w24 ⟨v736, rfl, ho0, hb⟩; have HO737 := am_ (Kd.R_lower ho0 (below_size Sh.bw)); replace HB := Sh.hb hb; (try clear hb); (try clear hb2); (try clear hk); (try clear hi); (try clear ho0)) | ((with_reducible refine gate_builtin (b := .append) (xs := #[.tmp 63, .tmp 66]) rfl ?_); (try (refine gate_guard (by rfl) ?_; dsimp only)); at_builtin; refine Kd.R_append k59 (w0 := w) w.heap.size rfl (.tmp 63) (.tmp 66) 27 59 (.agg #[(.int .i64 0), (.int .i64 0)]) 16 rfl Try.underlying27 info59 rfl (by decide) (by omega) v736 t733 (⟨4, 0⟩ : S59) [.int .i64 4, .int .i64 0] (fun _ => True) (fun _ => False) rfl rfl ?aP (fun _ hk => hk.elim) ?aF ?aO ?aB ?aS ?aL ?_; (case aP => exact k59_mkM _ _ _ (⟨4, 0⟩ : S59)); (case aB => exact Sh.bw); (case aF => exact (fun _ _ => trivial)); (case aO => exact (Sh.rl HO737.out)); (case aS => exact (below_size Sh.bw)); (case aL => have := LMc23.out; omega); intro v739 w25 ho hb hg hat; rw [← Ny738.out] at ho; have n0_ := am_ hb; have n1_ := am_ ho; clear HB; clear HO737; have HB := n0_; have HO740 := n1_; clear n0_ n1_; clear ho hb hg hat)))
               go_ret3
               exact ⟨_, Sh.eR, Sh.rl HO740.out, Sh.bw⟩
              ·rw [if_neg c23] at H
               exact absurd H (by simp)
             ·rw [if_neg c22] at H
              have c22b0 : ((bt a0 a1) == 88) = false := beq_eq_false_iff_ne.mpr c22
              have c22b1 : ((bt a0 a1) != 88) = true := bne_iff_ne.mpr c22
              by_cases c26 : t733.length < 8796093022208
              ·rw [if_pos c26] at H
               have LMc26 := am_ c26
               clear c26
               obtain ⟨y741, hy741⟩ : ∃ y_ : List (S59), y_ = (t733 ++ [(⟨3, 0⟩ : S59)]) := ⟨_, rfl⟩
               replace H : (some (y741, t734, t735)) = some (r1, r2, r3) := by first | (rw [hy741]; with_reducible exact H) | (have H2_ := (Option.bind_some _ _).symm.trans H; rw [hy741]; with_reducible exact H2_) | (have H2_ := (Option.bind_some _ _).symm.trans H; with_reducible exact H2_) | with_reducible exact H | (rw [hy741]; exact H) | exact H
               have Ny741 := am_ hy741
               clear hy741
               simp only [Option.some.injEq, Prod.mk.injEq] at H
               obtain ⟨rfl, rfl, rfl⟩ := H
               go_wp2_with (first | (go_at_call 68; (with_reducible refine (ih kj17 (by have := HJ6.out; have := HJ12.out; have := HJ17.out; omega) a0 (wrap64 (a1 + 1)) t733 t734 t735 _ A21.out).mono ?_); rintro e w27 ⟨v736, rfl, ho0, hb⟩; have HO737 := am_ (Kd.R_lower ho0 (below_size Sh.bw)); replace HB := Sh.hb hb; (try clear hb); (try clear hb2); (try clear hk); (try clear hi); (try clear ho0)) | ((with_reducible refine gate_builtin (b := .append) (xs := #[.tmp 63, .tmp 66]) rfl ?_); (try (refine gate_guard (by rfl) ?_; dsimp only)); at_builtin; refine Kd.R_append k59 (w0 := w) w.heap.size rfl (.tmp 63) (.tmp 66) 27 59 (.agg #[(.int .i64 0), (.int .i64 0)]) 16 rfl Try.underlying27 info59 rfl (by decide) (by omega) v736 t733 (⟨3, 0⟩ : S59) [.int .i64 3, .int .i64 0] (fun _ => True) (fun _ => False) rfl rfl ?aP (fun _ hk => hk.elim) ?aF ?aO ?aB ?aS ?aL ?_; (case aP => exact k59_mkM _ _ _ (⟨3, 0⟩ : S59)); (case aB => exact Sh.bw); (case aF => exact (fun _ _ => trivial)); (case aO => exact (Sh.rl HO737.out)); (case aS => exact (below_size Sh.bw)); (case aL => have := LMc26.out; omega); intro v742 w28 ho hb hg hat; rw [← Ny741.out] at ho; have n0_ := am_ hb; have n1_ := am_ ho; clear HB; clear HO737; have HB := n0_; have HO743 := n1_; clear n0_ n1_; clear ho hb hg hat))
               repeat (go_quiet (first | (go_at_call 68; (with_reducible refine (ih kj17 (by have := HJ6.out; have := HJ12.out; have := HJ17.out; omega) a0 (wrap64 (a1 + 1)) t733 t734 t735 _ A21.out).mono ?_); rintro e w27 ⟨v736, rfl, ho0, hb⟩; have HO737 := am_ (Kd.R_lower ho0 (below_size Sh.bw)); replace HB := Sh.hb hb; (try clear hb); (try clear hb2); (try clear hk); (try clear hi); (try clear ho0)) | ((with_reducible refine gate_builtin (b := .append) (xs := #[.tmp 63, .tmp 66]) rfl ?_); (try (refine gate_guard (by rfl) ?_; dsimp only)); at_builtin; refine Kd.R_append k59 (w0 := w) w.heap.size rfl (.tmp 63) (.tmp 66) 27 59 (.agg #[(.int .i64 0), (.int .i64 0)]) 16 rfl Try.underlying27 info59 rfl (by decide) (by omega) v736 t733 (⟨3, 0⟩ : S59) [.int .i64 3, .int .i64 0] (fun _ => True) (fun _ => False) rfl rfl ?aP (fun _ hk => hk.elim) ?aF ?aO ?aB ?aS ?aL ?_; (case aP => exact k59_mkM _ _ _ (⟨3, 0⟩ : S59)); (case aB => exact Sh.bw); (case aF => exact (fun _ _ => trivial)); (case aO => exact (Sh.rl HO737.out)); (case aS => exact (below_size Sh.bw)); (case aL => have := LMc26.out; omega); intro v742 w28 ho hb hg hat; rw [← Ny741.out] at ho; have n0_ := am_ hb; have n1_ := am_ ho; clear HB; clear HO737; have HB := n0_; have HO743 := n1_; clear n0_ n1_; clear ho hb hg hat)); try go_wp2_with (first | (go_at_call 68; (with_reducible refine (ih kj17 (by have := HJ6.out; have := HJ12.out; have := HJ17.out; omega) a0 (wrap64 (a1 + 1)) t733 t734 t735 _ A21.out).mono ?_); rintro e w27 ⟨v736, rfl, ho0, hb⟩; have HO737 := am_ (Kd.R_lower ho0 (below_size Sh.bw)); replace HB := Sh.hb hb; (try clear hb); (try clear hb2); (try clear hk); (try clear hi); (try clear ho0)) | ((with_reducible refine gate_builtin (b := .append) (xs := #[.tmp 63, .tmp 66]) rfl ?_); (try (refine gate_guard (by rfl) ?_; dsimp only)); at_builtin; refine Kd.R_append k59 (w0 := w) w.heap.size rfl (.tmp 63) (.tmp 66) 27 59 (.agg #[(.int .i64 0), (.int .i64 0)]) 16 rfl Try.underlying27 info59 rfl (by decide) (by omega) v736 t733 (⟨3, 0⟩ : S59) [.int .i64 3, .int .i64 0] (fun _ => True) (fun _ => False) rfl rfl ?aP (fun _ hk => hk.elim) ?aF ?aO ?aB ?aS ?aL ?_; (case aP => exact k59_mkM _ _ _ (⟨3, 0⟩ : S59)); (case aB => exact Sh.bw); (case aF => exact (fun _ _ => trivial)); (case aO => exact (Sh.rl HO737.out)); (case aS => exact (below_size Sh.bw)); (case aL => have := LMc26.out; omega); intro v742 w28 ho hb hg hat; rw [← Ny741.out] at ho; have n0_ := am_ hb; have n1_ := am_ ho; clear HB; clear HO737; have HB := n0_; have HO743 := n1_; clear n0_ n1_; clear ho hb hg hat)))
               go_ret3
               exact ⟨_, Sh.eR, Sh.rl HO743.out, Sh.bw⟩
              ·rw [if_neg c26] at H
               exact absurd H (by simp)
            ·replace c20 := Bool.eq_false_iff.mpr c20
             subst c20
             rw [Sh.nf] at H
             by_cases c29 : (bt a0 a1) = 40
             ·rw [if_pos c29] at H
              have c29b0 : ((bt a0 a1) == 40) = true := beq_iff_eq.mpr c29
              have c29b1 : ((bt a0 a1) != 40) = false := bne_eq_false_iff_eq.mpr c29
              clear c29
              obtain ⟨⟨t744, t745, t746⟩, A300, H⟩ := Sh.bd H
              have A30 := am_ A300
              clear A300
              have HC31 := am_ H
              clear H
              go_upto_region 21 with (first | (go_at_call 68; (with_reducible refine (ih kj17 (by have := HJ6.out; have := HJ12.out; have := HJ17.out; omega) a0 (wrap64 (a1 + 1)) t744 t745 t746 _ A30.out).mono ?_); rintro e w32 ⟨v747, rfl, ho0, hb⟩; have HO748 := am_ (Kd.R_lower ho0 (below_size Sh.bw)); replace HB := Sh.hb hb; (try clear hb); (try clear hb2); (try clear hk); (try clear hi); (try clear ho0)))
              repeat (go_quiet (first | (go_at_call 68; (with_reducible refine (ih kj17 (by have := HJ6.out; have := HJ12.out; have := HJ17.out; omega) a0 (wrap64 (a1 + 1)) t744 t745 t746 _ A30.out).mono ?_); rintro e w32 ⟨v747, rfl, ho0, hb⟩; have HO748 := am_ (Kd.R_lower ho0 (below_size Sh.bw)); replace HB := Sh.hb hb; (try clear hb); (try clear hb2); (try clear hk); (try clear hi); (try clear ho0))); go_upto_region 21 with (first | (go_at_call 68; (with_reducible refine (ih kj17 (by have := HJ6.out; have := HJ12.out; have := HJ17.out; omega) a0 (wrap64 (a1 + 1)) t744 t745 t746 _ A30.out).mono ?_); rintro e w32 ⟨v747, rfl, ho0, hb⟩; have HO748 := am_ (Kd.R_lower ho0 (below_size Sh.bw)); replace HB := Sh.hb hb; (try clear hb); (try clear hb2); (try clear hk); (try clear hi); (try clear ho0))))
              (try simp only [Act.put, List.setIfInBounds_toArray, List.set_cons_zero, List.set_cons_succ])
              go_cut [87] (fun v87 wc => ∃ (kq : Nat) (x87_30 : Bool), v87 = .bool x87_30 ∧ Aside0 (spec_l10Read.j3 kq a0 t744 t745 x87_30 = some (r1, r2, r3)) ∧ Aside0 (kq ≤ kj17) ∧ Aside0 (Kd.R k59 59 wc w.heap.size (fun _ => True) v747 t744) ∧ Aside0 (Below w.heap.size w wc))
              case first =>
               have H := HC31.out
               clear HC31
               by_cases c33 : t746 = true
               ·subst c33
                rw [if_pos rfl] at H
                have H' := am_ H
                clear H
                go_wp2
                repeat (go_quiet (fail); try go_wp2)
                go_meet
                case rel => exact ⟨_, ((t745 == (a0.size : Int))), (Sh.es), H', ⟨by have := HJ6.out; have := HJ12.out; have := HJ17.out; first | omega | exact Nat.le_refl _⟩, ⟨Sh.rl HO748.out⟩, ⟨Sh.bw⟩⟩
               ·replace c33 := Bool.eq_false_iff.mpr c33
                subst c33
                rw [Sh.nf] at H
                have H' := am_ H
                clear H
                go_wp2
                repeat (go_quiet (fail); try go_wp2)
                go_meet
                case rel => exact ⟨_, (true), (Sh.es), H', ⟨by have := HJ6.out; have := HJ12.out; have := HJ17.out; first | omega | exact Nat.le_refl _⟩, ⟨Sh.rl HO748.out⟩, ⟨Sh.bw⟩⟩
              case rest =>
               clear HC31
               try clear hx6
               obtain ⟨kq, x87_30, rfl, HA, HJ30, HO_12, HB⟩ := hcut
               cases kq with
               | zero => exact absurd HA.out (by simp [spec_l10Read.j3])
               | succ kj30 =>
                have H := HA.out
                clear HA
                simp only [spec_l10Read.j3] at H
                by_cases c34 : x87_30 = true
                ·subst c34
                 rw [if_pos rfl] at H
                 simp only [Option.some.injEq, Prod.mk.injEq] at H
                 obtain ⟨rfl, rfl, rfl⟩ := H
                 go_wp2
                 repeat (go_quiet (fail); try go_wp2)
                 go_ret3
                 exact ⟨_, Sh.eR, by first | exact Kd.R_nil _ _ _ _ _ | exact Kd.N_nil _ _ _ _ _ | exact Kd.V_nil _ _ _ _ _ | exact Kd.Q_nil _ _ _ _ _ | exact Kd.S_nil _ _ _ _ _, Sh.bw⟩
                ·replace c34 := Bool.eq_false_iff.mpr c34
                 subst c34
                 rw [Sh.nf] at H
                 have H' := am_ H
                 clear H
                 go_wp2
                 repeat (go_quiet (fail); try go_wp2)
                 go_loopg [15, 16] kj30 (fun kq v15 v16 w' => ∃ (x15_5 : Int) (x16_5 : Int), v15 = .int .i64 x15_5 ∧ v16 = .int .i64 x16_5 ∧ Aside0 (spec_l10Read.l0 kq a0 t744 t745 x15_5 x16_5 = some (r1, r2, r3)) ∧ Aside0 (kq ≤ kj30) ∧ Aside0 (Kd.R k59 59 w' w.heap.size (fun _ => True) v747 t744) ∧ Aside0 (Below w.heap.size w w'))
                 case atStart => exact ⟨(0), (5), (Sh.es), (Sh.es), H', ⟨Nat.le_refl _⟩, ⟨Sh.rl HO_12.out⟩, ⟨Sh.bw⟩⟩
                 case round =>
                  clear H'
                  try clear hx6
                  obtain ⟨x15_5, x16_5, rfl, rfl, HA, HK5, HO_12, HB⟩ := hrel
                  cases gk with
                  | zero => exact absurd HA.out (by simp [spec_l10Read.l0])
                  | succ k5 =>
                   have H := HA.out
                   clear HA
                   simp only [spec_l10Read.l0] at H
                   by_cases c35 : x16_5 ≤ 8
                   ·rw [if_pos c35] at H
                    have c35b0 := decide_eq_true c35
                    clear c35
                    obtain ⟨ji36, hj1⟩ : ∃ j_ : Int, (wrap64 (x16_5 - 5)) = j_ := ⟨_, rfl⟩
                    replace H : (if 0 ≤ (ji36) then (if (ji36) < 4 then (if 0 ≤ t745 then (if t745 < (a0.size : Int) then (if (bt (⟨#[38, 124, 85, 82]⟩ : ByteArray) (ji36)) = (bt a0 t745) then (spec_l10Read.l0 k5 a0 t744 t745 x16_5 (wrap64 (x16_5 + 1))) else (spec_l10Read.l0 k5 a0 t744 t745 x15_5 (wrap64 (x16_5 + 1)))) else (none)) else (none)) else (none)) else (none)) = some (r1, r2, r3) := by first | (rw [hj1] at H; exact H) | (simp only [hj1] at H ⊢; exact H)
                    have hji36w : (IntKind.i64.wrap (x16_5 - 5)) = ji36 := (i64_w _).trans hj1
                    by_cases c37 : 0 ≤ (ji36)
                    ·rw [if_pos c37] at H
                     have c37b0 := decide_eq_true c37
                     clear c37
                     by_cases c38 : (ji36) < 4
                     ·rw [if_pos c38] at H
                      have c38b0 := decide_eq_true c38
                      clear c38
                      by_cases c40 : 0 ≤ t745
                      ·rw [if_pos c40] at H
                       have c40b0 := decide_eq_true c40
                       clear c40
                       by_cases c41 : t745 < (a0.size : Int)
                       ·rw [if_pos c41] at H
                        have c41b0 := decide_eq_true c41
                        clear c41
                        by_cases c43 : (bt (⟨#[38, 124, 85, 82]⟩ : ByteArray) (ji36)) = (bt a0 t745)
                        ·rw [if_pos c43] at H
                         have c43b0 : ((bt (⟨#[38, 124, 85, 82]⟩ : ByteArray) (ji36)) == (bt a0 t745)) = true := beq_iff_eq.mpr c43
                         have c43b1 : ((bt (⟨#[38, 124, 85, 82]⟩ : ByteArray) (ji36)) != (bt a0 t745)) = false := bne_eq_false_iff_eq.mpr c43
                         clear c43
                         have H' := am_ H
                         clear H
                         have p39 : 0 ≤ ((ji36) : Int) := Sh.od
                         have q39 : (ji36) < (4 : Int) := Sh.od
                         have hx39 := bt_at (⟨#[38, 124, 85, 82]⟩ : ByteArray) (ji36)
                         replace p39 := eq_true p39
                         replace q39 := eq_true q39
                         have p42 : 0 ≤ (t745 : Int) := Sh.od
                         have q42 : t745 < (a0.size : Int) := Sh.od
                         have hx42 := bt_at a0 t745
                         replace p42 := eq_true p42
                         replace q42 := eq_true q42
                         go_wp2
                         repeat (go_quiet (fail); try go_wp2)
                         go_roundg k5
                         case measure => have := HJ6.out; have := HJ12.out; have := HJ17.out; have := HJ30.out; have := HK5.out; omega
                         case rel => exact ⟨(x16_5), (wrap64 (x16_5 + 1)), (Sh.es), (Sh.es), H', ⟨by have := HJ6.out; have := HJ12.out; have := HJ17.out; have := HJ30.out; have := HK5.out; omega⟩, ⟨Sh.rl HO_12.out⟩, ⟨Sh.bw⟩⟩
                        ·rw [if_neg c43] at H
                         have c43b0 : ((bt (⟨#[38, 124, 85, 82]⟩ : ByteArray) (ji36)) == (bt a0 t745)) = false := beq_eq_false_iff_ne.mpr c43
                         have c43b1 : ((bt (⟨#[38, 124, 85, 82]⟩ : ByteArray) (ji36)) != (bt a0 t745)) = true := bne_iff_ne.mpr c43
                         have H' := am_ H
                         clear H
                         have p39 : 0 ≤ ((ji36) : Int) := Sh.od
                         have q39 : (ji36) < (4 : Int) := Sh.od
                         have hx39 := bt_at (⟨#[38, 124, 85, 82]⟩ : ByteArray) (ji36)
                         replace p39 := eq_true p39
                         replace q39 := eq_true q39
                         have p42 : 0 ≤ (t745 : Int) := Sh.od
                         have q42 : t745 < (a0.size : Int) := Sh.od
                         have hx42 := bt_at a0 t745
                         replace p42 := eq_true p42
                         replace q42 := eq_true q42
                         go_wp2
                         repeat (go_quiet (fail); try go_wp2)
                         go_roundg k5
                         case measure => have := HJ6.out; have := HJ12.out; have := HJ17.out; have := HJ30.out; have := HK5.out; omega
                         case rel => exact ⟨(x15_5), (wrap64 (x16_5 + 1)), (Sh.es), (Sh.es), H', ⟨by have := HJ6.out; have := HJ12.out; have := HJ17.out; have := HJ30.out; have := HK5.out; omega⟩, ⟨Sh.rl HO_12.out⟩, ⟨Sh.bw⟩⟩
                       ·rw [if_neg c41] at H
                        exact absurd H (by simp)
                      ·rw [if_neg c40] at H
                       exact absurd H (by simp)
                     ·rw [if_neg c38] at H
                      exact absurd H (by simp)
                    ·rw [if_neg c37] at H
                     exact absurd H (by simp)
                   ·rw [if_neg c35] at H
                    have c35b0 := decide_eq_false c35
                    clear c35
                    by_cases c44 : x15_5 = 0
                    ·rw [if_pos c44] at H
                     have c44b0 : (x15_5 == 0) = true := beq_iff_eq.mpr c44
                     have c44b1 : (x15_5 != 0) = false := bne_eq_false_iff_eq.mpr c44
                     clear c44
                     simp only [Option.some.injEq, Prod.mk.injEq] at H
                     obtain ⟨rfl, rfl, rfl⟩ := H
                     go_wp2
                     repeat (go_quiet (fail); try go_wp2)
                     go_ret3
                     exact ⟨_, Sh.eR, by first | exact Kd.R_nil _ _ _ _ _ | exact Kd.N_nil _ _ _ _ _ | exact Kd.V_nil _ _ _ _ _ | exact Kd.Q_nil _ _ _ _ _ | exact Kd.S_nil _ _ _ _ _, Sh.bw⟩
                    ·rw [if_neg c44] at H
                     have c44b0 : (x15_5 == 0) = false := beq_eq_false_iff_ne.mpr c44
                     have c44b1 : (x15_5 != 0) = true := bne_iff_ne.mpr c44
                     obtain ⟨⟨t749, t750, t751⟩, A450, H⟩ := Sh.bd H
                     have A45 := am_ A450
                     clear A450
                     by_cases c46 : t751 = true
                     ·subst c46
                      rw [if_pos rfl] at H
                      by_cases c47 : t750 = (a0.size : Int)
                      ·rw [if_pos c47] at H
                       have c47b0 : (t750 == (a0.size : Int)) = true := beq_iff_eq.mpr c47
                       have c47b1 : (t750 != (a0.size : Int)) = false := bne_eq_false_iff_eq.mpr c47
                       clear c47
                       simp only [Option.some.injEq, Prod.mk.injEq] at H
                       obtain ⟨rfl, rfl, rfl⟩ := H
                       go_wp2_with (first | (go_at_call 68; (with_reducible refine (ih k5 (by have := HJ6.out; have := HJ12.out; have := HJ17.out; have := HJ30.out; have := HK5.out; omega) a0 (wrap64 (t745 + 1)) t749 t750 true _ A45.out).mono ?_); rintro e w48 ⟨v752, rfl, ho0, hb⟩; have HO753 := am_ (Kd.R_lower (Kd.R_new' ho0 (Kd.R_lt (Sh.rl HO_12.out))) (below_size Sh.bw)); replace HO_12 := am_ (Kd.R_elder' (Sh.rl HO_12.out) (Kd.R_base ho0) hb); replace HB := Sh.hb hb; (try clear hb); (try clear hb2); (try clear hk); (try clear hi); (try clear ho0)))
                       repeat (go_quiet (first | (go_at_call 68; (with_reducible refine (ih k5 (by have := HJ6.out; have := HJ12.out; have := HJ17.out; have := HJ30.out; have := HK5.out; omega) a0 (wrap64 (t745 + 1)) t749 t750 true _ A45.out).mono ?_); rintro e w48 ⟨v752, rfl, ho0, hb⟩; have HO753 := am_ (Kd.R_lower (Kd.R_new' ho0 (Kd.R_lt (Sh.rl HO_12.out))) (below_size Sh.bw)); replace HO_12 := am_ (Kd.R_elder' (Sh.rl HO_12.out) (Kd.R_base ho0) hb); replace HB := Sh.hb hb; (try clear hb); (try clear hb2); (try clear hk); (try clear hi); (try clear ho0))); try go_wp2_with (first | (go_at_call 68; (with_reducible refine (ih k5 (by have := HJ6.out; have := HJ12.out; have := HJ17.out; have := HJ30.out; have := HK5.out; omega) a0 (wrap64 (t745 + 1)) t749 t750 true _ A45.out).mono ?_); rintro e w48 ⟨v752, rfl, ho0, hb⟩; have HO753 := am_ (Kd.R_lower (Kd.R_new' ho0 (Kd.R_lt (Sh.rl HO_12.out))) (below_size Sh.bw)); replace HO_12 := am_ (Kd.R_elder' (Sh.rl HO_12.out) (Kd.R_base ho0) hb); replace HB := Sh.hb hb; (try clear hb); (try clear hb2); (try clear hk); (try clear hi); (try clear ho0))))
                       go_ret3
                       exact ⟨_, Sh.eR, by first | exact Kd.R_nil _ _ _ _ _ | exact Kd.N_nil _ _ _ _ _ | exact Kd.V_nil _ _ _ _ _ | exact Kd.Q_nil _ _ _ _ _ | exact Kd.S_nil _ _ _ _ _, Sh.bw⟩
                      ·rw [if_neg c47] at H
                       have c47b0 : (t750 == (a0.size : Int)) = false := beq_eq_false_iff_ne.mpr c47
                       have c47b1 : (t750 != (a0.size : Int)) = true := bne_iff_ne.mpr c47
                       by_cases c49 : 0 ≤ t750
                       ·rw [if_pos c49] at H
                        have c49b0 := decide_eq_true c49
                        clear c49
                        by_cases c50 : t750 < (a0.size : Int)
                        ·rw [if_pos c50] at H
                         have c50b0 := decide_eq_true c50
                         clear c50
                         by_cases c52 : (bt a0 t750) = 41
                         ·rw [if_pos c52] at H
                          have c52b0 : ((bt a0 t750) == 41) = true := beq_iff_eq.mpr c52
                          have c52b1 : ((bt a0 t750) != 41) = false := bne_eq_false_iff_eq.mpr c52
                          clear c52
                          by_cases c53 : t744.length + t749.length < 8796093022208
                          ·rw [if_pos c53] at H
                           have LMc53 := am_ c53
                           clear c53
                           obtain ⟨y754, hy754⟩ : ∃ y_ : List (S59), y_ = (t744 ++ t749) := ⟨_, rfl⟩
                           replace H : (if y754.length < 8796093022208 then (some ((y754 ++ [(⟨x15_5, 0⟩ : S59)]), wrap64 (t750 + 1), true)) else (none)) = some (r1, r2, r3) := by first | (rw [hy754]; with_reducible exact H) | (have H2_ := (Option.bind_some _ _).symm.trans H; rw [hy754]; with_reducible exact H2_) | (have H2_ := (Option.bind_some _ _).symm.trans H; with_reducible exact H2_) | with_reducible exact H | (rw [hy754]; exact H) | exact H
                           have Ny754 := am_ hy754
                           clear hy754
                           by_cases c54 : y754.length < 8796093022208
                           ·rw [if_pos c54] at H
                            have LMc54 := am_ c54
                            clear c54
                            obtain ⟨y757, hy757⟩ : ∃ y_ : List (S59), y_ = (y754 ++ [(⟨x15_5, 0⟩ : S59)]) := ⟨_, rfl⟩
                            replace H : (some (y757, wrap64 (t750 + 1), true)) = some (r1, r2, r3) := by first | (rw [hy757]; with_reducible exact H) | (have H2_ := (Option.bind_some _ _).symm.trans H; rw [hy757]; with_reducible exact H2_) | (have H2_ := (Option.bind_some _ _).symm.trans H; with_reducible exact H2_) | with_reducible exact H | (rw [hy757]; exact H) | exact H
                            have Ny757 := am_ hy757
                            clear hy757
                            simp only [Option.some.injEq, Prod.mk.injEq] at H
                            obtain ⟨rfl, rfl, rfl⟩ := H
                            go_wp2_with (first | (go_at_call 68; (with_reducible refine (ih k5 (by have := HJ6.out; have := HJ12.out; have := HJ17.out; have := HJ30.out; have := HK5.out; omega) a0 (wrap64 (t745 + 1)) t749 t750 true _ A45.out).mono ?_); rintro e w55 ⟨v752, rfl, ho0, hb⟩; have HO753 := am_ (Kd.R_lower (Kd.R_new' ho0 (Kd.R_lt (Sh.rl HO_12.out))) (below_size Sh.bw)); replace HO_12 := am_ (Kd.R_elder' (Sh.rl HO_12.out) (Kd.R_base ho0) hb); replace HB := Sh.hb hb; (try clear hb); (try clear hb2); (try clear hk); (try clear hi); (try clear ho0); have p51 : 0 ≤ (t750 : Int) := Sh.od; have q51 : t750 < (a0.size : Int) := Sh.od; have hx51 := bt_at a0 t750; replace p51 := eq_true p51; replace q51 := eq_true q51; obtain ⟨Ao57, co57, eo57⟩ := Kd.R_slice HO753.out; subst eo57) | ((with_reducible refine gate_builtin (b := .append) (xs := #[.tmp 127, .tmp 128]) rfl ?_); (try (refine gate_guard (by rfl) ?_; dsimp only)); at_builtin; refine Kd.R_append_rows k59 (w0 := w) w.heap.size rfl (.tmp 127) (.tmp 128) 27 59 (.agg #[(.int .i64 0), (.int .i64 0)]) 16 rfl Try.underlying27 info59 rfl (by decide) (by omega) v747 t744 t749 _ _ _ (fun k_ => some k_ ≠ (.slice Ao57 t749.length co57 : Value).ownBlock) (fun _ => False) rfl rfl ?aO ?aR (fun _ _ h => h) (fun _ h => h.elim) ?aF ?aB ?aS ?aL ?_; (case aR => repeat (first | exact (Kd.R_reads' HO753.out).2.2 | (with_reducible first | refine Kd.C_alloc ?_ _ | refine Kd.C_drewN ?_ _ | refine Kd.C_drew ?_))); (case aB => exact Sh.bw); (case aF => exact (fun k_ hk => Kd.fresh' (Kd.R_lt (Sh.rl HO753.out)) k_ hk)); (case aO => exact (Sh.rl (Kd.R_mono HO_12.out (fun _ hk => hk.2)))); (case aS => exact (below_size Sh.bw)); (case aL => have := LMc53.out; omega); intro v755 w56 ho hb hg hat; rw [← Ny754.out] at ho; have n0_ := am_ (Kd.R_after (ok := (fun _ => True)) (Sh.rl HO753.out) hg hat); have n1_ := am_ hb; have n2_ := am_ ho; clear HO753; clear HB; clear HO_12; have HO753 := n0_; have HB := n1_; have HO756 := n2_; clear n0_ n1_ n2_; clear ho hb hg hat) | ((with_reducible refine gate_builtin (b := .append) (xs := #[.tmp 129, .tmp 132]) rfl ?_); (try (refine gate_guard (by rfl) ?_; dsimp only)); at_builtin; refine Kd.R_append k59 (w0 := w) w.heap.size rfl (.tmp 129) (.tmp 132) 27 59 (.agg #[(.int .i64 0), (.int .i64 0)]) 16 rfl Try.underlying27 info59 rfl (by decide) (by omega) v755 y754 (⟨x15_5, 0⟩ : S59) [.int .i64 x15_5, .int .i64 0] (fun k_ => some k_ ≠ (.slice Ao57 t749.length co57 : Value).ownBlock) (fun _ => False) rfl rfl ?aP (fun _ hk => hk.elim) ?aF ?aO ?aB ?aS ?aL ?_; (case aP => exact k59_mkM _ _ _ (⟨x15_5, 0⟩ : S59)); (case aB => exact Sh.bw); (case aF => exact (fun k_ hk => Kd.fresh' (Kd.R_lt (Sh.rl HO753.out)) k_ hk)); (case aO => exact (Sh.rl HO756.out)); (case aS => exact (below_size Sh.bw)); (case aL => have := LMc54.out; omega); intro v758 w58 ho hb hg hat; rw [← Ny757.out] at ho; have n0_ := am_ (Kd.R_after (ok := (fun _ => True)) (Sh.rl HO753.out) hg hat); have n1_ := am_ hb; have n2_ := am_ ho; clear HO753; clear HB; clear HO756; have HO753 := n0_; have HB := n1_; have HO759 := n2_; clear n0_ n1_ n2_; clear ho hb hg hat))
                            repeat (go_quiet (first | (go_at_call 68; (with_reducible refine (ih k5 (by have := HJ6.out; have := HJ12.out; have := HJ17.out; have := HJ30.out; have := HK5.out; omega) a0 (wrap64 (t745 + 1)) t749 t750 true _ A45.out).mono ?_); rintro e w55 ⟨v752, rfl, ho0, hb⟩; have HO753 := am_ (Kd.R_lower (Kd.R_new' ho0 (Kd.R_lt (Sh.rl HO_12.out))) (below_size Sh.bw)); replace HO_12 := am_ (Kd.R_elder' (Sh.rl HO_12.out) (Kd.R_base ho0) hb); replace HB := Sh.hb hb; (try clear hb); (try clear hb2); (try clear hk); (try clear hi); (try clear ho0); have p51 : 0 ≤ (t750 : Int) := Sh.od; have q51 : t750 < (a0.size : Int) := Sh.od; have hx51 := bt_at a0 t750; replace p51 := eq_true p51; replace q51 := eq_true q51; obtain ⟨Ao57, co57, eo57⟩ := Kd.R_slice HO753.out; subst eo57) | ((with_reducible refine gate_builtin (b := .append) (xs := #[.tmp 127, .tmp 128]) rfl ?_); (try (refine gate_guard (by rfl) ?_; dsimp only)); at_builtin; refine Kd.R_append_rows k59 (w0 := w) w.heap.size rfl (.tmp 127) (.tmp 128) 27 59 (.agg #[(.int .i64 0), (.int .i64 0)]) 16 rfl Try.underlying27 info59 rfl (by decide) (by omega) v747 t744 t749 _ _ _ (fun k_ => some k_ ≠ (.slice Ao57 t749.length co57 : Value).ownBlock) (fun _ => False) rfl rfl ?aO ?aR (fun _ _ h => h) (fun _ h => h.elim) ?aF ?aB ?aS ?aL ?_; (case aR => repeat (first | exact (Kd.R_reads' HO753.out).2.2 | (with_reducible first | refine Kd.C_alloc ?_ _ | refine Kd.C_drewN ?_ _ | refine Kd.C_drew ?_))); (case aB => exact Sh.bw); (case aF => exact (fun k_ hk => Kd.fresh' (Kd.R_lt (Sh.rl HO753.out)) k_ hk)); (case aO => exact (Sh.rl (Kd.R_mono HO_12.out (fun _ hk => hk.2)))); (case aS => exact (below_size Sh.bw)); (case aL => have := LMc53.out; omega); intro v755 w56 ho hb hg hat; rw [← Ny754.out] at ho; have n0_ := am_ (Kd.R_after (ok := (fun _ => True)) (Sh.rl HO753.out) hg hat); have n1_ := am_ hb; have n2_ := am_ ho; clear HO753; clear HB; clear HO_12; have HO753 := n0_; have HB := n1_; have HO756 := n2_; clear n0_ n1_ n2_; clear ho hb hg hat) | ((with_reducible refine gate_builtin (b := .append) (xs := #[.tmp 129, .tmp 132]) rfl ?_); (try (refine gate_guard (by rfl) ?_; dsimp only)); at_builtin; refine Kd.R_append k59 (w0 := w) w.heap.size rfl (.tmp 129) (.tmp 132) 27 59 (.agg #[(.int .i64 0), (.int .i64 0)]) 16 rfl Try.underlying27 info59 rfl (by decide) (by omega) v755 y754 (⟨x15_5, 0⟩ : S59) [.int .i64 x15_5, .int .i64 0] (fun k_ => some k_ ≠ (.slice Ao57 t749.length co57 : Value).ownBlock) (fun _ => False) rfl rfl ?aP (fun _ hk => hk.elim) ?aF ?aO ?aB ?aS ?aL ?_; (case aP => exact k59_mkM _ _ _ (⟨x15_5, 0⟩ : S59)); (case aB => exact Sh.bw); (case aF => exact (fun k_ hk => Kd.fresh' (Kd.R_lt (Sh.rl HO753.out)) k_ hk)); (case aO => exact (Sh.rl HO756.out)); (case aS => exact (below_size Sh.bw)); (case aL => have := LMc54.out; omega); intro v758 w58 ho hb hg hat; rw [← Ny757.out] at ho; have n0_ := am_ (Kd.R_after (ok := (fun _ => True)) (Sh.rl HO753.out) hg hat); have n1_ := am_ hb; have n2_ := am_ ho; clear HO753; clear HB; clear HO756; have HO753 := n0_; have HB := n1_; have HO759 := n2_; clear n0_ n1_ n2_; clear ho hb hg hat)); try go_wp2_with (first | (go_at_call 68; (with_reducible refine (ih k5 (by have := HJ6.out; have := HJ12.out; have := HJ17.out; have := HJ30.out; have := HK5.out; omega) a0 (wrap64 (t745 + 1)) t749 t750 true _ A45.out).mono ?_); rintro e w55 ⟨v752, rfl, ho0, hb⟩; have HO753 := am_ (Kd.R_lower (Kd.R_new' ho0 (Kd.R_lt (Sh.rl HO_12.out))) (below_size Sh.bw)); replace HO_12 := am_ (Kd.R_elder' (Sh.rl HO_12.out) (Kd.R_base ho0) hb); replace HB := Sh.hb hb; (try clear hb); (try clear hb2); (try clear hk); (try clear hi); (try clear ho0); have p51 : 0 ≤ (t750 : Int) := Sh.od; have q51 : t750 < (a0.size : Int) := Sh.od; have hx51 := bt_at a0 t750; replace p51 := eq_true p51; replace q51 := eq_true q51; obtain ⟨Ao57, co57, eo57⟩ := Kd.R_slice HO753.out; subst eo57) | ((with_reducible refine gate_builtin (b := .append) (xs := #[.tmp 127, .tmp 128]) rfl ?_); (try (refine gate_guard (by rfl) ?_; dsimp only)); at_builtin; refine Kd.R_append_rows k59 (w0 := w) w.heap.size rfl (.tmp 127) (.tmp 128) 27 59 (.agg #[(.int .i64 0), (.int .i64 0)]) 16 rfl Try.underlying27 info59 rfl (by decide) (by omega) v747 t744 t749 _ _ _ (fun k_ => some k_ ≠ (.slice Ao57 t749.length co57 : Value).ownBlock) (fun _ => False) rfl rfl ?aO ?aR (fun _ _ h => h) (fun _ h => h.elim) ?aF ?aB ?aS ?aL ?_; (case aR => repeat (first | exact (Kd.R_reads' HO753.out).2.2 | (with_reducible first | refine Kd.C_alloc ?_ _ | refine Kd.C_drewN ?_ _ | refine Kd.C_drew ?_))); (case aB => exact Sh.bw); (case aF => exact (fun k_ hk => Kd.fresh' (Kd.R_lt (Sh.rl HO753.out)) k_ hk)); (case aO => exact (Sh.rl (Kd.R_mono HO_12.out (fun _ hk => hk.2)))); (case aS => exact (below_size Sh.bw)); (case aL => have := LMc53.out; omega); intro v755 w56 ho hb hg hat; rw [← Ny754.out] at ho; have n0_ := am_ (Kd.R_after (ok := (fun _ => True)) (Sh.rl HO753.out) hg hat); have n1_ := am_ hb; have n2_ := am_ ho; clear HO753; clear HB; clear HO_12; have HO753 := n0_; have HB := n1_; have HO756 := n2_; clear n0_ n1_ n2_; clear ho hb hg hat) | ((with_reducible refine gate_builtin (b := .append) (xs := #[.tmp 129, .tmp 132]) rfl ?_); (try (refine gate_guard (by rfl) ?_; dsimp only)); at_builtin; refine Kd.R_append k59 (w0 := w) w.heap.size rfl (.tmp 129) (.tmp 132) 27 59 (.agg #[(.int .i64 0), (.int .i64 0)]) 16 rfl Try.underlying27 info59 rfl (by decide) (by omega) v755 y754 (⟨x15_5, 0⟩ : S59) [.int .i64 x15_5, .int .i64 0] (fun k_ => some k_ ≠ (.slice Ao57 t749.length co57 : Value).ownBlock) (fun _ => False) rfl rfl ?aP (fun _ hk => hk.elim) ?aF ?aO ?aB ?aS ?aL ?_; (case aP => exact k59_mkM _ _ _ (⟨x15_5, 0⟩ : S59)); (case aB => exact Sh.bw); (case aF => exact (fun k_ hk => Kd.fresh' (Kd.R_lt (Sh.rl HO753.out)) k_ hk)); (case aO => exact (Sh.rl HO756.out)); (case aS => exact (below_size Sh.bw)); (case aL => have := LMc54.out; omega); intro v758 w58 ho hb hg hat; rw [← Ny757.out] at ho; have n0_ := am_ (Kd.R_after (ok := (fun _ => True)) (Sh.rl HO753.out) hg hat); have n1_ := am_ hb; have n2_ := am_ ho; clear HO753; clear HB; clear HO756; have HO753 := n0_; have HB := n1_; have HO759 := n2_; clear n0_ n1_ n2_; clear ho hb hg hat)))
                            go_ret3
                            exact ⟨_, Sh.eR, Sh.rl (Kd.R_mono HO759.out (fun _ hk => trivial)), Sh.bw⟩
                           ·rw [if_neg c54] at H
                            exact absurd H (by simp)
                          ·rw [if_neg c53] at H
                           exact absurd H (by simp)
                         ·rw [if_neg c52] at H
                          have c52b0 : ((bt a0 t750) == 41) = false := beq_eq_false_iff_ne.mpr c52
                          have c52b1 : ((bt a0 t750) != 41) = true := bne_iff_ne.mpr c52
                          simp only [Option.some.injEq, Prod.mk.injEq] at H
                          obtain ⟨rfl, rfl, rfl⟩ := H
                          go_wp2_with (first | (go_at_call 68; (with_reducible refine (ih k5 (by have := HJ6.out; have := HJ12.out; have := HJ17.out; have := HJ30.out; have := HK5.out; omega) a0 (wrap64 (t745 + 1)) t749 t750 true _ A45.out).mono ?_); rintro e w59 ⟨v752, rfl, ho0, hb⟩; have HO753 := am_ (Kd.R_lower (Kd.R_new' ho0 (Kd.R_lt (Sh.rl HO_12.out))) (below_size Sh.bw)); replace HO_12 := am_ (Kd.R_elder' (Sh.rl HO_12.out) (Kd.R_base ho0) hb); replace HB := Sh.hb hb; (try clear hb); (try clear hb2); (try clear hk); (try clear hi); (try clear ho0); have p51 : 0 ≤ (t750 : Int) := Sh.od; have q51 : t750 < (a0.size : Int) := Sh.od; have hx51 := bt_at a0 t750; replace p51 := eq_true p51; replace q51 := eq_true q51))
                          repeat (go_quiet (first | (go_at_call 68; (with_reducible refine (ih k5 (by have := HJ6.out; have := HJ12.out; have := HJ17.out; have := HJ30.out; have := HK5.out; omega) a0 (wrap64 (t745 + 1)) t749 t750 true _ A45.out).mono ?_); rintro e w59 ⟨v752, rfl, ho0, hb⟩; have HO753 := am_ (Kd.R_lower (Kd.R_new' ho0 (Kd.R_lt (Sh.rl HO_12.out))) (below_size Sh.bw)); replace HO_12 := am_ (Kd.R_elder' (Sh.rl HO_12.out) (Kd.R_base ho0) hb); replace HB := Sh.hb hb; (try clear hb); (try clear hb2); (try clear hk); (try clear hi); (try clear ho0); have p51 : 0 ≤ (t750 : Int) := Sh.od; have q51 : t750 < (a0.size : Int) := Sh.od; have hx51 := bt_at a0 t750; replace p51 := eq_true p51; replace q51 := eq_true q51)); try go_wp2_with (first | (go_at_call 68; (with_reducible refine (ih k5 (by have := HJ6.out; have := HJ12.out; have := HJ17.out; have := HJ30.out; have := HK5.out; omega) a0 (wrap64 (t745 + 1)) t749 t750 true _ A45.out).mono ?_); rintro e w59 ⟨v752, rfl, ho0, hb⟩; have HO753 := am_ (Kd.R_lower (Kd.R_new' ho0 (Kd.R_lt (Sh.rl HO_12.out))) (below_size Sh.bw)); replace HO_12 := am_ (Kd.R_elder' (Sh.rl HO_12.out) (Kd.R_base ho0) hb); replace HB := Sh.hb hb; (try clear hb); (try clear hb2); (try clear hk); (try clear hi); (try clear ho0); have p51 : 0 ≤ (t750 : Int) := Sh.od; have q51 : t750 < (a0.size : Int) := Sh.od; have hx51 := bt_at a0 t750; replace p51 := eq_true p51; replace q51 := eq_true q51)))
                          go_ret3
                          exact ⟨_, Sh.eR, by first | exact Kd.R_nil _ _ _ _ _ | exact Kd.N_nil _ _ _ _ _ | exact Kd.V_nil _ _ _ _ _ | exact Kd.Q_nil _ _ _ _ _ | exact Kd.S_nil _ _ _ _ _, Sh.bw⟩
                        ·rw [if_neg c50] at H
                         exact absurd H (by simp)
                       ·rw [if_neg c49] at H
                        exact absurd H (by simp)
                     ·replace c46 := Bool.eq_false_iff.mpr c46
                      subst c46
                      rw [Sh.nf] at H
                      simp only [Option.some.injEq, Prod.mk.injEq] at H
                      obtain ⟨rfl, rfl, rfl⟩ := H
                      go_wp2_with (first | (go_at_call 68; (with_reducible refine (ih k5 (by have := HJ6.out; have := HJ12.out; have := HJ17.out; have := HJ30.out; have := HK5.out; omega) a0 (wrap64 (t745 + 1)) t749 t750 false _ A45.out).mono ?_); rintro e w60 ⟨v752, rfl, ho0, hb⟩; have HO753 := am_ (Kd.R_lower (Kd.R_new' ho0 (Kd.R_lt (Sh.rl HO_12.out))) (below_size Sh.bw)); replace HO_12 := am_ (Kd.R_elder' (Sh.rl HO_12.out) (Kd.R_base ho0) hb); replace HB := Sh.hb hb; (try clear hb); (try clear hb2); (try clear hk); (try clear hi); (try clear ho0)))
                      repeat (go_quiet (first | (go_at_call 68; (with_reducible refine (ih k5 (by have := HJ6.out; have := HJ12.out; have := HJ17.out; have := HJ30.out; have := HK5.out; omega) a0 (wrap64 (t745 + 1)) t749 t750 false _ A45.out).mono ?_); rintro e w60 ⟨v752, rfl, ho0, hb⟩; have HO753 := am_ (Kd.R_lower (Kd.R_new' ho0 (Kd.R_lt (Sh.rl HO_12.out))) (below_size Sh.bw)); replace HO_12 := am_ (Kd.R_elder' (Sh.rl HO_12.out) (Kd.R_base ho0) hb); replace HB := Sh.hb hb; (try clear hb); (try clear hb2); (try clear hk); (try clear hi); (try clear ho0))); try go_wp2_with (first | (go_at_call 68; (with_reducible refine (ih k5 (by have := HJ6.out; have := HJ12.out; have := HJ17.out; have := HJ30.out; have := HK5.out; omega) a0 (wrap64 (t745 + 1)) t749 t750 false _ A45.out).mono ?_); rintro e w60 ⟨v752, rfl, ho0, hb⟩; have HO753 := am_ (Kd.R_lower (Kd.R_new' ho0 (Kd.R_lt (Sh.rl HO_12.out))) (below_size Sh.bw)); replace HO_12 := am_ (Kd.R_elder' (Sh.rl HO_12.out) (Kd.R_base ho0) hb); replace HB := Sh.hb hb; (try clear hb); (try clear hb2); (try clear hk); (try clear hi); (try clear ho0))))
                      go_ret3
                      exact ⟨_, Sh.eR, by first | exact Kd.R_nil _ _ _ _ _ | exact Kd.N_nil _ _ _ _ _ | exact Kd.V_nil _ _ _ _ _ | exact Kd.Q_nil _ _ _ _ _ | exact Kd.S_nil _ _ _ _ _, Sh.bw⟩
             ·rw [if_neg c29] at H
              have c29b0 : ((bt a0 a1) == 40) = false := beq_eq_false_iff_ne.mpr c29
              have c29b1 : ((bt a0 a1) != 40) = true := bne_iff_ne.mpr c29
              simp only [Option.some.injEq, Prod.mk.injEq] at H
              obtain ⟨rfl, rfl, rfl⟩ := H
              go_wp2
              repeat (go_quiet (fail); try go_wp2)
              go_ret3
              exact ⟨_, Sh.eR, by first | exact Kd.R_nil _ _ _ _ _ | exact Kd.N_nil _ _ _ _ _ | exact Kd.V_nil _ _ _ _ _ | exact Kd.Q_nil _ _ _ _ _ | exact Kd.S_nil _ _ _ _ _, Sh.bw⟩
   ·rw [if_neg c5] at H
    exact absurd H (by simp)
  ·rw [if_neg c4] at H
   exact absurd H (by simp)

end Go.Proofs.Ytaacldndbjmekaa.P
