/- Go functions of this seat as Lean functions, and the proofs that the calls come to what these say; printed by a program of this session. No condition. -/
import Derived.Test.YtjpjijihehlnkaaP0
import Derived.Test.YtjpjijihehlnkaaMFnSaidBack1
import Derived.Test.YtjpjijihehlnkaaMFnSaidBack2
set_option linter.unusedVariables false
set_option linter.unusedSimpArgs false
set_option maxHeartbeats 40000000
set_option maxRecDepth 100000
namespace Go.Proofs.Ytjpjijihehlnkaa.P
open Go.RowKit Go.Proofs.YtjpjijihehlnkaaW.PrintWords Go.Proofs.YtjpjijihehlnkaaW.PrintLast Go.Proofs.YtjpjijihehlnkaaW.PrintMore Go.Proofs.Ytjpjijihehlnkaa.Hof
attribute [local go_sem] max2_int min2_int max_two min_two max_three min_three max_four min_four
mutual
def spec_l10Read.j0 : Nat → ByteArray → Int → Int → Int → Bool → Option ((List (S35)) × Int × Bool)
 | 0, _, _, _, _, _ => none
 | k + 1, x0, x1, x7, x28, x29 => if x29 = true then (some ((([(⟨1, (x7 - 112) % 256⟩ : S35)] : List (S35))), wrap64 (x1 + 1), true)) else (if x28 = 48 then (spec_l10Read.j1 k x0 x1 x7 x28 (x28 == 48)) else (spec_l10Read.j1 k x0 x1 x7 x28 (x28 == 49)))
def spec_l10Read.j1 : Nat → ByteArray → Int → Int → Int → Bool → Option ((List (S35)) × Int × Bool)
 | 0, _, _, _, _, _ => none
 | k + 1, x0, x1, x7, x28, x40 => if x40 = true then (some ((([(⟨2, (x7 - 48) % 256⟩ : S35)] : List (S35))), wrap64 (x1 + 1), true)) else (if x28 = 33 then (spec_l10Read.j2 k x0 x1 x7 x28 (x28 == 33)) else (spec_l10Read.j2 k x0 x1 x7 x28 (x28 == 88)))
def spec_l10Read.j2 : Nat → ByteArray → Int → Int → Int → Bool → Option ((List (S35)) × Int × Bool)
 | 0, _, _, _, _, _ => none
 | k + 1, x0, x1, x7, x28, x50 => if x50 = true then ((spec_l10Read.f k x0 (wrap64 (x1 + 1))).bind fun bt378 => (if x7 = 88 then (if bt378.1.length < 8796093022208 then (some ((bt378.1 ++ [(⟨4, 0⟩ : S35)]), bt378.2.1, bt378.2.2)) else (none)) else (if bt378.1.length < 8796093022208 then (some ((bt378.1 ++ [(⟨3, 0⟩ : S35)]), bt378.2.1, bt378.2.2)) else (none)))) else (if x28 = 40 then ((spec_l10Read.f k x0 (wrap64 (x1 + 1))).bind fun bt389 => (if bt389.2.2 = true then (spec_l10Read.j3 k x0 bt389.1 bt389.2.1 (bt389.2.1 == (x0.size : Int))) else (spec_l10Read.j3 k x0 bt389.1 bt389.2.1 true))) else (some (([] : List (S35)), x1, false)))
def spec_l10Read.j3 : Nat → ByteArray → List (S35) → Int → Bool → Option ((List (S35)) × Int × Bool)
 | 0, _, _, _, _ => none
 | k + 1, x0, x12, x13, x87 => if x87 = true then (some (([] : List (S35)), x13, false)) else (spec_l10Read.l0 k x0 x12 x13 0 5)
def spec_l10Read.l0 : Nat → ByteArray → List (S35) → Int → Int → Int → Option ((List (S35)) × Int × Bool)
 | 0, _, _, _, _, _ => none
 | k + 1, x0, x12, x13, x15, x16 => if x16 ≤ 8 then (if 0 ≤ (wrap64 (x16 - 5)) then (if (wrap64 (x16 - 5)) < 4 then (if 0 ≤ x13 then (if x13 < (x0.size : Int) then (if (bt (⟨#[38, 124, 85, 82]⟩ : ByteArray) (wrap64 (x16 - 5))) = (bt x0 x13) then (spec_l10Read.l0 k x0 x12 x13 x16 (wrap64 (x16 + 1))) else (spec_l10Read.l0 k x0 x12 x13 x15 (wrap64 (x16 + 1)))) else (none)) else (none)) else (none)) else (none)) else (if x15 = 0 then (some (([] : List (S35)), x13, false)) else ((spec_l10Read.f k x0 (wrap64 (x13 + 1))).bind fun bt394 => (if bt394.2.2 = true then (if bt394.2.1 = (x0.size : Int) then (some (([] : List (S35)), bt394.2.1, false)) else (if 0 ≤ bt394.2.1 then (if bt394.2.1 < (x0.size : Int) then (if (bt x0 bt394.2.1) = 41 then (if x12.length + bt394.1.length < 8796093022208 then ((some (x12 ++ bt394.1 : List (S35))).bind fun y399 => (if y399.length < 8796093022208 then (some ((y399 ++ [(⟨x15, 0⟩ : S35)]), wrap64 (bt394.2.1 + 1), true)) else (none))) else (none)) else (some (([] : List (S35)), bt394.2.1, false))) else (none)) else (none))) else (some (([] : List (S35)), bt394.2.1, false)))))
def spec_l10Read.f : Nat → ByteArray → Int → Option ((List (S35)) × Int × Bool)
 | 0, _, _ => none
 | k + 1, a0, a1 => if a1 = (a0.size : Int) then (some (([] : List (S35)), a1, false)) else (if 0 ≤ a1 then (if a1 < (a0.size : Int) then (if (bt a0 a1) = 112 then (spec_l10Read.j0 k a0 a1 (bt a0 a1) (bt a0 a1) ((bt a0 a1) == 112)) else (if (bt a0 a1) = 113 then (spec_l10Read.j0 k a0 a1 (bt a0 a1) (bt a0 a1) ((bt a0 a1) == 113)) else (spec_l10Read.j0 k a0 a1 (bt a0 a1) (bt a0 a1) ((bt a0 a1) == 114)))) else (none)) else (none))
end
theorem spec_l10Read.mono_l : ∀ k, (∀ y0 y1, LeO (spec_l10Read.f k y0 y1) (spec_l10Read.f (k + 1) y0 y1)) ∧ (∀ y0 y1 y2 y3 y4, LeO (spec_l10Read.j0 k y0 y1 y2 y3 y4) (spec_l10Read.j0 (k + 1) y0 y1 y2 y3 y4)) ∧ (∀ y0 y1 y2 y3 y4, LeO (spec_l10Read.j1 k y0 y1 y2 y3 y4) (spec_l10Read.j1 (k + 1) y0 y1 y2 y3 y4)) ∧ (∀ y0 y1 y2 y3 y4, LeO (spec_l10Read.j2 k y0 y1 y2 y3 y4) (spec_l10Read.j2 (k + 1) y0 y1 y2 y3 y4)) ∧ (∀ y0 y1 y2 y3, LeO (spec_l10Read.j3 k y0 y1 y2 y3) (spec_l10Read.j3 (k + 1) y0 y1 y2 y3)) ∧ (∀ y0 y1 y2 y3 y4, LeO (spec_l10Read.l0 k y0 y1 y2 y3 y4) (spec_l10Read.l0 (k + 1) y0 y1 y2 y3 y4))
 | 0 => ⟨fun _ _ r h => by simp [spec_l10Read.f] at h, fun _ _ _ _ _ r h => by simp [spec_l10Read.j0] at h, fun _ _ _ _ _ r h => by simp [spec_l10Read.j1] at h, fun _ _ _ _ _ r h => by simp [spec_l10Read.j2] at h, fun _ _ _ _ r h => by simp [spec_l10Read.j3] at h, fun _ _ _ _ _ r h => by simp [spec_l10Read.l0] at h⟩
 | k + 1 => by
  obtain ⟨ih0, ih1, ih2, ih3, ih4, ih5⟩ := spec_l10Read.mono_l k
  and_intros <;> intros
  all_goals (first | unfold spec_l10Read.f | unfold spec_l10Read.j0 | unfold spec_l10Read.j1 | unfold spec_l10Read.j2 | unfold spec_l10Read.j3 | unfold spec_l10Read.l0)
  all_goals repeat' with_reducible first | apply ih0 | apply ih1 | apply ih2 | apply ih3 | apply ih4 | apply ih5 | exact LeO.refl _ | exact LeO.none _ | apply LeO.ite | refine LeO.bind ?_ fun _ => ?_
theorem spec_l10Read.mono : ∀ a0 a1 k, LeO (spec_l10Read.f k a0 a1) (spec_l10Read.f (k + 1) a0 a1) := by
 intro a0 a1 k
 obtain ⟨ih0, ih1, ih2, ih3, ih4, ih5⟩ := spec_l10Read.mono_l k
 exact ih0 a0 a1
theorem spec_l10Read.calls (k : Nat) : ∀ (a0 : ByteArray) (a1 : Int) (r1 : List (S35)) (r2 : Int) (r3 : Bool) (w : World) (h : spec_l10Read.f k a0 a1 = some (r1, r2, r3)),
  Calls Try.prog 22 #[.string a0, .int .i64 a1] w fun e w' => ∃ v0_ : Value, e = .returned (.tuple #[v0_, .int .i64 r2, .bool r3]) ∧ Kd.R k35 35 w' w.heap.size (fun _ => True) v0_ r1 ∧ Below w.heap.size w w' := by
 induction k using Nat.strongRecOn with
 | _ k ih =>
 intro a0 a1 r1 r2 r3 w h
 cases k with
 | zero => exact absurd h (by simp [spec_l10Read.f])
 | succ k =>
 simp only [spec_l10Read.f] at h
 have hu35 := Try.underlying35
 have HB := am_ (Below.refl w.heap.size w)
 have H : (if a1 = (a0.size : Int) then (some (([] : List (S35)), a1, false)) else (if 0 ≤ a1 then (if a1 < (a0.size : Int) then (if (bt a0 a1) = 112 then (spec_l10Read.j0 k a0 a1 (bt a0 a1) (bt a0 a1) ((bt a0 a1) == 112)) else (if (bt a0 a1) = 113 then (spec_l10Read.j0 k a0 a1 (bt a0 a1) (bt a0 a1) ((bt a0 a1) == 113)) else (spec_l10Read.j0 k a0 a1 (bt a0 a1) (bt a0 a1) ((bt a0 a1) == 114)))) else (none)) else (none))) = some (r1, r2, r3) := h
 clear h
 by_cases c3 : a1 = (a0.size : Int)
 ·rw [if_pos c3] at H
  have c3b0 : (a1 == (a0.size : Int)) = true := beq_iff_eq.mpr c3
  have c3b1 : (a1 != (a0.size : Int)) = false := bne_eq_false_iff_eq.mpr c3
  clear c3
  simp only [Option.some.injEq, Prod.mk.injEq] at H
  obtain ⟨rfl, rfl, rfl⟩ := H
  go_enter Try.func22, Try.ntmps22
  go_wp2
  repeat (go_quiet (fail); try go_wp2)
  go_ret3
  exact ⟨_, Sh.eR, by first | exact Kd.R_nil _ _ _ _ _ | exact Kd.N_nil _ _ _ _ _ | exact Kd.V_nil _ _ _ _ _ | exact Kd.Q_nil _ _ _ _ _ | exact Kd.S_nil _ _ _ _ _, Sh.bw⟩
 ·rw [if_neg c3] at H
  have c3b0 : (a1 == (a0.size : Int)) = false := beq_eq_false_iff_ne.mpr c3
  have c3b1 : (a1 != (a0.size : Int)) = true := bne_iff_ne.mpr c3
  by_cases c4 : 0 ≤ a1
  ·rw [if_pos c4] at H
   have c4b0 := decide_eq_true c4
   clear c4
   by_cases c5 : a1 < (a0.size : Int)
   ·rw [if_pos c5] at H
    have c5b0 := decide_eq_true c5
    clear c5
    have HC7 := am_ H
    clear H
    have p6 : 0 ≤ (a1 : Int) := Sh.od
    have q6 : a1 < (a0.size : Int) := Sh.od
    have hx6 := bt_at a0 a1
    replace p6 := eq_true p6
    replace q6 := eq_true q6
    go_enter Try.func22, Try.ntmps22
    go_upto_if 29 with (fail)
    repeat (go_quiet (fail); go_upto_if 29 with (fail))
    go_cut [29] (fun v29 wc => ∃ (kq : Nat) (x29_6 : Bool), v29 = .bool x29_6 ∧ Aside0 (spec_l10Read.j0 kq a0 a1 (bt a0 a1) (bt a0 a1) x29_6 = some (r1, r2, r3)) ∧ Aside0 (kq ≤ k) ∧ Aside0 (Below w.heap.size w wc))
    case first =>
     have H := HC7.out
     clear HC7
     by_cases c8 : (bt a0 a1) = 112
     ·rw [if_pos c8] at H
      have c8b0 : ((bt a0 a1) == 112) = true := beq_iff_eq.mpr c8
      have c8b1 : ((bt a0 a1) != 112) = false := bne_eq_false_iff_eq.mpr c8
      clear c8
      first | rw [c8b0] | (simp only [i64_w, i32_w]; rw [c8b0]) | skip
      have H' := am_ H
      clear H
      go_wp2
      repeat (go_quiet (fail); try go_wp2)
      go_meet
      case rel => exact ⟨_, (((bt a0 a1) == 112)), (Sh.es), H', ⟨Sh.om⟩, ⟨Sh.bw⟩⟩
     ·rw [if_neg c8] at H
      have c8b0 : ((bt a0 a1) == 112) = false := beq_eq_false_iff_ne.mpr c8
      have c8b1 : ((bt a0 a1) != 112) = true := bne_iff_ne.mpr c8
      first | rw [c8b0] | (simp only [i64_w, i32_w]; rw [c8b0]) | skip
      by_cases c9 : (bt a0 a1) = 113
      ·rw [if_pos c9] at H
       have c9b0 : ((bt a0 a1) == 113) = true := beq_iff_eq.mpr c9
       have c9b1 : ((bt a0 a1) != 113) = false := bne_eq_false_iff_eq.mpr c9
       clear c9
       have H' := am_ H
       clear H
       go_wp2
       repeat (go_quiet (fail); try go_wp2)
       go_meet
       case rel => exact ⟨_, (((bt a0 a1) == 113)), (Sh.es), H', ⟨Sh.om⟩, ⟨Sh.bw⟩⟩
      ·rw [if_neg c9] at H
       have c9b0 : ((bt a0 a1) == 113) = false := beq_eq_false_iff_ne.mpr c9
       have c9b1 : ((bt a0 a1) != 113) = true := bne_iff_ne.mpr c9
       have H' := am_ H
       clear H
       go_wp2
       repeat (go_quiet (fail); try go_wp2)
       go_meet
       case rel => exact ⟨_, (((bt a0 a1) == 114)), (Sh.es), H', ⟨Sh.om⟩, ⟨Sh.bw⟩⟩
    case rest =>
     clear HC7
     try clear hx6
     obtain ⟨kq, x29_6, rfl, HA, HJ6, HB⟩ := hcut
     cases kq with
     | zero => exact absurd HA.out (by simp [spec_l10Read.j0])
     | succ kj6 =>
      have H := HA.out
      clear HA
      simp only [spec_l10Read.j0] at H
      by_cases c10 : x29_6 = true
      ·subst c10
       rw [if_pos rfl] at H
       obtain ⟨y372, hy372⟩ : ∃ y_ : List (S35), y_ = (([(⟨1, ((bt a0 a1) - 112) % 256⟩ : S35)] : List (S35))) := ⟨_, rfl⟩
       replace H : (some (y372, wrap64 (a1 + 1), true)) = some (r1, r2, r3) := by first | (rw [hy372]; with_reducible exact H) | (have H2_ := (Option.bind_some _ _).symm.trans H; rw [hy372]; with_reducible exact H2_) | (have H2_ := (Option.bind_some _ _).symm.trans H; with_reducible exact H2_) | with_reducible exact H | (rw [hy372]; exact H) | exact H
       have Ny372 := am_ hy372
       clear hy372
       simp only [Option.some.injEq, Prod.mk.injEq] at H
       obtain ⟨rfl, rfl, rfl⟩ := H
       go_wp2_with (first | ((with_reducible refine Sh.d 37 ?_); (try (refine gate_guard (by rfl) ?_; dsimp only)); refine Kd.R_lit k35 _ 35 ?hg (N := 37) ?hd (xs := ([(⟨1, ((bt a0 a1) - 112) % 256⟩ : S35)] : List (S35))) (inner := [.int .i64 1, .int .i64 (((bt a0 a1) - 112) % 256)]) (ok := fun _ => True) (okp := fun _ => True) ?hr ?hp (fun _ hk => hk) trivial (Below.refl _ _) (Nat.le_refl _) (by simp) ?_; (case hd => rfl); (case hg => rfl); (case hr => first | (go_simp; done) | (go_simp; rfl)); (case hp => exact (Reps.c2 (show Kd.M k35 _ _ _ (⟨1, ((bt a0 a1) - 112) % 256⟩ : S35) [.int .i64 1, .int .i64 (((bt a0 a1) - 112) % 256)] from (k35_mkM _ _ _ (⟨1, ((bt a0 a1) - 112) % 256⟩ : S35) )) (Reps.none _ _))); intro v373 w11 ho12 hb hg_ hnew_; clear hg_ hnew_; (first | rw [← Ny372.out] at ho12 | (simp only [Int.reduceToNat] at ho12; rw [← Ny372.out] at ho12)); have HO374 := am_ (Kd.R_lower ho12 (below_size Sh.bw)); replace HB := Sh.hb hb; clear hb ho12))
       repeat (go_quiet (first | ((with_reducible refine Sh.d 37 ?_); (try (refine gate_guard (by rfl) ?_; dsimp only)); refine Kd.R_lit k35 _ 35 ?hg (N := 37) ?hd (xs := ([(⟨1, ((bt a0 a1) - 112) % 256⟩ : S35)] : List (S35))) (inner := [.int .i64 1, .int .i64 (((bt a0 a1) - 112) % 256)]) (ok := fun _ => True) (okp := fun _ => True) ?hr ?hp (fun _ hk => hk) trivial (Below.refl _ _) (Nat.le_refl _) (by simp) ?_; (case hd => rfl); (case hg => rfl); (case hr => first | (go_simp; done) | (go_simp; rfl)); (case hp => exact (Reps.c2 (show Kd.M k35 _ _ _ (⟨1, ((bt a0 a1) - 112) % 256⟩ : S35) [.int .i64 1, .int .i64 (((bt a0 a1) - 112) % 256)] from (k35_mkM _ _ _ (⟨1, ((bt a0 a1) - 112) % 256⟩ : S35) )) (Reps.none _ _))); intro v373 w11 ho12 hb hg_ hnew_; clear hg_ hnew_; (first | rw [← Ny372.out] at ho12 | (simp only [Int.reduceToNat] at ho12; rw [← Ny372.out] at ho12)); have HO374 := am_ (Kd.R_lower ho12 (below_size Sh.bw)); replace HB := Sh.hb hb; clear hb ho12)); try go_wp2_with (first | ((with_reducible refine Sh.d 37 ?_); (try (refine gate_guard (by rfl) ?_; dsimp only)); refine Kd.R_lit k35 _ 35 ?hg (N := 37) ?hd (xs := ([(⟨1, ((bt a0 a1) - 112) % 256⟩ : S35)] : List (S35))) (inner := [.int .i64 1, .int .i64 (((bt a0 a1) - 112) % 256)]) (ok := fun _ => True) (okp := fun _ => True) ?hr ?hp (fun _ hk => hk) trivial (Below.refl _ _) (Nat.le_refl _) (by simp) ?_; (case hd => rfl); (case hg => rfl); (case hr => first | (go_simp; done) | (go_simp; rfl)); (case hp => exact (Reps.c2 (show Kd.M k35 _ _ _ (⟨1, ((bt a0 a1) - 112) % 256⟩ : S35) [.int .i64 1, .int .i64 (((bt a0 a1) - 112) % 256)] from (k35_mkM _ _ _ (⟨1, ((bt a0 a1) - 112) % 256⟩ : S35) )) (Reps.none _ _))); intro v373 w11 ho12 hb hg_ hnew_; clear hg_ hnew_; (first | rw [← Ny372.out] at ho12 | (simp only [Int.reduceToNat] at ho12; rw [← Ny372.out] at ho12)); have HO374 := am_ (Kd.R_lower ho12 (below_size Sh.bw)); replace HB := Sh.hb hb; clear hb ho12)))
       go_ret3
       exact ⟨_, Sh.eR, Sh.rl HO374.out, Sh.bw⟩
      ·replace c10 := Bool.eq_false_iff.mpr c10
       subst c10
       rw [Sh.nf] at H
       have HC13 := am_ H
       clear H
       go_upto_if 40 with (fail)
       repeat (go_quiet (fail); go_upto_if 40 with (fail))
       go_cut [40] (fun v40 wc => ∃ (kq : Nat) (x40_12 : Bool), v40 = .bool x40_12 ∧ Aside0 (spec_l10Read.j1 kq a0 a1 (bt a0 a1) (bt a0 a1) x40_12 = some (r1, r2, r3)) ∧ Aside0 (kq ≤ kj6) ∧ Aside0 (Below w.heap.size w wc))
       case first =>
        have H := HC13.out
        clear HC13
        by_cases c14 : (bt a0 a1) = 48
        ·rw [if_pos c14] at H
         have c14b0 : ((bt a0 a1) == 48) = true := beq_iff_eq.mpr c14
         have c14b1 : ((bt a0 a1) != 48) = false := bne_eq_false_iff_eq.mpr c14
         clear c14
         first | rw [c14b0] | (simp only [i64_w, i32_w]; rw [c14b0]) | skip
         have H' := am_ H
         clear H
         go_wp2
         repeat (go_quiet (fail); try go_wp2)
         go_meet
         case rel => exact ⟨_, (((bt a0 a1) == 48)), (Sh.es), H', ⟨by have := HJ6.out; first | omega | exact Nat.le_refl _⟩, ⟨Sh.bw⟩⟩
        ·rw [if_neg c14] at H
         have c14b0 : ((bt a0 a1) == 48) = false := beq_eq_false_iff_ne.mpr c14
         have c14b1 : ((bt a0 a1) != 48) = true := bne_iff_ne.mpr c14
         first | rw [c14b0] | (simp only [i64_w, i32_w]; rw [c14b0]) | skip
         have H' := am_ H
         clear H
         go_wp2
         repeat (go_quiet (fail); try go_wp2)
         go_meet
         case rel => exact ⟨_, (((bt a0 a1) == 49)), (Sh.es), H', ⟨by have := HJ6.out; first | omega | exact Nat.le_refl _⟩, ⟨Sh.bw⟩⟩
       case rest =>
        clear HC13
        try clear hx6
        obtain ⟨kq, x40_12, rfl, HA, HJ12, HB⟩ := hcut
        cases kq with
        | zero => exact absurd HA.out (by simp [spec_l10Read.j1])
        | succ kj12 =>
         have H := HA.out
         clear HA
         simp only [spec_l10Read.j1] at H
         by_cases c15 : x40_12 = true
         ·subst c15
          rw [if_pos rfl] at H
          obtain ⟨y375, hy375⟩ : ∃ y_ : List (S35), y_ = (([(⟨2, ((bt a0 a1) - 48) % 256⟩ : S35)] : List (S35))) := ⟨_, rfl⟩
          replace H : (some (y375, wrap64 (a1 + 1), true)) = some (r1, r2, r3) := by first | (rw [hy375]; with_reducible exact H) | (have H2_ := (Option.bind_some _ _).symm.trans H; rw [hy375]; with_reducible exact H2_) | (have H2_ := (Option.bind_some _ _).symm.trans H; with_reducible exact H2_) | with_reducible exact H | (rw [hy375]; exact H) | exact H
          have Ny375 := am_ hy375
          clear hy375
          simp only [Option.some.injEq, Prod.mk.injEq] at H
          obtain ⟨rfl, rfl, rfl⟩ := H
          go_wp2_with (first | ((with_reducible refine Sh.d 47 ?_); (try (refine gate_guard (by rfl) ?_; dsimp only)); refine Kd.R_lit k35 _ 35 ?hg (N := 47) ?hd (xs := ([(⟨2, ((bt a0 a1) - 48) % 256⟩ : S35)] : List (S35))) (inner := [.int .i64 2, .int .i64 (((bt a0 a1) - 48) % 256)]) (ok := fun _ => True) (okp := fun _ => True) ?hr ?hp (fun _ hk => hk) trivial (Below.refl _ _) (Nat.le_refl _) (by simp) ?_; (case hd => rfl); (case hg => rfl); (case hr => first | (go_simp; done) | (go_simp; rfl)); (case hp => exact (Reps.c2 (show Kd.M k35 _ _ _ (⟨2, ((bt a0 a1) - 48) % 256⟩ : S35) [.int .i64 2, .int .i64 (((bt a0 a1) - 48) % 256)] from (k35_mkM _ _ _ (⟨2, ((bt a0 a1) - 48) % 256⟩ : S35) )) (Reps.none _ _))); intro v376 w16 ho17 hb hg_ hnew_; clear hg_ hnew_; (first | rw [← Ny375.out] at ho17 | (simp only [Int.reduceToNat] at ho17; rw [← Ny375.out] at ho17)); have HO377 := am_ (Kd.R_lower ho17 (below_size Sh.bw)); replace HB := Sh.hb hb; clear hb ho17))
          repeat (go_quiet (first | ((with_reducible refine Sh.d 47 ?_); (try (refine gate_guard (by rfl) ?_; dsimp only)); refine Kd.R_lit k35 _ 35 ?hg (N := 47) ?hd (xs := ([(⟨2, ((bt a0 a1) - 48) % 256⟩ : S35)] : List (S35))) (inner := [.int .i64 2, .int .i64 (((bt a0 a1) - 48) % 256)]) (ok := fun _ => True) (okp := fun _ => True) ?hr ?hp (fun _ hk => hk) trivial (Below.refl _ _) (Nat.le_refl _) (by simp) ?_; (case hd => rfl); (case hg => rfl); (case hr => first | (go_simp; done) | (go_simp; rfl)); (case hp => exact (Reps.c2 (show Kd.M k35 _ _ _ (⟨2, ((bt a0 a1) - 48) % 256⟩ : S35) [.int .i64 2, .int .i64 (((bt a0 a1) - 48) % 256)] from (k35_mkM _ _ _ (⟨2, ((bt a0 a1) - 48) % 256⟩ : S35) )) (Reps.none _ _))); intro v376 w16 ho17 hb hg_ hnew_; clear hg_ hnew_; (first | rw [← Ny375.out] at ho17 | (simp only [Int.reduceToNat] at ho17; rw [← Ny375.out] at ho17)); have HO377 := am_ (Kd.R_lower ho17 (below_size Sh.bw)); replace HB := Sh.hb hb; clear hb ho17)); try go_wp2_with (first | ((with_reducible refine Sh.d 47 ?_); (try (refine gate_guard (by rfl) ?_; dsimp only)); refine Kd.R_lit k35 _ 35 ?hg (N := 47) ?hd (xs := ([(⟨2, ((bt a0 a1) - 48) % 256⟩ : S35)] : List (S35))) (inner := [.int .i64 2, .int .i64 (((bt a0 a1) - 48) % 256)]) (ok := fun _ => True) (okp := fun _ => True) ?hr ?hp (fun _ hk => hk) trivial (Below.refl _ _) (Nat.le_refl _) (by simp) ?_; (case hd => rfl); (case hg => rfl); (case hr => first | (go_simp; done) | (go_simp; rfl)); (case hp => exact (Reps.c2 (show Kd.M k35 _ _ _ (⟨2, ((bt a0 a1) - 48) % 256⟩ : S35) [.int .i64 2, .int .i64 (((bt a0 a1) - 48) % 256)] from (k35_mkM _ _ _ (⟨2, ((bt a0 a1) - 48) % 256⟩ : S35) )) (Reps.none _ _))); intro v376 w16 ho17 hb hg_ hnew_; clear hg_ hnew_; (first | rw [← Ny375.out] at ho17 | (simp only [Int.reduceToNat] at ho17; rw [← Ny375.out] at ho17)); have HO377 := am_ (Kd.R_lower ho17 (below_size Sh.bw)); replace HB := Sh.hb hb; clear hb ho17)))
          go_ret3
          exact ⟨_, Sh.eR, Sh.rl HO377.out, Sh.bw⟩
         ·replace c15 := Bool.eq_false_iff.mpr c15
          subst c15
          rw [Sh.nf] at H
          have HC18 := am_ H
          clear H
          go_upto_if 50 with (fail)
          repeat (go_quiet (fail); go_upto_if 50 with (fail))
          go_cut [50] (fun v50 wc => ∃ (kq : Nat) (x50_17 : Bool), v50 = .bool x50_17 ∧ Aside0 (spec_l10Read.j2 kq a0 a1 (bt a0 a1) (bt a0 a1) x50_17 = some (r1, r2, r3)) ∧ Aside0 (kq ≤ kj12) ∧ Aside0 (Below w.heap.size w wc))
          case first =>
           have H := HC18.out
           clear HC18
           by_cases c19 : (bt a0 a1) = 33
           ·rw [if_pos c19] at H
            have c19b0 : ((bt a0 a1) == 33) = true := beq_iff_eq.mpr c19
            have c19b1 : ((bt a0 a1) != 33) = false := bne_eq_false_iff_eq.mpr c19
            clear c19
            first | rw [c19b0] | (simp only [i64_w, i32_w]; rw [c19b0]) | skip
            have H' := am_ H
            clear H
            go_wp2
            repeat (go_quiet (fail); try go_wp2)
            go_meet
            case rel => exact ⟨_, (((bt a0 a1) == 33)), (Sh.es), H', ⟨by have := HJ6.out; have := HJ12.out; first | omega | exact Nat.le_refl _⟩, ⟨Sh.bw⟩⟩
           ·rw [if_neg c19] at H
            have c19b0 : ((bt a0 a1) == 33) = false := beq_eq_false_iff_ne.mpr c19
            have c19b1 : ((bt a0 a1) != 33) = true := bne_iff_ne.mpr c19
            first | rw [c19b0] | (simp only [i64_w, i32_w]; rw [c19b0]) | skip
            have H' := am_ H
            clear H
            go_wp2
            repeat (go_quiet (fail); try go_wp2)
            go_meet
            case rel => exact ⟨_, (((bt a0 a1) == 88)), (Sh.es), H', ⟨by have := HJ6.out; have := HJ12.out; first | omega | exact Nat.le_refl _⟩, ⟨Sh.bw⟩⟩
          case rest =>
           clear HC18
           try clear hx6
           obtain ⟨kq, x50_17, rfl, HA, HJ17, HB⟩ := hcut
           cases kq with
           | zero => exact absurd HA.out (by simp [spec_l10Read.j2])
           | succ kj17 =>
            have H := HA.out
            clear HA
            simp only [spec_l10Read.j2] at H
            by_cases c20 : x50_17 = true
            ·subst c20
             rw [if_pos rfl] at H
             obtain ⟨⟨t378, t379, t380⟩, A210, H⟩ := Sh.bd H
             have A21 := am_ A210
             clear A210
             by_cases c22 : (bt a0 a1) = 88
             ·rw [if_pos c22] at H
              have c22b0 : ((bt a0 a1) == 88) = true := beq_iff_eq.mpr c22
              have c22b1 : ((bt a0 a1) != 88) = false := bne_eq_false_iff_eq.mpr c22
              clear c22
              by_cases c23 : t378.length < 8796093022208
              ·rw [if_pos c23] at H
               have LMc23 := am_ c23
               clear c23
               obtain ⟨y383, hy383⟩ : ∃ y_ : List (S35), y_ = (t378 ++ [(⟨4, 0⟩ : S35)]) := ⟨_, rfl⟩
               replace H : (some (y383, t379, t380)) = some (r1, r2, r3) := by first | (rw [hy383]; with_reducible exact H) | (have H2_ := (Option.bind_some _ _).symm.trans H; rw [hy383]; with_reducible exact H2_) | (have H2_ := (Option.bind_some _ _).symm.trans H; with_reducible exact H2_) | with_reducible exact H | (rw [hy383]; exact H) | exact H
               have Ny383 := am_ hy383
               clear hy383
               simp only [Option.some.injEq, Prod.mk.injEq] at H
               obtain ⟨rfl, rfl, rfl⟩ := H
               go_wp2_with (first | (go_at_call 22; (with_reducible refine (ih kj17 (by have := HJ6.out; have := HJ12.out; have := HJ17.out; omega) a0 (wrap64 (a1 + 1)) t378 t379 t380 _ A21.out).mono ?_); rintro e w24 ⟨v381, rfl, ho0, hb⟩; have HO382 := am_ (Kd.R_lower ho0 (below_size Sh.bw)); replace HB := Sh.hb hb; (try clear hb); (try clear hb2); (try clear hk); (try clear hi); (try clear ho0)) | ((with_reducible refine gate_builtin (b := .append) (xs := #[.tmp 63, .tmp 66]) rfl ?_); (try (refine gate_guard (by rfl) ?_; dsimp only)); at_builtin; refine Kd.R_append k35 (w0 := w) w.heap.size rfl (.tmp 63) (.tmp 66) 24 35 (.agg #[(.int .i64 0), (.int .i64 0)]) 16 rfl Try.underlying24 info35 rfl (by decide) (by omega) v381 t378 (⟨4, 0⟩ : S35) [.int .i64 4, .int .i64 0] (fun _ => True) (fun _ => False) rfl rfl ?aP (fun _ hk => hk.elim) ?aF ?aO ?aB ?aS ?aL ?_; (case aP => exact k35_mkM _ _ _ (⟨4, 0⟩ : S35)); (case aB => exact Sh.bw); (case aF => exact (fun _ _ => trivial)); (case aO => exact (Sh.rl HO382.out)); (case aS => exact (below_size Sh.bw)); (case aL => have := LMc23.out; omega); intro v384 w25 ho hb hg hat; rw [← Ny383.out] at ho; have n0_ := am_ hb; have n1_ := am_ ho; clear HB; clear HO382; have HB := n0_; have HO385 := n1_; clear n0_ n1_; clear ho hb hg hat))
               repeat (go_quiet (first | (go_at_call 22; (with_reducible refine (ih kj17 (by have := HJ6.out; have := HJ12.out; have := HJ17.out; omega) a0 (wrap64 (a1 + 1)) t378 t379 t380 _ A21.out).mono ?_); rintro e w24 ⟨v381, rfl, ho0, hb⟩; have HO382 := am_ (Kd.R_lower ho0 (below_size Sh.bw)); replace HB := Sh.hb hb; (try clear hb); (try clear hb2); (try clear hk); (try clear hi); (try clear ho0)) | ((with_reducible refine gate_builtin (b := .append) (xs := #[.tmp 63, .tmp 66]) rfl ?_); (try (refine gate_guard (by rfl) ?_; dsimp only)); at_builtin; refine Kd.R_append k35 (w0 := w) w.heap.size rfl (.tmp 63) (.tmp 66) 24 35 (.agg #[(.int .i64 0), (.int .i64 0)]) 16 rfl Try.underlying24 info35 rfl (by decide) (by omega) v381 t378 (⟨4, 0⟩ : S35) [.int .i64 4, .int .i64 0] (fun _ => True) (fun _ => False) rfl rfl ?aP (fun _ hk => hk.elim) ?aF ?aO ?aB ?aS ?aL ?_; (case aP => exact k35_mkM _ _ _ (⟨4, 0⟩ : S35)); (case aB => exact Sh.bw); (case aF => exact (fun _ _ => trivial)); (case aO => exact (Sh.rl HO382.out)); (case aS => exact (below_size Sh.bw)); (case aL => have := LMc23.out; omega); intro v384 w25 ho hb hg hat; rw [← Ny383.out] at ho; have n0_ := am_ hb; have n1_ := am_ ho; clear HB; clear HO382; have HB := n0_; have HO385 := n1_; clear n0_ n1_; clear ho hb hg hat)); try go_wp2_with (first | (go_at_call 22; (with_reducible refine (ih kj17 (by have := HJ6.out; have := HJ12.out; have := HJ17.out; omega) a0 (wrap64 (a1 + 1)) t378 t379 t380 _ A21.out).mono ?_); rintro e w24 ⟨v381, rfl, ho0, hb⟩; have HO382 := am_ (Kd.R_lower ho0 (below_size Sh.bw)); replace HB := Sh.hb hb; (try clear hb); (try clear hb2); (try clear hk); (try clear hi); (try clear ho0)) | ((with_reducible refine gate_builtin (b := .append) (xs := #[.tmp 63, .tmp 66]) rfl ?_); (try (refine gate_guard (by rfl) ?_; dsimp only)); at_builtin; refine Kd.R_append k35 (w0 := w) w.heap.size rfl (.tmp 63) (.tmp 66) 24 35 (.agg #[(.int .i64 0), (.int .i64 0)]) 16 rfl Try.underlying24 info35 rfl (by decide) (by omega) v381 t378 (⟨4, 0⟩ : S35) [.int .i64 4, .int .i64 0] (fun _ => True) (fun _ => False) rfl rfl ?aP (fun _ hk => hk.elim) ?aF ?aO ?aB ?aS ?aL ?_; (case aP => exact k35_mkM _ _ _ (⟨4, 0⟩ : S35)); (case aB => exact Sh.bw); (case aF => exact (fun _ _ => trivial)); (case aO => exact (Sh.rl HO382.out)); (case aS => exact (below_size Sh.bw)); (case aL => have := LMc23.out; omega); intro v384 w25 ho hb hg hat; rw [← Ny383.out] at ho; have n0_ := am_ hb; have n1_ := am_ ho; clear HB; clear HO382; have HB := n0_; have HO385 := n1_; clear n0_ n1_; clear ho hb hg hat)))
               go_ret3
               exact ⟨_, Sh.eR, Sh.rl HO385.out, Sh.bw⟩
              ·rw [if_neg c23] at H
               exact absurd H (by simp)
             ·rw [if_neg c22] at H
              have c22b0 : ((bt a0 a1) == 88) = false := beq_eq_false_iff_ne.mpr c22
              have c22b1 : ((bt a0 a1) != 88) = true := bne_iff_ne.mpr c22
              by_cases c26 : t378.length < 8796093022208
              ·rw [if_pos c26] at H
               have LMc26 := am_ c26
               clear c26
               obtain ⟨y386, hy386⟩ : ∃ y_ : List (S35), y_ = (t378 ++ [(⟨3, 0⟩ : S35)]) := ⟨_, rfl⟩
               replace H : (some (y386, t379, t380)) = some (r1, r2, r3) := by first | (rw [hy386]; with_reducible exact H) | (have H2_ := (Option.bind_some _ _).symm.trans H; rw [hy386]; with_reducible exact H2_) | (have H2_ := (Option.bind_some _ _).symm.trans H; with_reducible exact H2_) | with_reducible exact H | (rw [hy386]; exact H) | exact H
               have Ny386 := am_ hy386
               clear hy386
               simp only [Option.some.injEq, Prod.mk.injEq] at H
               obtain ⟨rfl, rfl, rfl⟩ := H
               go_wp2_with (first | (go_at_call 22; (with_reducible refine (ih kj17 (by have := HJ6.out; have := HJ12.out; have := HJ17.out; omega) a0 (wrap64 (a1 + 1)) t378 t379 t380 _ A21.out).mono ?_); rintro e w27 ⟨v381, rfl, ho0, hb⟩; have HO382 := am_ (Kd.R_lower ho0 (below_size Sh.bw)); replace HB := Sh.hb hb; (try clear hb); (try clear hb2); (try clear hk); (try clear hi); (try clear ho0)) | ((with_reducible refine gate_builtin (b := .append) (xs := #[.tmp 63, .tmp 66]) rfl ?_); (try (refine gate_guard (by rfl) ?_; dsimp only)); at_builtin; refine Kd.R_append k35 (w0 := w) w.heap.size rfl (.tmp 63) (.tmp 66) 24 35 (.agg #[(.int .i64 0), (.int .i64 0)]) 16 rfl Try.underlying24 info35 rfl (by decide) (by omega) v381 t378 (⟨3, 0⟩ : S35) [.int .i64 3, .int .i64 0] (fun _ => True) (fun _ => False) rfl rfl ?aP (fun _ hk => hk.elim) ?aF ?aO ?aB ?aS ?aL ?_; (case aP => exact k35_mkM _ _ _ (⟨3, 0⟩ : S35)); (case aB => exact Sh.bw); (case aF => exact (fun _ _ => trivial)); (case aO => exact (Sh.rl HO382.out)); (case aS => exact (below_size Sh.bw)); (case aL => have := LMc26.out; omega); intro v387 w28 ho hb hg hat; rw [← Ny386.out] at ho; have n0_ := am_ hb; have n1_ := am_ ho; clear HB; clear HO382; have HB := n0_; have HO388 := n1_; clear n0_ n1_; clear ho hb hg hat))
               repeat (go_quiet (first | (go_at_call 22; (with_reducible refine (ih kj17 (by have := HJ6.out; have := HJ12.out; have := HJ17.out; omega) a0 (wrap64 (a1 + 1)) t378 t379 t380 _ A21.out).mono ?_); rintro e w27 ⟨v381, rfl, ho0, hb⟩; have HO382 := am_ (Kd.R_lower ho0 (below_size Sh.bw)); replace HB := Sh.hb hb; (try clear hb); (try clear hb2); (try clear hk); (try clear hi); (try clear ho0)) | ((with_reducible refine gate_builtin (b := .append) (xs := #[.tmp 63, .tmp 66]) rfl ?_); (try (refine gate_guard (by rfl) ?_; dsimp only)); at_builtin; refine Kd.R_append k35 (w0 := w) w.heap.size rfl (.tmp 63) (.tmp 66) 24 35 (.agg #[(.int .i64 0), (.int .i64 0)]) 16 rfl Try.underlying24 info35 rfl (by decide) (by omega) v381 t378 (⟨3, 0⟩ : S35) [.int .i64 3, .int .i64 0] (fun _ => True) (fun _ => False) rfl rfl ?aP (fun _ hk => hk.elim) ?aF ?aO ?aB ?aS ?aL ?_; (case aP => exact k35_mkM _ _ _ (⟨3, 0⟩ : S35)); (case aB => exact Sh.bw); (case aF => exact (fun _ _ => trivial)); (case aO => exact (Sh.rl HO382.out)); (case aS => exact (below_size Sh.bw)); (case aL => have := LMc26.out; omega); intro v387 w28 ho hb hg hat; rw [← Ny386.out] at ho; have n0_ := am_ hb; have n1_ := am_ ho; clear HB; clear HO382; have HB := n0_; have HO388 := n1_; clear n0_ n1_; clear ho hb hg hat)); try go_wp2_with (first | (go_at_call 22; (with_reducible refine (ih kj17 (by have := HJ6.out; have := HJ12.out; have := HJ17.out; omega) a0 (wrap64 (a1 + 1)) t378 t379 t380 _ A21.out).mono ?_); rintro e w27 ⟨v381, rfl, ho0, hb⟩; have HO382 := am_ (Kd.R_lower ho0 (below_size Sh.bw)); replace HB := Sh.hb hb; (try clear hb); (try clear hb2); (try clear hk); (try clear hi); (try clear ho0)) | ((with_reducible refine gate_builtin (b := .append) (xs := #[.tmp 63, .tmp 66]) rfl ?_); (try (refine gate_guard (by rfl) ?_; dsimp only)); at_builtin; refine Kd.R_append k35 (w0 := w) w.heap.size rfl (.tmp 63) (.tmp 66) 24 35 (.agg #[(.int .i64 0), (.int .i64 0)]) 16 rfl Try.underlying24 info35 rfl (by decide) (by omega) v381 t378 (⟨3, 0⟩ : S35) [.int .i64 3, .int .i64 0] (fun _ => True) (fun _ => False) rfl rfl ?aP (fun _ hk => hk.elim) ?aF ?aO ?aB ?aS ?aL ?_; (case aP => exact k35_mkM _ _ _ (⟨3, 0⟩ : S35)); (case aB => exact Sh.bw); (case aF => exact (fun _ _ => trivial)); (case aO => exact (Sh.rl HO382.out)); (case aS => exact (below_size Sh.bw)); (case aL => have := LMc26.out; omega); intro v387 w28 ho hb hg hat; rw [← Ny386.out] at ho; have n0_ := am_ hb; have n1_ := am_ ho; clear HB; clear HO382; have HB := n0_; have HO388 := n1_; clear n0_ n1_; clear ho hb hg hat)))
               go_ret3
               exact ⟨_, Sh.eR, Sh.rl HO388.out, Sh.bw⟩
              ·rw [if_neg c26] at H
               exact absurd H (by simp)
            ·replace c20 := Bool.eq_false_iff.mpr c20
             subst c20
             rw [Sh.nf] at H
             by_cases c29 : (bt a0 a1) = 40
             ·rw [if_pos c29] at H
              have c29b0 : ((bt a0 a1) == 40) = true := beq_iff_eq.mpr c29
              have c29b1 : ((bt a0 a1) != 40) = false := bne_eq_false_iff_eq.mpr c29
              clear c29
              obtain ⟨⟨t389, t390, t391⟩, A300, H⟩ := Sh.bd H
              have A30 := am_ A300
              clear A300
              have HC31 := am_ H
              clear H
              go_upto_region 21 with (first | (go_at_call 22; (with_reducible refine (ih kj17 (by have := HJ6.out; have := HJ12.out; have := HJ17.out; omega) a0 (wrap64 (a1 + 1)) t389 t390 t391 _ A30.out).mono ?_); rintro e w32 ⟨v392, rfl, ho0, hb⟩; have HO393 := am_ (Kd.R_lower ho0 (below_size Sh.bw)); replace HB := Sh.hb hb; (try clear hb); (try clear hb2); (try clear hk); (try clear hi); (try clear ho0)))
              repeat (go_quiet (first | (go_at_call 22; (with_reducible refine (ih kj17 (by have := HJ6.out; have := HJ12.out; have := HJ17.out; omega) a0 (wrap64 (a1 + 1)) t389 t390 t391 _ A30.out).mono ?_); rintro e w32 ⟨v392, rfl, ho0, hb⟩; have HO393 := am_ (Kd.R_lower ho0 (below_size Sh.bw)); replace HB := Sh.hb hb; (try clear hb); (try clear hb2); (try clear hk); (try clear hi); (try clear ho0))); go_upto_region 21 with (first | (go_at_call 22; (with_reducible refine (ih kj17 (by have := HJ6.out; have := HJ12.out; have := HJ17.out; omega) a0 (wrap64 (a1 + 1)) t389 t390 t391 _ A30.out).mono ?_); rintro e w32 ⟨v392, rfl, ho0, hb⟩; have HO393 := am_ (Kd.R_lower ho0 (below_size Sh.bw)); replace HB := Sh.hb hb; (try clear hb); (try clear hb2); (try clear hk); (try clear hi); (try clear ho0))))
              (try simp only [Act.put, List.setIfInBounds_toArray, List.set_cons_zero, List.set_cons_succ])
              go_cut [87] (fun v87 wc => ∃ (kq : Nat) (x87_30 : Bool), v87 = .bool x87_30 ∧ Aside0 (spec_l10Read.j3 kq a0 t389 t390 x87_30 = some (r1, r2, r3)) ∧ Aside0 (kq ≤ kj17) ∧ Aside0 (Kd.R k35 35 wc w.heap.size (fun _ => True) v392 t389) ∧ Aside0 (Below w.heap.size w wc))
              case first =>
               have H := HC31.out
               clear HC31
               by_cases c33 : t391 = true
               ·subst c33
                rw [if_pos rfl] at H
                have H' := am_ H
                clear H
                go_wp2
                repeat (go_quiet (fail); try go_wp2)
                go_meet
                case rel => exact ⟨_, ((t390 == (a0.size : Int))), (Sh.es), H', ⟨by have := HJ6.out; have := HJ12.out; have := HJ17.out; first | omega | exact Nat.le_refl _⟩, ⟨Sh.rl HO393.out⟩, ⟨Sh.bw⟩⟩
               ·replace c33 := Bool.eq_false_iff.mpr c33
                subst c33
                rw [Sh.nf] at H
                have H' := am_ H
                clear H
                go_wp2
                repeat (go_quiet (fail); try go_wp2)
                go_meet
                case rel => exact ⟨_, (true), (Sh.es), H', ⟨by have := HJ6.out; have := HJ12.out; have := HJ17.out; first | omega | exact Nat.le_refl _⟩, ⟨Sh.rl HO393.out⟩, ⟨Sh.bw⟩⟩
              case rest =>
               clear HC31
               try clear hx6
               obtain ⟨kq, x87_30, rfl, HA, HJ30, HO_12, HB⟩ := hcut
               cases kq with
               | zero => exact absurd HA.out (by simp [spec_l10Read.j3])
               | succ kj30 =>
                have H := HA.out
                clear HA
                simp only [spec_l10Read.j3] at H
                by_cases c34 : x87_30 = true
                ·subst c34
                 rw [if_pos rfl] at H
                 simp only [Option.some.injEq, Prod.mk.injEq] at H
                 obtain ⟨rfl, rfl, rfl⟩ := H
                 go_wp2
                 repeat (go_quiet (fail); try go_wp2)
                 go_ret3
                 exact ⟨_, Sh.eR, by first | exact Kd.R_nil _ _ _ _ _ | exact Kd.N_nil _ _ _ _ _ | exact Kd.V_nil _ _ _ _ _ | exact Kd.Q_nil _ _ _ _ _ | exact Kd.S_nil _ _ _ _ _, Sh.bw⟩
                ·replace c34 := Bool.eq_false_iff.mpr c34
                 subst c34
                 rw [Sh.nf] at H
                 have H' := am_ H
                 clear H
                 go_wp2
                 repeat (go_quiet (fail); try go_wp2)
                 go_loopg [15, 16] kj30 (fun kq v15 v16 w' => ∃ (x15_5 : Int) (x16_5 : Int), v15 = .int .i64 x15_5 ∧ v16 = .int .i64 x16_5 ∧ Aside0 (spec_l10Read.l0 kq a0 t389 t390 x15_5 x16_5 = some (r1, r2, r3)) ∧ Aside0 (kq ≤ kj30) ∧ Aside0 (Kd.R k35 35 w' w.heap.size (fun _ => True) v392 t389) ∧ Aside0 (Below w.heap.size w w'))
                 case atStart => exact ⟨(0), (5), (Sh.es), (Sh.es), H', ⟨Nat.le_refl _⟩, ⟨Sh.rl HO_12.out⟩, ⟨Sh.bw⟩⟩
                 case round =>
                  clear H'
                  try clear hx6
                  obtain ⟨x15_5, x16_5, rfl, rfl, HA, HK5, HO_12, HB⟩ := hrel
                  cases gk with
                  | zero => exact absurd HA.out (by simp [spec_l10Read.l0])
                  | succ k5 =>
                   have H := HA.out
                   clear HA
                   simp only [spec_l10Read.l0] at H
                   by_cases c35 : x16_5 ≤ 8
                   ·rw [if_pos c35] at H
                    have c35b0 := decide_eq_true c35
                    clear c35
                    obtain ⟨ji36, hj1⟩ : ∃ j_ : Int, (wrap64 (x16_5 - 5)) = j_ := ⟨_, rfl⟩
                    replace H : (if 0 ≤ (ji36) then (if (ji36) < 4 then (if 0 ≤ t390 then (if t390 < (a0.size : Int) then (if (bt (⟨#[38, 124, 85, 82]⟩ : ByteArray) (ji36)) = (bt a0 t390) then (spec_l10Read.l0 k5 a0 t389 t390 x16_5 (wrap64 (x16_5 + 1))) else (spec_l10Read.l0 k5 a0 t389 t390 x15_5 (wrap64 (x16_5 + 1)))) else (none)) else (none)) else (none)) else (none)) = some (r1, r2, r3) := by first | (rw [hj1] at H; exact H) | (simp only [hj1] at H ⊢; exact H)
                    have hji36w : (IntKind.i64.wrap (x16_5 - 5)) = ji36 := (i64_w _).trans hj1
                    by_cases c37 : 0 ≤ (ji36)
                    ·rw [if_pos c37] at H
                     have c37b0 := decide_eq_true c37
                     clear c37
                     by_cases c38 : (ji36) < 4
                     ·rw [if_pos c38] at H
                      have c38b0 := decide_eq_true c38
                      clear c38
                      by_cases c40 : 0 ≤ t390
                      ·rw [if_pos c40] at H
                       have c40b0 := decide_eq_true c40
                       clear c40
                       by_cases c41 : t390 < (a0.size : Int)
                       ·rw [if_pos c41] at H
                        have c41b0 := decide_eq_true c41
                        clear c41
                        by_cases c43 : (bt (⟨#[38, 124, 85, 82]⟩ : ByteArray) (ji36)) = (bt a0 t390)
                        ·rw [if_pos c43] at H
                         have c43b0 : ((bt (⟨#[38, 124, 85, 82]⟩ : ByteArray) (ji36)) == (bt a0 t390)) = true := beq_iff_eq.mpr c43
                         have c43b1 : ((bt (⟨#[38, 124, 85, 82]⟩ : ByteArray) (ji36)) != (bt a0 t390)) = false := bne_eq_false_iff_eq.mpr c43
                         clear c43
                         have H' := am_ H
                         clear H
                         have p39 : 0 ≤ ((ji36) : Int) := Sh.od
                         have q39 : (ji36) < (4 : Int) := Sh.od
                         have hx39 := bt_at (⟨#[38, 124, 85, 82]⟩ : ByteArray) (ji36)
                         replace p39 := eq_true p39
                         replace q39 := eq_true q39
                         have p42 : 0 ≤ (t390 : Int) := Sh.od
                         have q42 : t390 < (a0.size : Int) := Sh.od
                         have hx42 := bt_at a0 t390
                         replace p42 := eq_true p42
                         replace q42 := eq_true q42
                         go_wp2
                         repeat (go_quiet (fail); try go_wp2)
                         go_roundg k5
                         case measure => have := HJ6.out; have := HJ12.out; have := HJ17.out; have := HJ30.out; have := HK5.out; omega
                         case rel => exact ⟨(x16_5), (wrap64 (x16_5 + 1)), (Sh.es), (Sh.es), H', ⟨by have := HJ6.out; have := HJ12.out; have := HJ17.out; have := HJ30.out; have := HK5.out; omega⟩, ⟨Sh.rl HO_12.out⟩, ⟨Sh.bw⟩⟩
                        ·rw [if_neg c43] at H
                         have c43b0 : ((bt (⟨#[38, 124, 85, 82]⟩ : ByteArray) (ji36)) == (bt a0 t390)) = false := beq_eq_false_iff_ne.mpr c43
                         have c43b1 : ((bt (⟨#[38, 124, 85, 82]⟩ : ByteArray) (ji36)) != (bt a0 t390)) = true := bne_iff_ne.mpr c43
                         have H' := am_ H
                         clear H
                         have p39 : 0 ≤ ((ji36) : Int) := Sh.od
                         have q39 : (ji36) < (4 : Int) := Sh.od
                         have hx39 := bt_at (⟨#[38, 124, 85, 82]⟩ : ByteArray) (ji36)
                         replace p39 := eq_true p39
                         replace q39 := eq_true q39
                         have p42 : 0 ≤ (t390 : Int) := Sh.od
                         have q42 : t390 < (a0.size : Int) := Sh.od
                         have hx42 := bt_at a0 t390
                         replace p42 := eq_true p42
                         replace q42 := eq_true q42
                         go_wp2
                         repeat (go_quiet (fail); try go_wp2)
                         go_roundg k5
                         case measure => have := HJ6.out; have := HJ12.out; have := HJ17.out; have := HJ30.out; have := HK5.out; omega
                         case rel => exact ⟨(x15_5), (wrap64 (x16_5 + 1)), (Sh.es), (Sh.es), H', ⟨by have := HJ6.out; have := HJ12.out; have := HJ17.out; have := HJ30.out; have := HK5.out; omega⟩, ⟨Sh.rl HO_12.out⟩, ⟨Sh.bw⟩⟩
                       ·rw [if_neg c41] at H
                        exact absurd H (by simp)
                      ·rw [if_neg c40] at H
                       exact absurd H (by simp)
                     ·rw [if_neg c38] at H
                      exact absurd H (by simp)
                    ·rw [if_neg c37] at H
                     exact absurd H (by simp)
                   ·rw [if_neg c35] at H
                    have c35b0 := decide_eq_false c35
                    clear c35
                    by_cases c44 : x15_5 = 0
                    ·rw [if_pos c44] at H
                     have c44b0 : (x15_5 == 0) = true := beq_iff_eq.mpr c44
                     have c44b1 : (x15_5 != 0) = false := bne_eq_false_iff_eq.mpr c44
                     clear c44
                     simp only [Option.some.injEq, Prod.mk.injEq] at H
                     obtain ⟨rfl, rfl, rfl⟩ := H
                     go_wp2
                     repeat (go_quiet (fail); try go_wp2)
                     go_ret3
                     exact ⟨_, Sh.eR, by first | exact Kd.R_nil _ _ _ _ _ | exact Kd.N_nil _ _ _ _ _ | exact Kd.V_nil _ _ _ _ _ | exact Kd.Q_nil _ _ _ _ _ | exact Kd.S_nil _ _ _ _ _, Sh.bw⟩
                    ·rw [if_neg c44] at H
                     have c44b0 : (x15_5 == 0) = false := beq_eq_false_iff_ne.mpr c44
                     have c44b1 : (x15_5 != 0) = true := bne_iff_ne.mpr c44
                     obtain ⟨⟨t394, t395, t396⟩, A450, H⟩ := Sh.bd H
                     have A45 := am_ A450
                     clear A450
                     by_cases c46 : t396 = true
                     ·subst c46
                      rw [if_pos rfl] at H
                      by_cases c47 : t395 = (a0.size : Int)
                      ·rw [if_pos c47] at H
                       have c47b0 : (t395 == (a0.size : Int)) = true := beq_iff_eq.mpr c47
                       have c47b1 : (t395 != (a0.size : Int)) = false := bne_eq_false_iff_eq.mpr c47
                       clear c47
                       simp only [Option.some.injEq, Prod.mk.injEq] at H
                       obtain ⟨rfl, rfl, rfl⟩ := H
                       go_wp2_with (first | (go_at_call 22; (with_reducible refine (ih k5 (by have := HJ6.out; have := HJ12.out; have := HJ17.out; have := HJ30.out; have := HK5.out; omega) a0 (wrap64 (t390 + 1)) t394 t395 true _ A45.out).mono ?_); rintro e w48 ⟨v397, rfl, ho0, hb⟩; have HO398 := am_ (Kd.R_lower (Kd.R_new' ho0 (Kd.R_lt (Sh.rl HO_12.out))) (below_size Sh.bw)); replace HO_12 := am_ (Kd.R_elder' (Sh.rl HO_12.out) (Kd.R_base ho0) hb); replace HB := Sh.hb hb; (try clear hb); (try clear hb2); (try clear hk); (try clear hi); (try clear ho0)))
                       repeat (go_quiet (first | (go_at_call 22; (with_reducible refine (ih k5 (by have := HJ6.out; have := HJ12.out; have := HJ17.out; have := HJ30.out; have := HK5.out; omega) a0 (wrap64 (t390 + 1)) t394 t395 true _ A45.out).mono ?_); rintro e w48 ⟨v397, rfl, ho0, hb⟩; have HO398 := am_ (Kd.R_lower (Kd.R_new' ho0 (Kd.R_lt (Sh.rl HO_12.out))) (below_size Sh.bw)); replace HO_12 := am_ (Kd.R_elder' (Sh.rl HO_12.out) (Kd.R_base ho0) hb); replace HB := Sh.hb hb; (try clear hb); (try clear hb2); (try clear hk); (try clear hi); (try clear ho0))); try go_wp2_with (first | (go_at_call 22; (with_reducible refine (ih k5 (by have := HJ6.out; have := HJ12.out; have := HJ17.out; have := HJ30.out; have := HK5.out; omega) a0 (wrap64 (t390 + 1)) t394 t395 true _ A45.out).mono ?_); rintro e w48 ⟨v397, rfl, ho0, hb⟩; have HO398 := am_ (Kd.R_lower (Kd.R_new' ho0 (Kd.R_lt (Sh.rl HO_12.out))) (below_size Sh.bw)); replace HO_12 := am_ (Kd.R_elder' (Sh.rl HO_12.out) (Kd.R_base ho0) hb); replace HB := Sh.hb hb; (try clear hb); (try clear hb2); (try clear hk); (try clear hi); (try clear ho0))))
                       go_ret3
                       exact ⟨_, Sh.eR, by first | exact Kd.R_nil _ _ _ _ _ | exact Kd.N_nil _ _ _ _ _ | exact Kd.V_nil _ _ _ _ _ | exact Kd.Q_nil _ _ _ _ _ | exact Kd.S_nil _ _ _ _ _, Sh.bw⟩
                      ·rw [if_neg c47] at H
                       have c47b0 : (t395 == (a0.size : Int)) = false := beq_eq_false_iff_ne.mpr c47
                       have c47b1 : (t395 != (a0.size : Int)) = true := bne_iff_ne.mpr c47
                       by_cases c49 : 0 ≤ t395
                       ·rw [if_pos c49] at H
                        have c49b0 := decide_eq_true c49
                        clear c49
                        by_cases c50 : t395 < (a0.size : Int)
                        ·rw [if_pos c50] at H
                         have c50b0 := decide_eq_true c50
                         clear c50
                         by_cases c52 : (bt a0 t395) = 41
                         ·rw [if_pos c52] at H
                          have c52b0 : ((bt a0 t395) == 41) = true := beq_iff_eq.mpr c52
                          have c52b1 : ((bt a0 t395) != 41) = false := bne_eq_false_iff_eq.mpr c52
                          clear c52
                          by_cases c53 : t389.length + t394.length < 8796093022208
                          ·rw [if_pos c53] at H
                           have LMc53 := am_ c53
                           clear c53
                           obtain ⟨y399, hy399⟩ : ∃ y_ : List (S35), y_ = (t389 ++ t394) := ⟨_, rfl⟩
                           replace H : (if y399.length < 8796093022208 then (some ((y399 ++ [(⟨x15_5, 0⟩ : S35)]), wrap64 (t395 + 1), true)) else (none)) = some (r1, r2, r3) := by first | (rw [hy399]; with_reducible exact H) | (have H2_ := (Option.bind_some _ _).symm.trans H; rw [hy399]; with_reducible exact H2_) | (have H2_ := (Option.bind_some _ _).symm.trans H; with_reducible exact H2_) | with_reducible exact H | (rw [hy399]; exact H) | exact H
                           have Ny399 := am_ hy399
                           clear hy399
                           by_cases c54 : y399.length < 8796093022208
                           ·rw [if_pos c54] at H
                            have LMc54 := am_ c54
                            clear c54
                            obtain ⟨y402, hy402⟩ : ∃ y_ : List (S35), y_ = (y399 ++ [(⟨x15_5, 0⟩ : S35)]) := ⟨_, rfl⟩
                            replace H : (some (y402, wrap64 (t395 + 1), true)) = some (r1, r2, r3) := by first | (rw [hy402]; with_reducible exact H) | (have H2_ := (Option.bind_some _ _).symm.trans H; rw [hy402]; with_reducible exact H2_) | (have H2_ := (Option.bind_some _ _).symm.trans H; with_reducible exact H2_) | with_reducible exact H | (rw [hy402]; exact H) | exact H
                            have Ny402 := am_ hy402
                            clear hy402
                            simp only [Option.some.injEq, Prod.mk.injEq] at H
                            obtain ⟨rfl, rfl, rfl⟩ := H
                            go_wp2_with (first | (go_at_call 22; (with_reducible refine (ih k5 (by have := HJ6.out; have := HJ12.out; have := HJ17.out; have := HJ30.out; have := HK5.out; omega) a0 (wrap64 (t390 + 1)) t394 t395 true _ A45.out).mono ?_); rintro e w55 ⟨v397, rfl, ho0, hb⟩; have HO398 := am_ (Kd.R_lower (Kd.R_new' ho0 (Kd.R_lt (Sh.rl HO_12.out))) (below_size Sh.bw)); replace HO_12 := am_ (Kd.R_elder' (Sh.rl HO_12.out) (Kd.R_base ho0) hb); replace HB := Sh.hb hb; (try clear hb); (try clear hb2); (try clear hk); (try clear hi); (try clear ho0); have p51 : 0 ≤ (t395 : Int) := Sh.od; have q51 : t395 < (a0.size : Int) := Sh.od; have hx51 := bt_at a0 t395; replace p51 := eq_true p51; replace q51 := eq_true q51; obtain ⟨Ao57, co57, eo57⟩ := Kd.R_slice HO398.out; subst eo57) | ((with_reducible refine gate_builtin (b := .append) (xs := #[.tmp 127, .tmp 128]) rfl ?_); (try (refine gate_guard (by rfl) ?_; dsimp only)); at_builtin; refine Kd.R_append_rows k35 (w0 := w) w.heap.size rfl (.tmp 127) (.tmp 128) 24 35 (.agg #[(.int .i64 0), (.int .i64 0)]) 16 rfl Try.underlying24 info35 rfl (by decide) (by omega) v392 t389 t394 _ _ _ (fun k_ => some k_ ≠ (.slice Ao57 t394.length co57 : Value).ownBlock) (fun _ => False) rfl rfl ?aO ?aR (fun _ _ h => h) (fun _ h => h.elim) ?aF ?aB ?aS ?aL ?_; (case aR => repeat (first | exact (Kd.R_reads' HO398.out).2.2 | (with_reducible first | refine Kd.C_alloc ?_ _ | refine Kd.C_drewN ?_ _ | refine Kd.C_drew ?_))); (case aB => exact Sh.bw); (case aF => exact (fun k_ hk => Kd.fresh' (Kd.R_lt (Sh.rl HO398.out)) k_ hk)); (case aO => exact (Sh.rl (Kd.R_mono HO_12.out (fun _ hk => hk.2)))); (case aS => exact (below_size Sh.bw)); (case aL => have := LMc53.out; omega); intro v400 w56 ho hb hg hat; rw [← Ny399.out] at ho; have n0_ := am_ (Kd.R_after (ok := (fun _ => True)) (Sh.rl HO398.out) hg hat); have n1_ := am_ hb; have n2_ := am_ ho; clear HO398; clear HB; clear HO_12; have HO398 := n0_; have HB := n1_; have HO401 := n2_; clear n0_ n1_ n2_; clear ho hb hg hat) | ((with_reducible refine gate_builtin (b := .append) (xs := #[.tmp 129, .tmp 132]) rfl ?_); (try (refine gate_guard (by rfl) ?_; dsimp only)); at_builtin; refine Kd.R_append k35 (w0 := w) w.heap.size rfl (.tmp 129) (.tmp 132) 24 35 (.agg #[(.int .i64 0), (.int .i64 0)]) 16 rfl Try.underlying24 info35 rfl (by decide) (by omega) v400 y399 (⟨x15_5, 0⟩ : S35) [.int .i64 x15_5, .int .i64 0] (fun k_ => some k_ ≠ (.slice Ao57 t394.length co57 : Value).ownBlock) (fun _ => False) rfl rfl ?aP (fun _ hk => hk.elim) ?aF ?aO ?aB ?aS ?aL ?_; (case aP => exact k35_mkM _ _ _ (⟨x15_5, 0⟩ : S35)); (case aB => exact Sh.bw); (case aF => exact (fun k_ hk => Kd.fresh' (Kd.R_lt (Sh.rl HO398.out)) k_ hk)); (case aO => exact (Sh.rl HO401.out)); (case aS => exact (below_size Sh.bw)); (case aL => have := LMc54.out; omega); intro v403 w58 ho hb hg hat; rw [← Ny402.out] at ho; have n0_ := am_ (Kd.R_after (ok := (fun _ => True)) (Sh.rl HO398.out) hg hat); have n1_ := am_ hb; have n2_ := am_ ho; clear HO398; clear HB; clear HO401; have HO398 := n0_; have HB := n1_; have HO404 := n2_; clear n0_ n1_ n2_; clear ho hb hg hat))
                            repeat (go_quiet (first | (go_at_call 22; (with_reducible refine (ih k5 (by have := HJ6.out; have := HJ12.out; have := HJ17.out; have := HJ30.out; have := HK5.out; omega) a0 (wrap64 (t390 + 1)) t394 t395 true _ A45.out).mono ?_); rintro e w55 ⟨v397, rfl, ho0, hb⟩; have HO398 := am_ (Kd.R_lower (Kd.R_new' ho0 (Kd.R_lt (Sh.rl HO_12.out))) (below_size Sh.bw)); replace HO_12 := am_ (Kd.R_elder' (Sh.rl HO_12.out) (Kd.R_base ho0) hb); replace HB := Sh.hb hb; (try clear hb); (try clear hb2); (try clear hk); (try clear hi); (try clear ho0); have p51 : 0 ≤ (t395 : Int) := Sh.od; have q51 : t395 < (a0.size : Int) := Sh.od; have hx51 := bt_at a0 t395; replace p51 := eq_true p51; replace q51 := eq_true q51; obtain ⟨Ao57, co57, eo57⟩ := Kd.R_slice HO398.out; subst eo57) | ((with_reducible refine gate_builtin (b := .append) (xs := #[.tmp 127, .tmp 128]) rfl ?_); (try (refine gate_guard (by rfl) ?_; dsimp only)); at_builtin; refine Kd.R_append_rows k35 (w0 := w) w.heap.size rfl (.tmp 127) (.tmp 128) 24 35 (.agg #[(.int .i64 0), (.int .i64 0)]) 16 rfl Try.underlying24 info35 rfl (by decide) (by omega) v392 t389 t394 _ _ _ (fun k_ => some k_ ≠ (.slice Ao57 t394.length co57 : Value).ownBlock) (fun _ => False) rfl rfl ?aO ?aR (fun _ _ h => h) (fun _ h => h.elim) ?aF ?aB ?aS ?aL ?_; (case aR => repeat (first | exact (Kd.R_reads' HO398.out).2.2 | (with_reducible first | refine Kd.C_alloc ?_ _ | refine Kd.C_drewN ?_ _ | refine Kd.C_drew ?_))); (case aB => exact Sh.bw); (case aF => exact (fun k_ hk => Kd.fresh' (Kd.R_lt (Sh.rl HO398.out)) k_ hk)); (case aO => exact (Sh.rl (Kd.R_mono HO_12.out (fun _ hk => hk.2)))); (case aS => exact (below_size Sh.bw)); (case aL => have := LMc53.out; omega); intro v400 w56 ho hb hg hat; rw [← Ny399.out] at ho; have n0_ := am_ (Kd.R_after (ok := (fun _ => True)) (Sh.rl HO398.out) hg hat); have n1_ := am_ hb; have n2_ := am_ ho; clear HO398; clear HB; clear HO_12; have HO398 := n0_; have HB := n1_; have HO401 := n2_; clear n0_ n1_ n2_; clear ho hb hg hat) | ((with_reducible refine gate_builtin (b := .append) (xs := #[.tmp 129, .tmp 132]) rfl ?_); (try (refine gate_guard (by rfl) ?_; dsimp only)); at_builtin; refine Kd.R_append k35 (w0 := w) w.heap.size rfl (.tmp 129) (.tmp 132) 24 35 (.agg #[(.int .i64 0), (.int .i64 0)]) 16 rfl Try.underlying24 info35 rfl (by decide) (by omega) v400 y399 (⟨x15_5, 0⟩ : S35) [.int .i64 x15_5, .int .i64 0] (fun k_ => some k_ ≠ (.slice Ao57 t394.length co57 : Value).ownBlock) (fun _ => False) rfl rfl ?aP (fun _ hk => hk.elim) ?aF ?aO ?aB ?aS ?aL ?_; (case aP => exact k35_mkM _ _ _ (⟨x15_5, 0⟩ : S35)); (case aB => exact Sh.bw); (case aF => exact (fun k_ hk => Kd.fresh' (Kd.R_lt (Sh.rl HO398.out)) k_ hk)); (case aO => exact (Sh.rl HO401.out)); (case aS => exact (below_size Sh.bw)); (case aL => have := LMc54.out; omega); intro v403 w58 ho hb hg hat; rw [← Ny402.out] at ho; have n0_ := am_ (Kd.R_after (ok := (fun _ => True)) (Sh.rl HO398.out) hg hat); have n1_ := am_ hb; have n2_ := am_ ho; clear HO398; clear HB; clear HO401; have HO398 := n0_; have HB := n1_; have HO404 := n2_; clear n0_ n1_ n2_; clear ho hb hg hat)); try go_wp2_with (first | (go_at_call 22; (with_reducible refine (ih k5 (by have := HJ6.out; have := HJ12.out; have := HJ17.out; have := HJ30.out; have := HK5.out; omega) a0 (wrap64 (t390 + 1)) t394 t395 true _ A45.out).mono ?_); rintro e w55 ⟨v397, rfl, ho0, hb⟩; have HO398 := am_ (Kd.R_lower (Kd.R_new' ho0 (Kd.R_lt (Sh.rl HO_12.out))) (below_size Sh.bw)); replace HO_12 := am_ (Kd.R_elder' (Sh.rl HO_12.out) (Kd.R_base ho0) hb); replace HB := Sh.hb hb; (try clear hb); (try clear hb2); (try clear hk); (try clear hi); (try clear ho0); have p51 : 0 ≤ (t395 : Int) := Sh.od; have q51 : t395 < (a0.size : Int) := Sh.od; have hx51 := bt_at a0 t395; replace p51 := eq_true p51; replace q51 := eq_true q51; obtain ⟨Ao57, co57, eo57⟩ := Kd.R_slice HO398.out; subst eo57) | ((with_reducible refine gate_builtin (b := .append) (xs := #[.tmp 127, .tmp 128]) rfl ?_); (try (refine gate_guard (by rfl) ?_; dsimp only)); at_builtin; refine Kd.R_append_rows k35 (w0 := w) w.heap.size rfl (.tmp 127) (.tmp 128) 24 35 (.agg #[(.int .i64 0), (.int .i64 0)]) 16 rfl Try.underlying24 info35 rfl (by decide) (by omega) v392 t389 t394 _ _ _ (fun k_ => some k_ ≠ (.slice Ao57 t394.length co57 : Value).ownBlock) (fun _ => False) rfl rfl ?aO ?aR (fun _ _ h => h) (fun _ h => h.elim) ?aF ?aB ?aS ?aL ?_; (case aR => repeat (first | exact (Kd.R_reads' HO398.out).2.2 | (with_reducible first | refine Kd.C_alloc ?_ _ | refine Kd.C_drewN ?_ _ | refine Kd.C_drew ?_))); (case aB => exact Sh.bw); (case aF => exact (fun k_ hk => Kd.fresh' (Kd.R_lt (Sh.rl HO398.out)) k_ hk)); (case aO => exact (Sh.rl (Kd.R_mono HO_12.out (fun _ hk => hk.2)))); (case aS => exact (below_size Sh.bw)); (case aL => have := LMc53.out; omega); intro v400 w56 ho hb hg hat; rw [← Ny399.out] at ho; have n0_ := am_ (Kd.R_after (ok := (fun _ => True)) (Sh.rl HO398.out) hg hat); have n1_ := am_ hb; have n2_ := am_ ho; clear HO398; clear HB; clear HO_12; have HO398 := n0_; have HB := n1_; have HO401 := n2_; clear n0_ n1_ n2_; clear ho hb hg hat) | ((with_reducible refine gate_builtin (b := .append) (xs := #[.tmp 129, .tmp 132]) rfl ?_); (try (refine gate_guard (by rfl) ?_; dsimp only)); at_builtin; refine Kd.R_append k35 (w0 := w) w.heap.size rfl (.tmp 129) (.tmp 132) 24 35 (.agg #[(.int .i64 0), (.int .i64 0)]) 16 rfl Try.underlying24 info35 rfl (by decide) (by omega) v400 y399 (⟨x15_5, 0⟩ : S35) [.int .i64 x15_5, .int .i64 0] (fun k_ => some k_ ≠ (.slice Ao57 t394.length co57 : Value).ownBlock) (fun _ => False) rfl rfl ?aP (fun _ hk => hk.elim) ?aF ?aO ?aB ?aS ?aL ?_; (case aP => exact k35_mkM _ _ _ (⟨x15_5, 0⟩ : S35)); (case aB => exact Sh.bw); (case aF => exact (fun k_ hk => Kd.fresh' (Kd.R_lt (Sh.rl HO398.out)) k_ hk)); (case aO => exact (Sh.rl HO401.out)); (case aS => exact (below_size Sh.bw)); (case aL => have := LMc54.out; omega); intro v403 w58 ho hb hg hat; rw [← Ny402.out] at ho; have n0_ := am_ (Kd.R_after (ok := (fun _ => True)) (Sh.rl HO398.out) hg hat); have n1_ := am_ hb; have n2_ := am_ ho; clear HO398; clear HB; clear HO401; have HO398 := n0_; have HB := n1_; have HO404 := n2_; clear n0_ n1_ n2_; clear ho hb hg hat)))
                            go_ret3
                            exact ⟨_, Sh.eR, Sh.rl (Kd.R_mono HO404.out (fun _ hk => trivial)), Sh.bw⟩
                           ·rw [if_neg c54] at H
                            exact absurd H (by simp)
                          ·rw [if_neg c53] at H
                           exact absurd H (by simp)
                         ·rw [if_neg c52] at H
                          have c52b0 : ((bt a0 t395) == 41) = false := beq_eq_false_iff_ne.mpr c52
                          have c52b1 : ((bt a0 t395) != 41) = true := bne_iff_ne.mpr c52
                          simp only [Option.some.injEq, Prod.mk.injEq] at H
                          obtain ⟨rfl, rfl, rfl⟩ := H
                          go_wp2_with (first | (go_at_call 22; (with_reducible refine (ih k5 (by have := HJ6.out; have := HJ12.out; have := HJ17.out; have := HJ30.out; have := HK5.out; omega) a0 (wrap64 (t390 + 1)) t394 t395 true _ A45.out).mono ?_); rintro e w59 ⟨v397, rfl, ho0, hb⟩; have HO398 := am_ (Kd.R_lower (Kd.R_new' ho0 (Kd.R_lt (Sh.rl HO_12.out))) (below_size Sh.bw)); replace HO_12 := am_ (Kd.R_elder' (Sh.rl HO_12.out) (Kd.R_base ho0) hb); replace HB := Sh.hb hb; (try clear hb); (try clear hb2); (try clear hk); (try clear hi); (try clear ho0); have p51 : 0 ≤ (t395 : Int) := Sh.od; have q51 : t395 < (a0.size : Int) := Sh.od; have hx51 := bt_at a0 t395; replace p51 := eq_true p51; replace q51 := eq_true q51))
                          repeat (go_quiet (first | (go_at_call 22; (with_reducible refine (ih k5 (by have := HJ6.out; have := HJ12.out; have := HJ17.out; have := HJ30.out; have := HK5.out; omega) a0 (wrap64 (t390 + 1)) t394 t395 true _ A45.out).mono ?_); rintro e w59 ⟨v397, rfl, ho0, hb⟩; have HO398 := am_ (Kd.R_lower (Kd.R_new' ho0 (Kd.R_lt (Sh.rl HO_12.out))) (below_size Sh.bw)); replace HO_12 := am_ (Kd.R_elder' (Sh.rl HO_12.out) (Kd.R_base ho0) hb); replace HB := Sh.hb hb; (try clear hb); (try clear hb2); (try clear hk); (try clear hi); (try clear ho0); have p51 : 0 ≤ (t395 : Int) := Sh.od; have q51 : t395 < (a0.size : Int) := Sh.od; have hx51 := bt_at a0 t395; replace p51 := eq_true p51; replace q51 := eq_true q51)); try go_wp2_with (first | (go_at_call 22; (with_reducible refine (ih k5 (by have := HJ6.out; have := HJ12.out; have := HJ17.out; have := HJ30.out; have := HK5.out; omega) a0 (wrap64 (t390 + 1)) t394 t395 true _ A45.out).mono ?_); rintro e w59 ⟨v397, rfl, ho0, hb⟩; have HO398 := am_ (Kd.R_lower (Kd.R_new' ho0 (Kd.R_lt (Sh.rl HO_12.out))) (below_size Sh.bw)); replace HO_12 := am_ (Kd.R_elder' (Sh.rl HO_12.out) (Kd.R_base ho0) hb); replace HB := Sh.hb hb; (try clear hb); (try clear hb2); (try clear hk); (try clear hi); (try clear ho0); have p51 : 0 ≤ (t395 : Int) := Sh.od; have q51 : t395 < (a0.size : Int) := Sh.od; have hx51 := bt_at a0 t395; replace p51 := eq_true p51; replace q51 := eq_true q51)))
                          go_ret3
                          exact ⟨_, Sh.eR, by first | exact Kd.R_nil _ _ _ _ _ | exact Kd.N_nil _ _ _ _ _ | exact Kd.V_nil _ _ _ _ _ | exact Kd.Q_nil _ _ _ _ _ | exact Kd.S_nil _ _ _ _ _, Sh.bw⟩
                        ·rw [if_neg c50] at H
                         exact absurd H (by simp)
                       ·rw [if_neg c49] at H
                        exact absurd H (by simp)
                     ·replace c46 := Bool.eq_false_iff.mpr c46
                      subst c46
                      rw [Sh.nf] at H
                      simp only [Option.some.injEq, Prod.mk.injEq] at H
                      obtain ⟨rfl, rfl, rfl⟩ := H
                      go_wp2_with (first | (go_at_call 22; (with_reducible refine (ih k5 (by have := HJ6.out; have := HJ12.out; have := HJ17.out; have := HJ30.out; have := HK5.out; omega) a0 (wrap64 (t390 + 1)) t394 t395 false _ A45.out).mono ?_); rintro e w60 ⟨v397, rfl, ho0, hb⟩; have HO398 := am_ (Kd.R_lower (Kd.R_new' ho0 (Kd.R_lt (Sh.rl HO_12.out))) (below_size Sh.bw)); replace HO_12 := am_ (Kd.R_elder' (Sh.rl HO_12.out) (Kd.R_base ho0) hb); replace HB := Sh.hb hb; (try clear hb); (try clear hb2); (try clear hk); (try clear hi); (try clear ho0)))
                      repeat (go_quiet (first | (go_at_call 22; (with_reducible refine (ih k5 (by have := HJ6.out; have := HJ12.out; have := HJ17.out; have := HJ30.out; have := HK5.out; omega) a0 (wrap64 (t390 + 1)) t394 t395 false _ A45.out).mono ?_); rintro e w60 ⟨v397, rfl, ho0, hb⟩; have HO398 := am_ (Kd.R_lower (Kd.R_new' ho0 (Kd.R_lt (Sh.rl HO_12.out))) (below_size Sh.bw)); replace HO_12 := am_ (Kd.R_elder' (Sh.rl HO_12.out) (Kd.R_base ho0) hb); replace HB := Sh.hb hb; (try clear hb); (try clear hb2); (try clear hk); (try clear hi); (try clear ho0))); try go_wp2_with (first | (go_at_call 22; (with_reducible refine (ih k5 (by have := HJ6.out; have := HJ12.out; have := HJ17.out; have := HJ30.out; have := HK5.out; omega) a0 (wrap64 (t390 + 1)) t394 t395 false _ A45.out).mono ?_); rintro e w60 ⟨v397, rfl, ho0, hb⟩; have HO398 := am_ (Kd.R_lower (Kd.R_new' ho0 (Kd.R_lt (Sh.rl HO_12.out))) (below_size Sh.bw)); replace HO_12 := am_ (Kd.R_elder' (Sh.rl HO_12.out) (Kd.R_base ho0) hb); replace HB := Sh.hb hb; (try clear hb); (try clear hb2); (try clear hk); (try clear hi); (try clear ho0))))
                      go_ret3
                      exact ⟨_, Sh.eR, by first | exact Kd.R_nil _ _ _ _ _ | exact Kd.N_nil _ _ _ _ _ | exact Kd.V_nil _ _ _ _ _ | exact Kd.Q_nil _ _ _ _ _ | exact Kd.S_nil _ _ _ _ _, Sh.bw⟩
             ·rw [if_neg c29] at H
              have c29b0 : ((bt a0 a1) == 40) = false := beq_eq_false_iff_ne.mpr c29
              have c29b1 : ((bt a0 a1) != 40) = true := bne_iff_ne.mpr c29
              simp only [Option.some.injEq, Prod.mk.injEq] at H
              obtain ⟨rfl, rfl, rfl⟩ := H
              go_wp2
              repeat (go_quiet (fail); try go_wp2)
              go_ret3
              exact ⟨_, Sh.eR, by first | exact Kd.R_nil _ _ _ _ _ | exact Kd.N_nil _ _ _ _ _ | exact Kd.V_nil _ _ _ _ _ | exact Kd.Q_nil _ _ _ _ _ | exact Kd.S_nil _ _ _ _ _, Sh.bw⟩
   ·rw [if_neg c5] at H
    exact absurd H (by simp)
  ·rw [if_neg c4] at H
   exact absurd H (by simp)
def spec_ReadSaid.j0 : Nat → List (S35) → Int → Bool → Option ((List (S35)) × Int × Bool)
 | 0, _, _, _ => none
 | k + 1, x5, x6, x24 => if x24 = true then (some (([] : List (S35)), x6, false)) else ((spec_GoodSaid.f k x5).bind fun t410 => (if t410 = true then (some (x5, x6, true)) else (some (([] : List (S35)), 0, false))))
def spec_ReadSaid.f (k : Nat) (a0 : ByteArray) : Option ((List (S35)) × Int × Bool) := if (a0.size : Int) > 200 then (some (([] : List (S35)), 0, false)) else ((spec_l10Read.f k a0 0).bind fun bt405 => (if bt405.2.2 = true then (spec_ReadSaid.j0 k bt405.1 bt405.2.1 (decide (bt405.2.1 < (a0.size : Int)))) else (spec_ReadSaid.j0 k bt405.1 bt405.2.1 true)))
theorem spec_ReadSaid.mono_l : ∀ k, (∀ y0 y1 y2, LeO (spec_ReadSaid.j0 k y0 y1 y2) (spec_ReadSaid.j0 (k + 1) y0 y1 y2))
 | 0 => fun _ _ _ r h => by simp [spec_ReadSaid.j0] at h
 | k + 1 => by
  have ih0 := spec_ReadSaid.mono_l k
  ·intro y0 y1 y2
   unfold spec_ReadSaid.j0
   repeat' with_reducible first | apply ih0 | apply spec_GoodSaid.mono | apply spec_l10Read.mono | exact LeO.refl _ | exact LeO.none _ | apply LeO.ite | refine LeO.bind ?_ fun _ => ?_
theorem spec_ReadSaid.mono : ∀ a0 k, LeO (spec_ReadSaid.f k a0) (spec_ReadSaid.f (k + 1) a0) := by
 intro a0 k
 have ih0 := spec_ReadSaid.mono_l k
 unfold spec_ReadSaid.f
 repeat' with_reducible first | apply ih0 | apply spec_GoodSaid.mono | apply spec_l10Read.mono | exact LeO.refl _ | exact LeO.none _ | apply LeO.ite | refine LeO.bind ?_ fun _ => ?_
theorem spec_ReadSaid.calls (k : Nat) (a0 : ByteArray) (r1 : List (S35)) (r2 : Int) (r3 : Bool) (w : World) (h : spec_ReadSaid.f k a0 = some (r1, r2, r3)) :
  Calls Try.prog 11 #[.string a0] w fun e w' => ∃ v0_ : Value, e = .returned (.tuple #[v0_, .int .i64 r2, .bool r3]) ∧ Kd.R k35 35 w' w.heap.size (fun _ => True) v0_ r1 ∧ Below w.heap.size w w' := by
 have HB := am_ (Below.refl w.heap.size w)
 have H := h
 clear h
 unfold spec_ReadSaid.f at H
 by_cases c2 : (a0.size : Int) > 200
 ·rw [if_pos c2] at H
  have c2b0 : decide (200 < (a0.size : Int)) = true := decide_eq_true c2
  have c2b1 : decide (200 < a0.size) = true := decide_eq_true (by omega)
  clear c2
  simp only [Option.some.injEq, Prod.mk.injEq] at H
  obtain ⟨rfl, rfl, rfl⟩ := H
  go_enter Try.func11, Try.ntmps11
  go_wp2
  go_ret3
  exact ⟨_, Sh.eR, by first | exact Kd.R_nil _ _ _ _ _ | exact Kd.N_nil _ _ _ _ _ | exact Kd.V_nil _ _ _ _ _ | exact Kd.Q_nil _ _ _ _ _ | exact Kd.S_nil _ _ _ _ _, Sh.bw⟩
 ·rw [if_neg c2] at H
  have c2b0 : decide (200 < (a0.size : Int)) = false := decide_eq_false c2
  have c2b1 : decide (200 < a0.size) = false := decide_eq_false (by omega)
  clear c2
  obtain ⟨⟨t405, t406, t407⟩, A30, H⟩ := Sh.bd H
  have A3 := am_ A30
  clear A30
  have HC4 := am_ H
  clear H
  go_enter Try.func11, Try.ntmps11
  go_upto_region 4 with (first | ((with_reducible refine Sh.k 22 ?_); refine Sh.gL (some 13) Try.func22 #[.string a0, .int .i64 0] (h := ?_); (with_reducible refine (spec_l10Read.calls k a0 0 t405 t406 t407 _ A3.out).mono ?_); rintro e w5 ⟨v408, rfl, ho0, hb⟩; refine ⟨_, rfl, ?_⟩; have HO409 := am_ (Kd.R_lower ho0 (below_size Sh.bw)); replace HB := Sh.hb hb; (try clear hb); (try clear hb2); (try clear hk); (try clear hi); (try clear ho0)))
  (try simp only [Act.put, List.setIfInBounds_toArray, List.set_cons_zero, List.set_cons_succ])
  go_cut [24] (fun v24 wc => ∃ (kq : Nat) (x24_3 : Bool), v24 = .bool x24_3 ∧ Aside0 (spec_ReadSaid.j0 kq t405 t406 x24_3 = some (r1, r2, r3)) ∧ Aside0 (kq ≤ k) ∧ Aside0 (Kd.R k35 35 wc w.heap.size (fun _ => True) v408 t405) ∧ Aside0 (Below w.heap.size w wc))
  case first =>
   have H := HC4.out
   clear HC4
   by_cases c6 : t407 = true
   ·subst c6
    rw [if_pos rfl] at H
    have H' := am_ H
    clear H
    go_wp2
    go_meet
    case rel => exact ⟨_, (decide (t406 < (a0.size : Int))), (Sh.es), H', ⟨Sh.om⟩, ⟨Sh.rl HO409.out⟩, ⟨Sh.bw⟩⟩
   ·replace c6 := Bool.eq_false_iff.mpr c6
    subst c6
    rw [Sh.nf] at H
    have H' := am_ H
    clear H
    go_wp2
    go_meet
    case rel => exact ⟨_, (true), (Sh.es), H', ⟨Sh.om⟩, ⟨Sh.rl HO409.out⟩, ⟨Sh.bw⟩⟩
  case rest =>
   clear HC4
   obtain ⟨kq, x24_3, rfl, HA, HJ3, HO_5, HB⟩ := hcut
   cases kq with
   | zero => exact absurd HA.out (by simp [spec_ReadSaid.j0])
   | succ kj3 =>
    have H := HA.out
    clear HA
    simp only [spec_ReadSaid.j0] at H
    by_cases c7 : x24_3 = true
    ·subst c7
     rw [if_pos rfl] at H
     simp only [Option.some.injEq, Prod.mk.injEq] at H
     obtain ⟨rfl, rfl, rfl⟩ := H
     go_wp2
     go_ret3
     exact ⟨_, Sh.eR, by first | exact Kd.R_nil _ _ _ _ _ | exact Kd.N_nil _ _ _ _ _ | exact Kd.V_nil _ _ _ _ _ | exact Kd.Q_nil _ _ _ _ _ | exact Kd.S_nil _ _ _ _ _, Sh.bw⟩
    ·replace c7 := Bool.eq_false_iff.mpr c7
     subst c7
     rw [Sh.nf] at H
     obtain ⟨t410, A8, H⟩ := Sh.ba H
     by_cases c9 : t410 = true
     ·subst c9
      rw [if_pos rfl] at H
      simp only [Option.some.injEq, Prod.mk.injEq] at H
      obtain ⟨rfl, rfl, rfl⟩ := H
      obtain ⟨Ao10, co10, eo10⟩ := Kd.R_slice HO_5.out
      subst eo10
      go_wp2_with (first | ((with_reducible refine Sh.k 15 ?_); refine Sh.gB (some 27) Try.func15 #[.slice Ao10 t405.length co10] (spec_GoodSaid.calls kj3 _ _ t405 true _ (Sh.cR (Kd.R_reads' HO_5.out).2.2) (Kd.R_reads' HO_5.out).2.1 A8.out) fun w11 hb => ?_; replace HO_5 := am_ (Kd.R_below (Sh.rl HO_5.out) hb); replace HB := Sh.hb hb; (try clear hb); (try clear hb2); (try clear hk); (try clear hi)))
      go_ret3
      exact ⟨_, Sh.eR, Sh.rl HO_5.out, Sh.bw⟩
     ·replace c9 := Bool.eq_false_iff.mpr c9
      subst c9
      rw [Sh.nf] at H
      simp only [Option.some.injEq, Prod.mk.injEq] at H
      obtain ⟨rfl, rfl, rfl⟩ := H
      obtain ⟨Ao12, co12, eo12⟩ := Kd.R_slice HO_5.out
      subst eo12
      go_wp2_with (first | ((with_reducible refine Sh.k 15 ?_); refine Sh.gB (some 27) Try.func15 #[.slice Ao12 t405.length co12] (spec_GoodSaid.calls kj3 _ _ t405 false _ (Sh.cR (Kd.R_reads' HO_5.out).2.2) (Kd.R_reads' HO_5.out).2.1 A8.out) fun w13 hb => ?_; replace HO_5 := am_ (Kd.R_below (Sh.rl HO_5.out) hb); replace HB := Sh.hb hb; (try clear hb); (try clear hb2); (try clear hk); (try clear hi)))
      go_ret3
      exact ⟨_, Sh.eR, by first | exact Kd.R_nil _ _ _ _ _ | exact Kd.N_nil _ _ _ _ _ | exact Kd.V_nil _ _ _ _ _ | exact Kd.Q_nil _ _ _ _ _ | exact Kd.S_nil _ _ _ _ _, Sh.bw⟩
mutual
def laws_FnSaidBack.j0 : Nat → List Int → List (S35) → ByteArray → Bool → Bool → Option (Bool)
 | 0, _, _, _, _, _ => none
 | k + 1, x1, x5, x6, x7, x44 => if x44 = true then (some false) else (if x7 = true then ((impl_ReadSaid.f k x6).bind fun bt419 => (if bt419.2.2 = true then (if bt419.2.1 = (x6.size : Int) then ((laws_sameSaid.f k bt419.1 x5).bind fun t424 => (if t424 = true then (laws_FnSaidBack.j1 k x1) else (some false))) else (some false)) else (some false))) else (laws_FnSaidBack.j1 k x1))
def laws_FnSaidBack.j1 : Nat → List Int → Option (Bool)
 | 0, _ => none
 | k + 1, x1 => (spec_DrawReadSaid.f k x1).bind fun t425 => ((impl_ReadSaid.f k t425).bind fun bt426 => ((spec_ReadSaid.f k t425).bind fun bt431 => (if (bt426.2.2 != bt431.2.2) = true then (laws_FnSaidBack.j2 k t425 bt426.1 bt426.2.1 bt426.2.2 true) else (if bt426.2.1 = bt431.2.1 then ((laws_sameSaid.f k bt426.1 bt431.1).bind fun t436 => (laws_FnSaidBack.j2 k t425 bt426.1 bt426.2.1 bt426.2.2 (!t436))) else (laws_FnSaidBack.j2 k t425 bt426.1 bt426.2.1 bt426.2.2 true)))))
def laws_FnSaidBack.j2 : Nat → ByteArray → List (S35) → Int → Bool → Bool → Option (Bool)
 | 0, _, _, _, _, _ => none
 | k + 1, x13, x14, x15, x16, x93 => if x93 = true then (some false) else (if x16 = true then ((impl_SaidText.f k x14).bind fun bt437 => (if bt437.2 = true then (some (bt437.1.toList == x13.toList)) else (some false))) else (if x15 ≥ 0 then (some (decide (x15 ≤ (x13.size : Int)))) else (some false)))
end
def laws_FnSaidBack.f (k : Nat) (l0 : List Int) (l1 : List Int) : Option (Bool) := (laws_big.f l0 l1).bind fun t411 => (if t411 = true then (some true) else ((spec_DrawSaidText.f k l0).bind fun t412 => ((impl_SaidText.f k t412).bind fun bt415 => ((spec_SaidText.f k t412).bind fun bt417 => (if (bt415.2 != bt417.2) = true then (laws_FnSaidBack.j0 k l1 t412 bt415.1 bt415.2 true) else (laws_FnSaidBack.j0 k l1 t412 bt415.1 bt415.2 (bt415.1.toList != bt417.1.toList)))))))
theorem laws_FnSaidBack.mono_l : ∀ k, (∀ y0 y1 y2 y3 y4, LeO (laws_FnSaidBack.j0 k y0 y1 y2 y3 y4) (laws_FnSaidBack.j0 (k + 1) y0 y1 y2 y3 y4)) ∧ (∀ y0, LeO (laws_FnSaidBack.j1 k y0) (laws_FnSaidBack.j1 (k + 1) y0)) ∧ (∀ y0 y1 y2 y3 y4, LeO (laws_FnSaidBack.j2 k y0 y1 y2 y3 y4) (laws_FnSaidBack.j2 (k + 1) y0 y1 y2 y3 y4))
 | 0 => ⟨fun _ _ _ _ _ r h => by simp [laws_FnSaidBack.j0] at h, fun _ r h => by simp [laws_FnSaidBack.j1] at h, fun _ _ _ _ _ r h => by simp [laws_FnSaidBack.j2] at h⟩
 | k + 1 => by
  obtain ⟨ih0, ih1, ih2⟩ := laws_FnSaidBack.mono_l k
  and_intros <;> intros
  all_goals (first | unfold laws_FnSaidBack.j0 | unfold laws_FnSaidBack.j1 | unfold laws_FnSaidBack.j2)
  all_goals repeat' with_reducible first | apply ih0 | apply ih1 | apply ih2 | apply impl_ReadSaid.mono | apply impl_SaidText.mono | apply laws_sameSaid.mono | apply spec_DrawReadSaid.mono | apply spec_DrawSaidText.mono | apply spec_ReadSaid.mono | apply spec_SaidText.mono | exact LeO.refl _ | exact LeO.none _ | apply LeO.ite | refine LeO.bind ?_ fun _ => ?_
theorem laws_FnSaidBack.mono : ∀ a0 a1 k, LeO (laws_FnSaidBack.f k a0 a1) (laws_FnSaidBack.f (k + 1) a0 a1) := by
 intro a0 a1 k
 obtain ⟨ih0, ih1, ih2⟩ := laws_FnSaidBack.mono_l k
 unfold laws_FnSaidBack.f
 repeat' with_reducible first | apply ih0 | apply ih1 | apply ih2 | apply impl_ReadSaid.mono | apply impl_SaidText.mono | apply laws_sameSaid.mono | apply spec_DrawReadSaid.mono | apply spec_DrawSaidText.mono | apply spec_ReadSaid.mono | apply spec_SaidText.mono | exact LeO.refl _ | exact LeO.none _ | apply LeO.ite | refine LeO.bind ?_ fun _ => ?_
theorem laws_FnSaidBack.calls (k : Nat) (A0 : Option Addr) (c0 : Nat) (l0 : List Int) (A1 : Option Addr) (c1 : Nat) (l1 : List Int) (r : Bool) (w : World) (hr0 : Kd.C (Kd.int .u8) w A0 l0.length l0) (hc0 : l0.length ≤ c0) (hr1 : Kd.C (Kd.int .u8) w A1 l1.length l1) (hc1 : l1.length ≤ c1) (h : laws_FnSaidBack.f k l0 l1 = some r) :
  Calls Try.prog 3 #[.slice A0 l0.length c0, .slice A1 l1.length c1] w fun e w' => e = .returned (.bool r) ∧ Below w.heap.size w w' := by
 have HR0 := am_ hr0
 have HC0 := am_ hc0
 clear hr0 hc0
 have HR1 := am_ hr1
 have HC1 := am_ hc1
 clear hr1 hc1
 have HB := am_ (Below.refl w.heap.size w)
 have H := h
 clear h
 unfold laws_FnSaidBack.f at H
 obtain ⟨t411, A3, H⟩ := Sh.ba H
 by_cases c4 : t411 = true
 ·subst c4
  rw [if_pos rfl] at H
  obtain rfl := Option.some.inj H
  go_enter Try.func3, Try.ntmps3
  go_wp2_with (first | ((with_reducible refine Sh.k 4 ?_); refine Sh.gL (some 24) Try.func4 #[.slice A0 l0.length c0, .slice A1 l1.length c1] (h := ?_); (with_reducible refine (laws_big.calls _ _ l0 _ _ l1 true _ ?side1 ?side2 ?side3 ?side4 A3.out).mono ?_); (case side1 => repeat (first | exact HR0.out | (with_reducible first | refine Kd.C_alloc ?_ _ | refine Kd.C_drewN ?_ _ | refine Kd.C_drew ?_))); (case side2 => exact HC0.out); (case side3 => repeat (first | exact HR1.out | (with_reducible first | refine Kd.C_alloc ?_ _ | refine Kd.C_drewN ?_ _ | refine Kd.C_drew ?_))); (case side4 => exact HC1.out); rintro e w' ⟨rfl, ⟨nd, rfl⟩⟩; refine ⟨_, rfl, ?_⟩))
  go_ret
  exact ⟨Sh.eR, Sh.bw⟩
 ·replace c4 := Bool.eq_false_iff.mpr c4
  subst c4
  rw [Sh.nf] at H
  obtain ⟨t412, A5, H⟩ := Sh.ba H
  obtain ⟨⟨t415, t416⟩, A60, H⟩ := Sh.bd H
  have A6 := am_ A60
  clear A60
  obtain ⟨⟨t417, t418⟩, A70, H⟩ := Sh.bd H
  have A7 := am_ A70
  clear A70
  have HC8 := am_ H
  clear H
  go_enter Try.func3, Try.ntmps3
  go_upto_region 6 with (first | ((with_reducible refine Sh.k 4 ?_); refine Sh.gL (some 24) Try.func4 #[.slice A0 l0.length c0, .slice A1 l1.length c1] (h := ?_); (with_reducible refine (laws_big.calls _ _ l0 _ _ l1 false _ ?side1 ?side2 ?side3 ?side4 A3.out).mono ?_); (case side1 => repeat (first | exact HR0.out | (with_reducible first | refine Kd.C_alloc ?_ _ | refine Kd.C_drewN ?_ _ | refine Kd.C_drew ?_))); (case side2 => exact HC0.out); (case side3 => repeat (first | exact HR1.out | (with_reducible first | refine Kd.C_alloc ?_ _ | refine Kd.C_drewN ?_ _ | refine Kd.C_drew ?_))); (case side4 => exact HC1.out); rintro e w' ⟨rfl, ⟨nd, rfl⟩⟩; refine ⟨_, rfl, ?_⟩) | ((with_reducible refine Sh.k 5 ?_); refine Sh.gL (some 26) Try.func5 #[.slice A0 l0.length c0] (h := ?_); (with_reducible refine (spec_DrawSaidText.calls k _ _ l0 t412 _ ?side1 ?side2 A5.out).mono ?_); (case side1 => repeat (first | exact HR0.out | (with_reducible first | refine Kd.C_alloc ?_ _ | refine Kd.C_drewN ?_ _ | refine Kd.C_drew ?_))); (case side2 => exact HC0.out); rintro e w9 ⟨v413, rfl, ho0, hb⟩; refine ⟨_, rfl, ?_⟩; have HO414 := am_ (Kd.Q_lower ho0 (below_size Sh.bw)); replace HB := Sh.hb hb; (try clear hb); (try clear hb2); (try clear hk); (try clear hi); (try clear ho0); obtain ⟨Ao10, co10, eo10, _⟩ := Kd.Q_slice HO414.out; subst eo10) | ((with_reducible refine Sh.k 6 ?_); refine Sh.gB (some 29) Try.func6 #[.slice Ao10 t412.length co10] (impl_SaidText.calls k _ _ t412 t415 t416 _ (Sh.cR (Kd.Q_reads' HO414.out).2.2) (Kd.Q_reads' HO414.out).2.1 A6.out) fun w11 hb => ?_; replace HO414 := am_ (Kd.Q_below (by (with_reducible repeat (first | apply Kd.Q_alloc | apply Kd.Q_drewN | apply Kd.Q_drew)); exact HO414.out) hb); replace HB := Sh.hb hb; (try clear hb); (try clear hb2); (try clear hk); (try clear hi)) | ((with_reducible refine Sh.k 7 ?_); refine Sh.gB (some 34) Try.func7 #[.slice Ao10 t412.length co10] (spec_SaidText.calls k _ _ t412 t417 t418 _ (Sh.cR (Kd.Q_reads' HO414.out).2.2) (Kd.Q_reads' HO414.out).2.1 A7.out) fun w12 hb => ?_; replace HO414 := am_ (Kd.Q_below (by (with_reducible repeat (first | apply Kd.Q_alloc | apply Kd.Q_drewN | apply Kd.Q_drew)); exact HO414.out) hb); replace HB := Sh.hb hb; (try clear hb); (try clear hb2); (try clear hk); (try clear hi)))
  (try simp only [Act.put, List.setIfInBounds_toArray, List.set_cons_zero, List.set_cons_succ])
  go_cut [44] (fun v44 wc => ∃ (kq : Nat) (x44_7 : Bool), v44 = .bool x44_7 ∧ Aside0 (laws_FnSaidBack.j0 kq l1 t412 t415 t416 x44_7 = some r) ∧ Aside0 (kq ≤ k) ∧ Aside0 (Kd.Q k35 35 wc w.heap.size (fun _ => True) (.slice Ao10 t412.length co10) t412) ∧ Aside0 (Below w.heap.size w wc))
  case first =>
   have H := HC8.out
   clear HC8
   by_cases c13 : (t416 != t418) = true
   ·rw [if_pos c13] at H
    have c13b0 : (t416 != t418) = true := c13
    (try (have c13b1 : decide (t416 = t418) = false := by simpa using c13))
    (try (have c13b2 : (t416 == t418) = false := by simpa using c13))
    (try (have c13b3 : ¬ (t416 = t418) := by simpa using c13))
    clear c13
    first | rw [c13b0] | (simp only [i64_w, i32_w]; rw [c13b0]) | skip
    have H' := am_ H
    clear H
    go_wp2
    go_meet
    case rel => exact ⟨_, (true), (Sh.es), H', ⟨Sh.om⟩, ⟨by (with_reducible repeat (first | apply Kd.Q_alloc | apply Kd.Q_drewN | apply Kd.Q_drew)); exact HO414.out⟩, ⟨Sh.bw⟩⟩
   ·rw [if_neg c13] at H
    have c13b0 : (t416 != t418) = false := by simpa using c13
    (try (have c13b1 : decide (t416 = t418) = true := by simpa using c13))
    (try (have c13b2 : (t416 == t418) = true := by simpa using c13))
    clear c13
    first | rw [c13b0] | (simp only [i64_w, i32_w]; rw [c13b0]) | skip
    have H' := am_ H
    clear H
    go_wp2
    go_meet
    case rel => exact ⟨_, ((t415.toList != t417.toList)), (Sh.es), H', ⟨Sh.om⟩, ⟨by (with_reducible repeat (first | apply Kd.Q_alloc | apply Kd.Q_drewN | apply Kd.Q_drew)); exact HO414.out⟩, ⟨Sh.bw⟩⟩
  case rest =>
   clear HC8
   obtain ⟨kq, x44_7, rfl, HA, HJ7, HO_5, HB⟩ := hcut
   cases kq with
   | zero => exact absurd HA.out (by simp [laws_FnSaidBack.j0])
   | succ kj7 =>
    have H := HA.out
    clear HA
    simp only [laws_FnSaidBack.j0] at H
    by_cases c14 : x44_7 = true
    ·subst c14
     rw [if_pos rfl] at H
     obtain rfl := Option.some.inj H
     go_wp2
     go_ret
     exact ⟨Sh.eR, Sh.bw⟩
    ·replace c14 := Bool.eq_false_iff.mpr c14
     subst c14
     rw [Sh.nf] at H
     have HC15 := am_ H
     clear H
     go_upto_if 45 with (fail)
     go_cut [] (fun wc => ∃ (kq : Nat), Aside0 (laws_FnSaidBack.j1 kq l1 = some r) ∧ Aside0 (kq ≤ kj7) ∧ Aside0 (Below w.heap.size w wc))
     case first =>
      have H := HC15.out
      clear HC15
      by_cases c16 : t416 = true
      ·subst c16
       rw [if_pos rfl] at H
       obtain ⟨⟨t419, t420, t421⟩, A170, H⟩ := Sh.bd H
       have A17 := am_ A170
       clear A170
       by_cases c18 : t421 = true
       ·subst c18
        rw [if_pos rfl] at H
        by_cases c19 : t420 = (t415.size : Int)
        ·rw [if_pos c19] at H
         have c19b0 : (t420 == (t415.size : Int)) = true := beq_iff_eq.mpr c19
         have c19b1 : (t420 != (t415.size : Int)) = false := bne_eq_false_iff_eq.mpr c19
         clear c19
         first | rw [c19b0] | (simp only [i64_w, i32_w]; rw [c19b0]) | skip
         obtain ⟨t424, A20, H⟩ := Sh.ba H
         by_cases c21 : t424 = true
         ·subst c21
          rw [if_pos rfl] at H
          have H' := am_ H
          clear H
          go_wp2_with (first | ((with_reducible refine Sh.k 8 ?_); refine Sh.gL (some 48) Try.func8 #[.string t415] (h := ?_); (with_reducible refine (impl_ReadSaid.calls kj7 t415 t419 t420 true _ A17.out).mono ?_); rintro e w22 ⟨v422, rfl, ho0, hb⟩; refine ⟨_, rfl, ?_⟩; have HO423 := am_ (Kd.R_lower (Kd.R_new' ho0 (Kd.Q_lt (by (with_reducible repeat (first | apply Kd.Q_alloc | apply Kd.Q_drewN | apply Kd.Q_drew)); exact HO_5.out))) (below_size Sh.bw)); replace HO_5 := am_ (Kd.Q_elder' (by (with_reducible repeat (first | apply Kd.Q_alloc | apply Kd.Q_drewN | apply Kd.Q_drew)); exact HO_5.out) (Kd.R_base ho0) hb); replace HB := Sh.hb hb; (try clear hb); (try clear hb2); (try clear hk); (try clear hi); (try clear ho0); obtain ⟨Ao23, co23, eo23⟩ := Kd.R_slice HO423.out; subst eo23) | (go_at_call 9; (with_reducible refine (laws_sameSaid.calls kj7 _ _ t419 _ _ t412 true _ (Sh.cR (Kd.R_reads' HO423.out).2.2) (Kd.R_reads' HO423.out).2.1 (Sh.cR (Kd.Q_reads' HO_5.out).2.2) (Kd.Q_reads' HO_5.out).2.1 A20.out).mono ?_); rintro e w' ⟨rfl, ⟨nd, rfl⟩⟩))
          go_meet
          case rel => exact ⟨_, H', ⟨by have := HJ7.out; first | omega | exact Nat.le_refl _⟩, ⟨Sh.bw⟩⟩
         ·replace c21 := Bool.eq_false_iff.mpr c21
          subst c21
          rw [Sh.nf] at H
          obtain rfl := Option.some.inj H
          go_wp2_with (first | ((with_reducible refine Sh.k 8 ?_); refine Sh.gL (some 48) Try.func8 #[.string t415] (h := ?_); (with_reducible refine (impl_ReadSaid.calls kj7 t415 t419 t420 true _ A17.out).mono ?_); rintro e w24 ⟨v422, rfl, ho0, hb⟩; refine ⟨_, rfl, ?_⟩; have HO423 := am_ (Kd.R_lower (Kd.R_new' ho0 (Kd.Q_lt (by (with_reducible repeat (first | apply Kd.Q_alloc | apply Kd.Q_drewN | apply Kd.Q_drew)); exact HO_5.out))) (below_size Sh.bw)); replace HO_5 := am_ (Kd.Q_elder' (by (with_reducible repeat (first | apply Kd.Q_alloc | apply Kd.Q_drewN | apply Kd.Q_drew)); exact HO_5.out) (Kd.R_base ho0) hb); replace HB := Sh.hb hb; (try clear hb); (try clear hb2); (try clear hk); (try clear hi); (try clear ho0); obtain ⟨Ao25, co25, eo25⟩ := Kd.R_slice HO423.out; subst eo25) | (go_at_call 9; (with_reducible refine (laws_sameSaid.calls kj7 _ _ t419 _ _ t412 false _ (Sh.cR (Kd.R_reads' HO423.out).2.2) (Kd.R_reads' HO423.out).2.1 (Sh.cR (Kd.Q_reads' HO_5.out).2.2) (Kd.Q_reads' HO_5.out).2.1 A20.out).mono ?_); rintro e w' ⟨rfl, ⟨nd, rfl⟩⟩))
          go_ret
          exact ⟨Sh.eR, Sh.bw⟩
        ·rw [if_neg c19] at H
         have c19b0 : (t420 == (t415.size : Int)) = false := beq_eq_false_iff_ne.mpr c19
         have c19b1 : (t420 != (t415.size : Int)) = true := bne_iff_ne.mpr c19
         first | rw [c19b0] | (simp only [i64_w, i32_w]; rw [c19b0]) | skip
         obtain rfl := Option.some.inj H
         go_wp2_with (first | ((with_reducible refine Sh.k 8 ?_); refine Sh.gL (some 48) Try.func8 #[.string t415] (h := ?_); (with_reducible refine (impl_ReadSaid.calls kj7 t415 t419 t420 true _ A17.out).mono ?_); rintro e w26 ⟨v422, rfl, ho0, hb⟩; refine ⟨_, rfl, ?_⟩; have HO423 := am_ (Kd.R_lower (Kd.R_new' ho0 (Kd.Q_lt (by (with_reducible repeat (first | apply Kd.Q_alloc | apply Kd.Q_drewN | apply Kd.Q_drew)); exact HO_5.out))) (below_size Sh.bw)); replace HO_5 := am_ (Kd.Q_elder' (by (with_reducible repeat (first | apply Kd.Q_alloc | apply Kd.Q_drewN | apply Kd.Q_drew)); exact HO_5.out) (Kd.R_base ho0) hb); replace HB := Sh.hb hb; (try clear hb); (try clear hb2); (try clear hk); (try clear hi); (try clear ho0)))
         go_ret
         exact ⟨Sh.eR, Sh.bw⟩
       ·replace c18 := Bool.eq_false_iff.mpr c18
        subst c18
        rw [Sh.nf] at H
        obtain rfl := Option.some.inj H
        go_wp2_with (first | ((with_reducible refine Sh.k 8 ?_); refine Sh.gL (some 48) Try.func8 #[.string t415] (h := ?_); (with_reducible refine (impl_ReadSaid.calls kj7 t415 t419 t420 false _ A17.out).mono ?_); rintro e w27 ⟨v422, rfl, ho0, hb⟩; refine ⟨_, rfl, ?_⟩; have HO423 := am_ (Kd.R_lower (Kd.R_new' ho0 (Kd.Q_lt (by (with_reducible repeat (first | apply Kd.Q_alloc | apply Kd.Q_drewN | apply Kd.Q_drew)); exact HO_5.out))) (below_size Sh.bw)); replace HO_5 := am_ (Kd.Q_elder' (by (with_reducible repeat (first | apply Kd.Q_alloc | apply Kd.Q_drewN | apply Kd.Q_drew)); exact HO_5.out) (Kd.R_base ho0) hb); replace HB := Sh.hb hb; (try clear hb); (try clear hb2); (try clear hk); (try clear hi); (try clear ho0)))
        go_ret
        exact ⟨Sh.eR, Sh.bw⟩
      ·replace c16 := Bool.eq_false_iff.mpr c16
       subst c16
       rw [Sh.nf] at H
       have H' := am_ H
       clear H
       go_wp2
       go_meet
       case rel => exact ⟨_, H', ⟨by have := HJ7.out; first | omega | exact Nat.le_refl _⟩, ⟨Sh.bw⟩⟩
     case rest =>
      clear HC15
      obtain ⟨kq, HA, HJ14, HB⟩ := hcut
      cases kq with
      | zero => exact absurd HA.out (by simp [laws_FnSaidBack.j1])
      | succ kj14 =>
       have H := HA.out
       clear HA
       simp only [laws_FnSaidBack.j1] at H
       obtain ⟨t425, A28, H⟩ := Sh.ba H
       obtain ⟨⟨t426, t427, t428⟩, A290, H⟩ := Sh.bd H
       have A29 := am_ A290
       clear A290
       obtain ⟨⟨t431, t432, t433⟩, A300, H⟩ := Sh.bd H
       have A30 := am_ A300
       clear A300
       have HC31 := am_ H
       clear H
       go_upto_region 15 with (first | ((with_reducible refine Sh.k 10 ?_); refine Sh.gB (some 67) Try.func10 #[.slice A1 l1.length c1] (spec_DrawReadSaid.calls kj14 _ _ l1 t425 _ (Sh.cB HR1.out) HC1.out A28.out) fun w32 hb => ?_; replace HB := Sh.hb hb; (try clear hb); (try clear hb2); (try clear hk); (try clear hi)) | ((with_reducible refine Sh.k 8 ?_); refine Sh.gL (some 70) Try.func8 #[.string t425] (h := ?_); (with_reducible refine (impl_ReadSaid.calls kj14 t425 t426 t427 t428 _ A29.out).mono ?_); rintro e w33 ⟨v429, rfl, ho0, hb⟩; refine ⟨_, rfl, ?_⟩; have HO430 := am_ (Kd.R_lower ho0 (below_size Sh.bw)); replace HB := Sh.hb hb; (try clear hb); (try clear hb2); (try clear hk); (try clear hi); (try clear ho0)) | ((with_reducible refine Sh.k 11 ?_); refine Sh.gL (some 76) Try.func11 #[.string t425] (h := ?_); (with_reducible refine (spec_ReadSaid.calls kj14 t425 t431 t432 t433 _ A30.out).mono ?_); rintro e w34 ⟨v434, rfl, ho0, hb⟩; refine ⟨_, rfl, ?_⟩; have HO435 := am_ (Kd.R_lower (Kd.R_new' ho0 (Kd.R_lt (Sh.rl HO430.out))) (below_size Sh.bw)); replace HO430 := am_ (Kd.R_elder' (Sh.rl HO430.out) (Kd.R_base ho0) hb); replace HB := Sh.hb hb; (try clear hb); (try clear hb2); (try clear hk); (try clear hi); (try clear ho0)))
       (try simp only [Act.put, List.setIfInBounds_toArray, List.set_cons_zero, List.set_cons_succ])
       go_cut [93] (fun v93 wc => ∃ (kq : Nat) (x93_30 : Bool), v93 = .bool x93_30 ∧ Aside0 (laws_FnSaidBack.j2 kq t425 t426 t427 t428 x93_30 = some r) ∧ Aside0 (kq ≤ kj14) ∧ Aside0 (Kd.R k35 35 wc w.heap.size (fun _ => True) v429 t426) ∧ Aside0 (Below w.heap.size w wc))
       case first =>
        have H := HC31.out
        clear HC31
        by_cases c35 : (t428 != t433) = true
        ·rw [if_pos c35] at H
         have c35b0 : (t428 != t433) = true := c35
         (try (have c35b1 : decide (t428 = t433) = false := by simpa using c35))
         (try (have c35b2 : (t428 == t433) = false := by simpa using c35))
         (try (have c35b3 : ¬ (t428 = t433) := by simpa using c35))
         clear c35
         first | rw [c35b0] | (simp only [i64_w, i32_w]; rw [c35b0]) | skip
         have H' := am_ H
         clear H
         go_wp2
         go_meet
         case rel => exact ⟨_, (true), (Sh.es), H', ⟨by have := HJ7.out; have := HJ14.out; first | omega | exact Nat.le_refl _⟩, ⟨Sh.rl (Kd.R_mono HO430.out (fun _ hk => trivial))⟩, ⟨Sh.bw⟩⟩
        ·rw [if_neg c35] at H
         have c35b0 : (t428 != t433) = false := by simpa using c35
         (try (have c35b1 : decide (t428 = t433) = true := by simpa using c35))
         (try (have c35b2 : (t428 == t433) = true := by simpa using c35))
         clear c35
         first | rw [c35b0] | (simp only [i64_w, i32_w]; rw [c35b0]) | skip
         by_cases c36 : t427 = t432
         ·rw [if_pos c36] at H
          have c36b0 : (t427 == t432) = true := beq_iff_eq.mpr c36
          have c36b1 : (t427 != t432) = false := bne_eq_false_iff_eq.mpr c36
          clear c36
          obtain ⟨t436, A37, H⟩ := Sh.ba H
          have H' := am_ H
          clear H
          obtain ⟨Ao38, co38, eo38⟩ := Kd.R_slice HO430.out
          subst eo38
          obtain ⟨Ao39, co39, eo39⟩ := Kd.R_slice HO435.out
          subst eo39
          go_wp2_with (first | (go_at_call 9; (with_reducible refine (laws_sameSaid.calls kj14 _ _ t426 _ _ t431 t436 _ (Sh.cR (Kd.R_reads' HO430.out).2.2) (Kd.R_reads' HO430.out).2.1 (Sh.cR (Kd.R_reads' HO435.out).2.2) (Kd.R_reads' HO435.out).2.1 A37.out).mono ?_); rintro e w' ⟨rfl, ⟨nd, rfl⟩⟩))
          go_meet
          case rel => exact ⟨_, (!t436), (Sh.es), H', ⟨by have := HJ7.out; have := HJ14.out; first | omega | exact Nat.le_refl _⟩, ⟨Sh.rl (Kd.R_mono HO430.out (fun _ hk => trivial))⟩, ⟨Sh.bw⟩⟩
         ·rw [if_neg c36] at H
          have c36b0 : (t427 == t432) = false := beq_eq_false_iff_ne.mpr c36
          have c36b1 : (t427 != t432) = true := bne_iff_ne.mpr c36
          have H' := am_ H
          clear H
          go_wp2
          go_meet
          case rel => exact ⟨_, (true), (Sh.es), H', ⟨by have := HJ7.out; have := HJ14.out; first | omega | exact Nat.le_refl _⟩, ⟨Sh.rl (Kd.R_mono HO430.out (fun _ hk => trivial))⟩, ⟨Sh.bw⟩⟩
       case rest =>
        clear HC31
        obtain ⟨kq, x93_30, rfl, HA, HJ30, HO_14, HB⟩ := hcut
        cases kq with
        | zero => exact absurd HA.out (by simp [laws_FnSaidBack.j2])
        | succ kj30 =>
         have H := HA.out
         clear HA
         simp only [laws_FnSaidBack.j2] at H
         by_cases c40 : x93_30 = true
         ·subst c40
          rw [if_pos rfl] at H
          obtain rfl := Option.some.inj H
          go_wp2
          go_ret
          exact ⟨Sh.eR, Sh.bw⟩
         ·replace c40 := Bool.eq_false_iff.mpr c40
          subst c40
          rw [Sh.nf] at H
          by_cases c41 : t428 = true
          ·subst c41
           rw [if_pos rfl] at H
           obtain ⟨⟨t437, t438⟩, A420, H⟩ := Sh.bd H
           have A42 := am_ A420
           clear A420
           by_cases c43 : t438 = true
           ·subst c43
            rw [if_pos rfl] at H
            obtain rfl := Option.some.inj H
            obtain ⟨Ao44, co44, eo44⟩ := Kd.R_slice HO_14.out
            subst eo44
            go_wp2_with (first | ((with_reducible refine Sh.k 6 ?_); refine Sh.gB (some 97) Try.func6 #[.slice Ao44 t426.length co44] (impl_SaidText.calls kj30 _ _ t426 t437 true _ (Sh.cR (Kd.R_reads' HO_14.out).2.2) (Kd.R_reads' HO_14.out).2.1 A42.out) fun w45 hb => ?_; replace HO_14 := am_ (Kd.R_below (Sh.rl HO_14.out) hb); replace HB := Sh.hb hb; (try clear hb); (try clear hb2); (try clear hk); (try clear hi)))
            go_ret
            exact ⟨Sh.eR, Sh.bw⟩
           ·replace c43 := Bool.eq_false_iff.mpr c43
            subst c43
            rw [Sh.nf] at H
            obtain rfl := Option.some.inj H
            obtain ⟨Ao46, co46, eo46⟩ := Kd.R_slice HO_14.out
            subst eo46
            go_wp2_with (first | ((with_reducible refine Sh.k 6 ?_); refine Sh.gB (some 97) Try.func6 #[.slice Ao46 t426.length co46] (impl_SaidText.calls kj30 _ _ t426 t437 false _ (Sh.cR (Kd.R_reads' HO_14.out).2.2) (Kd.R_reads' HO_14.out).2.1 A42.out) fun w47 hb => ?_; replace HO_14 := am_ (Kd.R_below (Sh.rl HO_14.out) hb); replace HB := Sh.hb hb; (try clear hb); (try clear hb2); (try clear hk); (try clear hi)))
            go_ret
            exact ⟨Sh.eR, Sh.bw⟩
          ·replace c41 := Bool.eq_false_iff.mpr c41
           subst c41
           rw [Sh.nf] at H
           by_cases c48 : t427 ≥ 0
           ·rw [if_pos c48] at H
            have c48b0 : decide (0 ≤ t427) = true := decide_eq_true c48
            clear c48
            obtain rfl := Option.some.inj H
            go_wp2
            go_ret
            exact ⟨Sh.eR, Sh.bw⟩
           ·rw [if_neg c48] at H
            have c48b0 : decide (0 ≤ t427) = false := decide_eq_false c48
            clear c48
            obtain rfl := Option.some.inj H
            go_wp2
            go_ret
            exact ⟨Sh.eR, Sh.bw⟩
end Go.Proofs.Ytjpjijihehlnkaa.P
