/- Go functions of this seat as Lean functions, and the proofs that the calls come to what these say; printed by a program of this session. No condition. -/
import Derived.Test.YtnfpolhpanpeiaaP0
import Derived.Test.YtnfpolhpanpeiaaMFnExactFairLasso4
set_option linter.unusedVariables false
set_option linter.unusedSimpArgs false
set_option maxHeartbeats 40000000
set_option maxRecDepth 100000
namespace Go.Proofs.Ytnfpolhpanpeiaa.P
open Go.RowKit Go.Proofs.YtnfpolhpanpeiaaW.PrintWords Go.Proofs.YtnfpolhpanpeiaaW.PrintLast Go.Proofs.YtnfpolhpanpeiaaW.PrintMore Go.Proofs.Ytnfpolhpanpeiaa.Hof
attribute [local go_sem] max2_int min2_int max_two min_two max_three min_three max_four min_four
mutual
def spec_l11Fair.l0 : Nat → List (List Int) → List (List Int) → List Int → List Bool → List Int → List (List Int) → Int → Int → Option (List Int)
 | 0, _, _, _, _, _, _, _, _ => none
 | k + 1, x0, x1, x5, x7, x8, x28, x29, x30 => if x30 < x29 then (if 0 ≤ x30 then (if x30 < (x28.length : Int) then (if x30 < (x5.length : Int) then (if 0 ≤ (rd x5 x30) then (if (rd x5 x30) < (x7.length : Int) then (if rdOf false x7 (rd x5 x30) = true then (spec_l11Fair.l0 k x0 x1 x5 (x7.set ((rd x5 x30) : Int).toNat true) x8 x28 x29 (wrap64 (x30 + 1))) else (spec_l11Fair.l0 k x0 x1 x5 (x7.set ((rd x5 x30) : Int).toNat (decide (((rd_L1 x28 x30).length : Int) > 0))) x8 x28 x29 (wrap64 (x30 + 1)))) else (none)) else (none)) else (none)) else (none)) else (none)) else (spec_l11Fair.l1 k x0 x1 x5 x7 x8 x1 (x1.length : Int) 0)
def spec_l11Fair.l1 : Nat → List (List Int) → List (List Int) → List Int → List Bool → List Int → List (List Int) → Int → Int → Option (List Int)
 | 0, _, _, _, _, _, _, _, _ => none
 | k + 1, x0, x1, x5, x7, x8, x54, x55, x56 => if x56 < x55 then (if 0 ≤ x56 then (if x56 < (x54.length : Int) then (spec_l11Fair.l2 k x0 x1 x5 x7 x8 x56 x54 x55 x56 (rd_L1 x54 x56) ((rd_L1 x54 x56).length : Int) 0) else (none)) else (none)) else (spec_l11Fair.l3 k x1 x5 x7 x8 ([] : List Int) (x0.length : Int) 0)
def spec_l11Fair.l2 : Nat → List (List Int) → List (List Int) → List Int → List Bool → List Int → Int → List (List Int) → Int → Int → List Int → Int → Int → Option (List Int)
 | 0, _, _, _, _, _, _, _, _, _, _, _, _ => none
 | k + 1, x0, x1, x5, x7, x8, x11, x54, x55, x56, x61, x62, x63 => if x63 < x62 then (if 0 ≤ x63 then (if x63 < (x61.length : Int) then (if 0 ≤ (rd x61 x63) then (if (rd x61 x63) < (x5.length : Int) then (if 0 ≤ (rd x5 (rd x61 x63)) then (if (rd x5 (rd x61 x63)) < (x8.length : Int) then (if (rd x8 (rd x5 (rd x61 x63))) = x11 then (spec_l11Fair.l2 k x0 x1 x5 x7 (x8.set ((rd x5 (rd x61 x63)) : Int).toNat (wrap64 (x11 + 1))) x11 x54 x55 x56 x61 x62 (wrap64 (x63 + 1))) else (spec_l11Fair.l2 k x0 x1 x5 x7 x8 x11 x54 x55 x56 x61 x62 (wrap64 (x63 + 1)))) else (none)) else (none)) else (none)) else (none)) else (none)) else (none)) else (spec_l11Fair.l1 k x0 x1 x5 x7 x8 x54 x55 (wrap64 (x56 + 1)))
def spec_l11Fair.l3 : Nat → List (List Int) → List Int → List Bool → List Int → List Int → Int → Int → Option (List Int)
 | 0, _, _, _, _, _, _, _ => none
 | k + 1, x1, x5, x7, x8, x15, x87, x88 => if x88 < x87 then (if 0 ≤ x88 then (if x88 < (x5.length : Int) then (if 0 ≤ (rd x5 x88) then (if (rd x5 x88) < (x7.length : Int) then (if rdOf false x7 (rd x5 x88) = true then (if (rd x5 x88) < (x8.length : Int) then (if (rd x8 (rd x5 x88)) = (x1.length : Int) then (if x15.length < 17592186044416 then (spec_l11Fair.l3 k x1 x5 x7 x8 (x15 ++ [x88]) x87 (wrap64 (x88 + 1))) else (none)) else (spec_l11Fair.l3 k x1 x5 x7 x8 x15 x87 (wrap64 (x88 + 1)))) else (none)) else (spec_l11Fair.l3 k x1 x5 x7 x8 x15 x87 (wrap64 (x88 + 1)))) else (none)) else (none)) else (none)) else (none)) else (some x15)
end
def spec_l11Fair.f (k : Nat) (l0 : List (List Int)) (l1 : List (List Int)) : Option (List Int) := (spec_l11Parts.f k l0).bind fun t166 => ((spec_l11Within.f k l0 t166).bind fun t169 => (if 0 ≤ (l0.length : Int) then (if ((l0.length : Int) : Int).toNat ≤ 281474976710656 then (if ((l0.length : Int) : Int).toNat ≤ 35184372088832 then (spec_l11Fair.l0 k l0 l1 t166 (List.replicate ((l0.length : Int) : Int).toNat false) (List.replicate ((l0.length : Int) : Int).toNat 0) t169 (t169.length : Int) 0) else (none)) else (none)) else (none)))
theorem spec_l11Fair.mono_l : ∀ k, (∀ y0 y1 y2 y3 y4 y5 y6 y7, LeO (spec_l11Fair.l0 k y0 y1 y2 y3 y4 y5 y6 y7) (spec_l11Fair.l0 (k + 1) y0 y1 y2 y3 y4 y5 y6 y7)) ∧ (∀ y0 y1 y2 y3 y4 y5 y6 y7, LeO (spec_l11Fair.l1 k y0 y1 y2 y3 y4 y5 y6 y7) (spec_l11Fair.l1 (k + 1) y0 y1 y2 y3 y4 y5 y6 y7)) ∧ (∀ y0 y1 y2 y3 y4 y5 y6 y7 y8 y9 y10 y11, LeO (spec_l11Fair.l2 k y0 y1 y2 y3 y4 y5 y6 y7 y8 y9 y10 y11) (spec_l11Fair.l2 (k + 1) y0 y1 y2 y3 y4 y5 y6 y7 y8 y9 y10 y11)) ∧ (∀ y0 y1 y2 y3 y4 y5 y6, LeO (spec_l11Fair.l3 k y0 y1 y2 y3 y4 y5 y6) (spec_l11Fair.l3 (k + 1) y0 y1 y2 y3 y4 y5 y6))
 | 0 => ⟨fun _ _ _ _ _ _ _ _ r h => by simp [spec_l11Fair.l0] at h, fun _ _ _ _ _ _ _ _ r h => by simp [spec_l11Fair.l1] at h, fun _ _ _ _ _ _ _ _ _ _ _ _ r h => by simp [spec_l11Fair.l2] at h, fun _ _ _ _ _ _ _ r h => by simp [spec_l11Fair.l3] at h⟩
 | k + 1 => by
  obtain ⟨ih0, ih1, ih2, ih3⟩ := spec_l11Fair.mono_l k
  and_intros <;> intros
  all_goals (first | unfold spec_l11Fair.l0 | unfold spec_l11Fair.l1 | unfold spec_l11Fair.l2 | unfold spec_l11Fair.l3)
  all_goals repeat' with_reducible first | apply ih0 | apply ih1 | apply ih2 | apply ih3 | apply spec_l11Parts.mono | apply spec_l11Within.mono | exact LeO.refl _ | exact LeO.none _ | apply LeO.ite | refine LeO.bind ?_ fun _ => ?_
theorem spec_l11Fair.mono : ∀ a0 a1 k, LeO (spec_l11Fair.f k a0 a1) (spec_l11Fair.f (k + 1) a0 a1) := by
 intro a0 a1 k
 obtain ⟨ih0, ih1, ih2, ih3⟩ := spec_l11Fair.mono_l k
 unfold spec_l11Fair.f
 repeat' with_reducible first | apply ih0 | apply ih1 | apply ih2 | apply ih3 | apply spec_l11Parts.mono | apply spec_l11Within.mono | exact LeO.refl _ | exact LeO.none _ | apply LeO.ite | refine LeO.bind ?_ fun _ => ?_
def spec_l11Fair.T8 : Bool × List (List Nat × List Nat) := (true, [([], []), ([], []), ([], []), ([1, 2], [1, 2]), ([3], [3]), ([], []), ([], []), ([], []), ([6, 7], [6, 7]), ([8], [8]), ([5, 9], [5, 9]), ([10], [10]), ([11], [11]), ([12], [12]), ([13, 12], [12, 13]), ([14, 12], [12, 14]), ([12, 15], [12, 15]), ([0, 4, 0, 1, 2, 3, 4, 5, 6, 7, 8, 9, 10, 11, 12, 13, 14, 15, 16], [0, 4]), ([17, 16, 12, 0, 1, 2, 3, 4, 5, 6, 7, 8, 9, 10, 11, 12, 13, 14, 15, 16], [16, 17])])
def spec_l11Fair.B8 : List Nat := [0, 0, 0, 6, 14, 0, 0, 0, 192, 448, 992, 2016, 4064, 8160, 16352, 32736, 65504, 131071, 262143]
theorem spec_l11Fair.tab8 : rtab .any (opsOf Try.f38 8) = spec_l11Fair.T8 := by kernel_rfl
theorem spec_l11Fair.bits8 : waitsOk spec_l11Fair.T8.2 spec_l11Fair.B8 = true := by kernel_rfl
theorem spec_l11Fair.calls (k : Nat) (A0 : Option Addr) (c0 : Nat) (l0 : List (List Int)) (A1 : Option Addr) (c1 : Nat) (l1 : List (List Int)) (r : List Int) (w : World) (hr0 : Kd.C (Kd.slice 3 (Kd.int .i64)) w A0 l0.length l0) (hc0 : l0.length ≤ c0) (hr1 : Kd.C (Kd.slice 3 (Kd.int .i64)) w A1 l1.length l1) (hc1 : l1.length ≤ c1) (h : spec_l11Fair.f k l0 l1 = some r) :
  Calls Try.prog 38 #[.slice A0 l0.length c0, .slice A1 l1.length c1] w fun e w' => ∃ v0_ : Value, e = .returned (v0_) ∧ Kd.R (Kd.int .i64) 3 w' w.heap.size (fun _ => True) v0_ r ∧ Below w.heap.size w w' := by
 have HR0 := am_ hr0
 have HC0 := am_ hc0
 clear hr0 hc0
 have HR1 := am_ hr1
 have HC1 := am_ hc1
 clear hr1 hc1
 have HB := am_ (Below.refl w.heap.size w)
 have H := h
 clear h
 unfold spec_l11Fair.f at H
 obtain ⟨t166, A3, H⟩ := Sh.ba H
 obtain ⟨t169, A4, H⟩ := Sh.ba H
 by_cases c5 : 0 ≤ (l0.length : Int)
 ·rw [if_pos c5] at H
  have c5b0 := eq_true c5
  have c5b1 := decide_eq_true c5
  clear c5
  by_cases c6 : ((l0.length : Int) : Int).toNat ≤ 281474976710656
  ·rw [if_pos c6] at H
   have c6b0 := eq_true c6
   have c6b1 := decide_eq_true c6
   clear c6
   obtain ⟨y172, hy172⟩ : ∃ y_ : List Bool, y_ = (List.replicate ((l0.length : Int) : Int).toNat false) := ⟨_, rfl⟩
   replace H : (if ((l0.length : Int) : Int).toNat ≤ 35184372088832 then (spec_l11Fair.l0 k l0 l1 t166 y172 (List.replicate ((l0.length : Int) : Int).toNat 0) t169 (t169.length : Int) 0) else (none)) = some r := by first | (rw [hy172]; with_reducible exact H) | (have H2_ := (Option.bind_some _ _).symm.trans H; rw [hy172]; with_reducible exact H2_) | (have H2_ := (Option.bind_some _ _).symm.trans H; with_reducible exact H2_) | with_reducible exact H | (rw [hy172]; exact H) | exact H
   have Ny172 := am_ hy172
   clear hy172
   by_cases c7 : ((l0.length : Int) : Int).toNat ≤ 35184372088832
   ·rw [if_pos c7] at H
    have c7b0 := eq_true c7
    have c7b1 := decide_eq_true c7
    clear c7
    obtain ⟨y175, hy175⟩ : ∃ y_ : List Int, y_ = (List.replicate ((l0.length : Int) : Int).toNat 0) := ⟨_, rfl⟩
    replace H : (spec_l11Fair.l0 k l0 l1 t166 y172 y175 t169 (t169.length : Int) 0) = some r := by first | (rw [hy175]; with_reducible exact H) | (have H2_ := (Option.bind_some _ _).symm.trans H; rw [hy175]; with_reducible exact H2_) | (have H2_ := (Option.bind_some _ _).symm.trans H; with_reducible exact H2_) | with_reducible exact H | (rw [hy175]; exact H) | exact H
    have Ny175 := am_ hy175
    clear hy175
    have H' := am_ H
    clear H
    go_enter Try.func38, Try.ntmps38
    go_wp2_with (first | ((with_reducible refine Sh.k 28 ?_); refine Sh.gL (some 18) Try.func28 #[.slice A0 l0.length c0] (h := ?_); (with_reducible refine (spec_l11Parts.calls k _ _ l0 t166 _ ?side1 ?side2 A3.out).mono ?_); (case side1 => repeat (first | exact HR0.out | (with_reducible first | refine Kd.C_alloc ?_ _ | refine Kd.C_drewN ?_ _ | refine Kd.C_drew ?_))); (case side2 => exact HC0.out); rintro e w8 ⟨v167, rfl, ho0, hb⟩; refine ⟨_, rfl, ?_⟩; have HO168 := am_ (Kd.R_lower ho0 (below_size Sh.bw)); replace HB := Sh.hb hb; (try clear hb); (try clear ho0); obtain ⟨Ao9, co9, eo9⟩ := Kd.R_slice HO168.out; subst eo9) | ((with_reducible refine Sh.k 51 ?_); refine Sh.gL (some 21) Try.func51 #[.slice A0 l0.length c0, .slice Ao9 t166.length co9] (h := ?_); (with_reducible refine (spec_l11Within.calls k _ _ l0 _ _ t166 t169 _ (Sh.cB HR0.out) HC0.out (Sh.cR (Kd.R_reads' HO168.out).2.2) (Kd.R_reads' HO168.out).2.1 A4.out).mono ?_); rintro e w10 ⟨v170, rfl, ho0, hb⟩; refine ⟨_, rfl, ?_⟩; have HO171 := am_ (Kd.S_lower (Kd.S_new' ho0 (Kd.R_lt (Sh.rl HO168.out))) (below_size Sh.bw)); replace HO168 := am_ (Kd.R_below (Sh.rl HO168.out) hb); replace HB := Sh.hb hb; (try clear hb); (try clear ho0)) | ((with_reducible refine Sh.d 24 ?_); (try (refine gate_guard (by rfl) ?_; dsimp only)); refine Kd.R_make Kd.bool _ 4 rfl (N := 24) rfl 56 _ _ rfl (l0.length : Int) rfl rfl Try.underlying56 (.bool false) 1 info4 rfl (by decide) (by omega) false (ok := fun _ => True) (okp := fun _ => True) rfl (fun _ hk => hk) trivial (of_decide_eq_true (by first | (with_reducible assumption) | assumption)) (Nat.le_trans (Nat.mul_le_mul_right _ (of_decide_eq_true (by first | (with_reducible assumption) | assumption) : (l0.length : Int).toNat ≤ 281474976710656)) (by omega)) (Below.refl _ _) (Nat.le_refl _) ?_; intro v173 w11 ho12 hb hg_ hnew_; clear hg_ hnew_; (first | rw [← Ny172.out] at ho12 | (simp only [Int.reduceToNat] at ho12; rw [← Ny172.out] at ho12)); replace HO168 := am_ (Kd.R_below (Sh.rl HO168.out) hb); replace HO171 := am_ (Kd.S_below (by (with_reducible repeat (first | apply Kd.S_alloc | apply Kd.S_drewN | apply Kd.S_drew)); exact HO171.out) hb); have HO174 := am_ (Kd.R_lower ho12 (below_size Sh.bw)); replace HB := Sh.hb hb; clear hb ho12) | ((with_reducible refine Sh.d 27 ?_); (try (refine gate_guard (by rfl) ?_; dsimp only)); refine Kd.R_make (Kd.int .i64) _ 3 rfl (N := 27) rfl 26 _ _ rfl (l0.length : Int) rfl rfl Try.underlying26 (.int .i64 0) 8 info3 rfl (by decide) (by omega) 0 (ok := fun _ => True) (okp := fun _ => True) rfl (fun _ hk => hk) trivial (of_decide_eq_true (by first | (with_reducible assumption) | assumption)) (Nat.le_trans (Nat.mul_le_mul_right _ (of_decide_eq_true (by first | (with_reducible assumption) | assumption) : (l0.length : Int).toNat ≤ 35184372088832)) (by omega)) (Below.refl _ _) (Nat.le_refl _) ?_; intro v176 w13 ho14 hb hg_ hnew_; clear hg_ hnew_; (first | rw [← Ny175.out] at ho14 | (simp only [Int.reduceToNat] at ho14; rw [← Ny175.out] at ho14)); replace HO171 := am_ (Kd.S_elder' (by (with_reducible repeat (first | apply Kd.S_alloc | apply Kd.S_drewN | apply Kd.S_drew)); exact HO171.out) (Kd.R_base ho14) hb); replace HO174 := am_ (Kd.R_below (Sh.rl HO174.out) hb); have HO177 := am_ (Kd.R_lower (Kd.R_new' ho14 (Kd.R_lt (Sh.rl HO168.out))) (below_size Sh.bw)); replace HO168 := am_ (Kd.R_elder' (Sh.rl HO168.out) (Kd.R_base ho14) hb); replace HB := Sh.hb hb; clear hb ho14; obtain ⟨Ao15, co15, eo15⟩ := Kd.S_slice HO171.out; subst eo15))
    go_loopg [30] k (fun kq v30 w' => ∃ (x7_1 : List Bool) (x30_1 : Int), v30 = .int .i64 x30_1 ∧ Aside0 (spec_l11Fair.l0 kq l0 l1 t166 x7_1 y175 t169 (t169.length : Int) x30_1 = some r) ∧ Aside0 (kq ≤ k) ∧ Aside0 (Kd.R (Kd.int .i64) 3 w' w.heap.size (fun k_ => some k_ ≠ (v176 : Value).ownBlock) (.slice Ao9 t166.length co9) t166) ∧ Aside0 (Kd.R Kd.bool 4 w' w.heap.size (fun _ => True) v173 x7_1) ∧ Aside0 (Kd.R (Kd.int .i64) 3 w' w.heap.size (fun k_ => some k_ ≠ ((.slice Ao9 t166.length co9) : Value).ownBlock) v176 y175) ∧ Aside0 (Kd.S (Kd.slice 3 (Kd.int .i64)) 26 w' w.heap.size (fun k_ => some k_ ≠ ((.slice Ao9 t166.length co9) : Value).ownBlock ∧ some k_ ≠ (v176 : Value).ownBlock) (.slice Ao15 t169.length co15) t169) ∧ Aside0 (Below w.heap.size w w'))
    case atStart => exact ⟨(y172), (0), (Sh.es), H', ⟨Nat.le_refl _⟩, ⟨Sh.rl (Kd.R_mono HO168.out (fun _ hk => hk.2))⟩, ⟨Sh.rl HO174.out⟩, ⟨Sh.rl (Kd.R_mono HO177.out (fun _ hk => hk.2))⟩, ⟨by (with_reducible repeat (first | apply Kd.S_alloc | apply Kd.S_drewN | apply Kd.S_drew)); exact Kd.S_mono HO171.out (fun _ h => ⟨h.1.2, h.2⟩)⟩, ⟨Sh.bw⟩⟩
    case round =>
     clear H'
     obtain ⟨x7_1, x30_1, rfl, HA, HK1, HO_5, HO_7, HO_8, HO_28, HB⟩ := hrel
     cases gk with
     | zero => exact absurd HA.out (by simp [spec_l11Fair.l0])
     | succ k1 =>
      have H := HA.out
      clear HA
      simp only [spec_l11Fair.l0] at H
      by_cases c16 : x30_1 < (t169.length : Int)
      ·rw [if_pos c16] at H
       replace c16 := decide_eq_true c16
       by_cases c17 : 0 ≤ x30_1
       ·rw [if_pos c17] at H
        replace c17 := decide_eq_true c17
        by_cases c18 : x30_1 < (t169.length : Int)
        ·rw [if_pos c18] at H
         replace c18 := decide_eq_true c18
         by_cases c19 : x30_1 < (t166.length : Int)
         ·rw [if_pos c19] at H
          replace c19 := decide_eq_true c19
          by_cases c20 : 0 ≤ (rd t166 x30_1)
          ·rw [if_pos c20] at H
           replace c20 := decide_eq_true c20
           by_cases c21 : (rd t166 x30_1) < (x7_1.length : Int)
           ·rw [if_pos c21] at H
            replace c21 := decide_eq_true c21
            obtain ⟨bq22, hbq22⟩ : ∃ b_ : Bool, b_ = (rdOf false x7_1 (rd t166 x30_1)) := ⟨_, rfl⟩
            replace H : (if bq22 = true then (spec_l11Fair.l0 k1 l0 l1 t166 (x7_1.set ((rd t166 x30_1) : Int).toNat true) y175 t169 (t169.length : Int) (wrap64 (x30_1 + 1))) else (spec_l11Fair.l0 k1 l0 l1 t166 (x7_1.set ((rd t166 x30_1) : Int).toNat (decide (((rd_L1 t169 x30_1).length : Int) > 0))) y175 t169 (t169.length : Int) (wrap64 (x30_1 + 1)))) = some r := by rw [← hbq22] at H; exact H
            have Nbq22 := am_ hbq22
            clear hbq22
            by_cases c23 : bq22 = true
            ·subst c23
             rw [if_pos rfl] at H
             obtain ⟨y182, hy182⟩ : ∃ y_ : List Bool, y_ = (x7_1.set ((rd t166 x30_1) : Int).toNat true) := ⟨_, rfl⟩
             replace H : (spec_l11Fair.l0 k1 l0 l1 t166 y182 y175 t169 (t169.length : Int) (wrap64 (x30_1 + 1))) = some r := by first | (rw [hy182]; with_reducible exact H) | (have H2_ := (Option.bind_some _ _).symm.trans H; rw [hy182]; with_reducible exact H2_) | (have H2_ := (Option.bind_some _ _).symm.trans H; with_reducible exact H2_) | with_reducible exact H | (rw [hy182]; exact H) | exact H
             have Ny182 := am_ hy182
             clear hy182
             have H' := am_ H
             clear H
             have p178 : 0 ≤ (x30_1 : Int) := Sh.od
             have q178 : x30_1 < (t169.length : Int) := Sh.od
             obtain ⟨ad178, A178_0, c178_0, e178, hx178_0, hl178_0, hi178_0⟩ := at_L1 (Kd.S_reads' HO_28.out).2.2 x30_1 p178 q178
             cases e178
             obtain ⟨ce178, hce178, hMe178, hcc178⟩ := Kd.S_get HO_28.out [] x30_1 p178 (by first | exact q178 | exact of_decide_eq_true (by first | (with_reducible assumption) | assumption) | (have e_ := (Kd.S_reads' HO_28.out).1; omega))
             obtain ⟨ve178_0, rfl, ge178_0⟩ := hMe178
             have hv178_0 := hcc178 0 _ rfl
             rw [Nat.add_zero, show ((Kd.slice 3 (Kd.int .i64))).sz = 1 from rfl, Nat.mul_one] at hv178_0
             replace hv178_0 := Option.some.inj (hv178_0.symm.trans hx178_0)
             rw [hv178_0] at ge178_0
             have HL178_0 := am_ (show Kd.R (Kd.int .i64) 3 _ _ _ _ (rd_L1 t169 x30_1) from ge178_0)
             clear hv178_0 ge178_0
             clear hcc178 hce178
             have HR178_0 := am_ hi178_0
             have HC178_0 := am_ hl178_0
             clear hi178_0 hl178_0
             replace p178 := eq_true p178
             replace q178 := eq_true q178
             try go_wp2
             replace HO_5 := am_ (Kd.R_drew HO_5.out)
             replace HO_7 := am_ (Kd.R_drew HO_7.out)
             replace HO_8 := am_ (Kd.R_drew HO_8.out)
             replace HO_28 := am_ (Kd.S_drew HO_28.out)
             replace HL178_0 := am_ (Kd.R_drew HL178_0.out)
             replace HR178_0 := am_ (Kd.C_drew HR178_0.out)
             replace HB := am_ (below_drew1 HB.out)
             have p179 : 0 ≤ (x30_1 : Int) := Sh.od
             have q179 : x30_1 < (t166.length : Int) := Sh.od
             obtain ⟨ad179, e179, hx179_0⟩ := Kd.at_int (Kd.R_reads' HO_5.out).2.2 x30_1 p179 q179
             cases e179
             replace p179 := eq_true p179
             replace q179 := eq_true q179
             have p180 : 0 ≤ (x30_1 : Int) := Sh.od
             have q180 : x30_1 < (t166.length : Int) := Sh.od
             obtain ⟨ad180, e180, hx180_0⟩ := Kd.at_int (Kd.R_reads' HO_5.out).2.2 x30_1 p180 q180
             obtain rfl : ad179 = ad180 := (by injection e180)
             replace p180 := eq_true p180
             replace q180 := eq_true q180
             obtain ⟨Ao26, co26, eo26⟩ := Kd.R_slice HO_7.out
             (first | subst eo26 | (injection eo26 with f1_ f2_ f3_; have f4_ := f1_.symm; have f5_ := f3_.symm; clear f1_ f2_ f3_; subst f4_; subst f5_))
             have p181 : 0 ≤ ((rd t166 x30_1) : Int) := Sh.od
             have q181 : (rd t166 x30_1) < (x7_1.length : Int) := Sh.od
             obtain ⟨ad181, e181, hx181_0⟩ := Kd.at_bool (Kd.R_reads' HO_7.out).2.2 (rd t166 x30_1) p181 q181
             (try rw [← Nbq22.out] at hx181_0)
             cases e181
             replace p181 := eq_true p181
             replace q181 := eq_true q181
             have p24 : 0 ≤ ((rd t166 x30_1) : Int) := Sh.od
             have q24 : ((rd t166 x30_1) : Int) < ((x7_1.length : Int) : Int) := Sh.od
             obtain ⟨go24, co24, eo24, gb24, gl24, cl24, HG24⟩ := Kd.R_form HO_7.out (by omega)
             (first | cases eo24 | (injection eo24 with ea_ en_ ec_; (first | subst ea_ | (injection ea_ with ea_; subst ea_)); subst ec_; clear en_))
             have GB24 := am_ gb24
             have GG24 := am_ HG24
             clear gb24 gl24 HG24
             (first | simp only [add_plain] at hx181_0 | skip)
             obtain ⟨hx24_0, hf24_0⟩ := Kd.R_celln false HO_7.out ((rd t166 x30_1) : Int) p24 q24
             replace p24 := eq_true p24
             replace q24 := eq_true q24
             have HP27 := Kd.R_putn HO_7.out ((rd t166 x30_1) : Int) true
             rw [← Ny182.out] at HP27
             have HQ27 := am_ HP27
             clear HP27
             refine start_ (n := 19) (S := fun w' => w'.cell? (ad179.add (x30_1).toNat) = some (.int .i64 (rd t166 x30_1)) ∧ w'.cell? (ad179.add (x30_1).toNat) = some (.int .i64 (rd t166 x30_1)) ∧ w'.cell? ⟨go24, ((rd t166 x30_1)).toNat, none⟩ = some (.bool true)) (ds := [18]) (Sh.nm 19 0) (by kernel_rfl) rfl rfl ⟨hx179_0, hx180_0, hx181_0⟩ (fun hHeld => ?_); refine with_tabW spec_l11Fair.tab8 spec_l11Fair.bits8 (fun HT_ HW_ => ?_)
             generalize wr.drew = w25 at HO_5 HO_7 HO_8 HO_28 HL178_0 HR178_0 HB GG24 HQ27 hf24_0 hx179_0 hx180_0 hx181_0 hx24_0 hHeld ⊢
             refine Sh.qA 0 ?_; refine Sh.qA 1 ?_; refine Sh.qA 2 ?_; refine Sh.qA 3 ?_; refine Sh.qA 5 ?_; refine Sh.qA 6 ?_; refine Sh.qA 7 ?_; refine Sh.qA 8 ?_; refine Sh.qT 4 hHeld ?_; refine Sh.qT 9 hHeld ?_; refine Sh.qA 10 ?_; refine Sh.qT 11 hHeld ?_; refine Sh.qA 12 ?_; refine Sh.qU 13 ?_; refine Sh.qU 14 ?_; refine Sh.qU 15 ?_; refine Sh.qA 16 ?_; refine Sh.qA 17 ?_
             refine last_ (i := 18) (N := none) (Sh.nm 19 524287) rfl rfl (one_of HT_.out (by kernel_rfl)) (by decide) (fun K hK => ?_)
             refine skip_ (w1 := ?_) (by rfl) rfl ?_ ?_
             rotate_left
             ·go_simp
              rfl
             refine hK.out _ _ ?_
             clear hK K
             refine done_ (done_of HT_.out (by kernel_rfl)) ?_
             try go_wp2
             go_roundg k1
             case measure => have := HK1.out; omega
             case rel => exact ⟨(y182), (wrap64 (x30_1 + 1)), (Sh.es), H', ⟨by have := HK1.out; omega⟩, ⟨Sh.rl (Kd.R_mono (Kd.R_far (p := ⟨go24, ((rd t166 x30_1) : Int).toNat, none⟩) (Kd.R_types HO_5.out GG24.out (by decide)) (fun _ hk => hk.2) (.bool true)) (fun _ hk => hk.1))⟩, ⟨by (with_reducible repeat (first | apply Kd.R_alloc | apply Kd.R_drewN | apply Kd.R_drew)); exact HQ27.out⟩, ⟨Sh.rl (Kd.R_mono (Kd.R_far (p := ⟨go24, ((rd t166 x30_1) : Int).toNat, none⟩) (Kd.R_types HO_8.out GG24.out (by decide)) (fun _ hk => hk.2) (.bool true)) (fun _ hk => hk.1))⟩, ⟨by (with_reducible repeat (first | apply Kd.S_alloc | apply Kd.S_drewN | apply Kd.S_drew)); exact Kd.S_mono (Kd.S_far (p := ⟨go24, ((rd t166 x30_1) : Int).toNat, none⟩) (Kd.S_types HO_28.out GG24.out (by decide)) (fun _ hk => hk.2) (.bool true)) (fun _ h => ⟨h.1.1, h.1.2⟩)⟩, ⟨Sh.bw⟩⟩
            ·replace c23 := Bool.eq_false_iff.mpr c23
             subst c23
             rw [Sh.nf] at H
             obtain ⟨y183, hy183⟩ : ∃ y_ : List Bool, y_ = (x7_1.set ((rd t166 x30_1) : Int).toNat (decide (((rd_L1 t169 x30_1).length : Int) > 0))) := ⟨_, rfl⟩
             replace H : (spec_l11Fair.l0 k1 l0 l1 t166 y183 y175 t169 (t169.length : Int) (wrap64 (x30_1 + 1))) = some r := by first | (rw [hy183]; with_reducible exact H) | (have H2_ := (Option.bind_some _ _).symm.trans H; rw [hy183]; with_reducible exact H2_) | (have H2_ := (Option.bind_some _ _).symm.trans H; with_reducible exact H2_) | with_reducible exact H | (rw [hy183]; exact H) | exact H
             have Ny183 := am_ hy183
             clear hy183
             have H' := am_ H
             clear H
             have p178 : 0 ≤ (x30_1 : Int) := Sh.od
             have q178 : x30_1 < (t169.length : Int) := Sh.od
             obtain ⟨ad178, A178_0, c178_0, e178, hx178_0, hl178_0, hi178_0⟩ := at_L1 (Kd.S_reads' HO_28.out).2.2 x30_1 p178 q178
             cases e178
             obtain ⟨ce178, hce178, hMe178, hcc178⟩ := Kd.S_get HO_28.out [] x30_1 p178 (by first | exact q178 | exact of_decide_eq_true (by first | (with_reducible assumption) | assumption) | (have e_ := (Kd.S_reads' HO_28.out).1; omega))
             obtain ⟨ve178_0, rfl, ge178_0⟩ := hMe178
             have hv178_0 := hcc178 0 _ rfl
             rw [Nat.add_zero, show ((Kd.slice 3 (Kd.int .i64))).sz = 1 from rfl, Nat.mul_one] at hv178_0
             replace hv178_0 := Option.some.inj (hv178_0.symm.trans hx178_0)
             rw [hv178_0] at ge178_0
             have HL178_0 := am_ (show Kd.R (Kd.int .i64) 3 _ _ _ _ (rd_L1 t169 x30_1) from ge178_0)
             clear hv178_0 ge178_0
             clear hcc178 hce178
             have HR178_0 := am_ hi178_0
             have HC178_0 := am_ hl178_0
             clear hi178_0 hl178_0
             replace p178 := eq_true p178
             replace q178 := eq_true q178
             try go_wp2
             replace HO_5 := am_ (Kd.R_drew HO_5.out)
             replace HO_7 := am_ (Kd.R_drew HO_7.out)
             replace HO_8 := am_ (Kd.R_drew HO_8.out)
             replace HO_28 := am_ (Kd.S_drew HO_28.out)
             replace HL178_0 := am_ (Kd.R_drew HL178_0.out)
             replace HR178_0 := am_ (Kd.C_drew HR178_0.out)
             replace HB := am_ (below_drew1 HB.out)
             have p179 : 0 ≤ (x30_1 : Int) := Sh.od
             have q179 : x30_1 < (t166.length : Int) := Sh.od
             obtain ⟨ad179, e179, hx179_0⟩ := Kd.at_int (Kd.R_reads' HO_5.out).2.2 x30_1 p179 q179
             cases e179
             replace p179 := eq_true p179
             replace q179 := eq_true q179
             have p180 : 0 ≤ (x30_1 : Int) := Sh.od
             have q180 : x30_1 < (t166.length : Int) := Sh.od
             obtain ⟨ad180, e180, hx180_0⟩ := Kd.at_int (Kd.R_reads' HO_5.out).2.2 x30_1 p180 q180
             obtain rfl : ad179 = ad180 := (by injection e180)
             replace p180 := eq_true p180
             replace q180 := eq_true q180
             obtain ⟨Ao30, co30, eo30⟩ := Kd.R_slice HO_7.out
             (first | subst eo30 | (injection eo30 with f1_ f2_ f3_; have f4_ := f1_.symm; have f5_ := f3_.symm; clear f1_ f2_ f3_; subst f4_; subst f5_))
             have p181 : 0 ≤ ((rd t166 x30_1) : Int) := Sh.od
             have q181 : (rd t166 x30_1) < (x7_1.length : Int) := Sh.od
             obtain ⟨ad181, e181, hx181_0⟩ := Kd.at_bool (Kd.R_reads' HO_7.out).2.2 (rd t166 x30_1) p181 q181
             (try rw [← Nbq22.out] at hx181_0)
             cases e181
             replace p181 := eq_true p181
             replace q181 := eq_true q181
             have p28 : 0 ≤ ((rd t166 x30_1) : Int) := Sh.od
             have q28 : ((rd t166 x30_1) : Int) < ((x7_1.length : Int) : Int) := Sh.od
             obtain ⟨go28, co28, eo28, gb28, gl28, cl28, HG28⟩ := Kd.R_form HO_7.out (by omega)
             (first | cases eo28 | (injection eo28 with ea_ en_ ec_; (first | subst ea_ | (injection ea_ with ea_; subst ea_)); subst ec_; clear en_))
             have GB28 := am_ gb28
             have GG28 := am_ HG28
             clear gb28 gl28 HG28
             (first | simp only [add_plain] at hx181_0 | skip)
             obtain ⟨hx28_0, hf28_0⟩ := Kd.R_celln false HO_7.out ((rd t166 x30_1) : Int) p28 q28
             replace p28 := eq_true p28
             replace q28 := eq_true q28
             have HP31 := Kd.R_putn HO_7.out ((rd t166 x30_1) : Int) (decide (((rd_L1 t169 x30_1).length : Int) > 0))
             rw [← Ny183.out] at HP31
             rw [show decide (((rd_L1 t169 x30_1).length : Int) > 0) = decide (0 < (rd_L1 t169 x30_1).length) from by simp] at HP31
             have HQ31 := am_ HP31
             clear HP31
             refine start_ (n := 19) (S := fun w' => w'.cell? (ad179.add (x30_1).toNat) = some (.int .i64 (rd t166 x30_1)) ∧ w'.cell? (ad179.add (x30_1).toNat) = some (.int .i64 (rd t166 x30_1)) ∧ w'.cell? ⟨go28, ((rd t166 x30_1)).toNat, none⟩ = some (.bool false)) (ds := [18]) (Sh.nm 19 0) (by kernel_rfl) rfl rfl ⟨hx179_0, hx180_0, hx181_0⟩ (fun hHeld => ?_); refine with_tabW spec_l11Fair.tab8 spec_l11Fair.bits8 (fun HT_ HW_ => ?_)
             generalize wr.drew = w29 at HO_5 HO_7 HO_8 HO_28 HL178_0 HR178_0 HB GG28 HQ31 hf28_0 hx179_0 hx180_0 hx181_0 hx28_0 hHeld ⊢
             refine Sh.qA 0 ?_; refine Sh.qA 1 ?_; refine Sh.qA 2 ?_; refine Sh.qA 3 ?_; refine Sh.qA 5 ?_; refine Sh.qA 6 ?_; refine Sh.qA 7 ?_; refine Sh.qA 8 ?_; refine Sh.qT 4 hHeld ?_; refine Sh.qT 9 hHeld ?_; refine Sh.qA 10 ?_; refine Sh.qT 11 hHeld ?_; refine Sh.qA 12 ?_; refine Sh.qA 13 ?_; refine Sh.qA 14 ?_; refine Sh.qA 15 ?_; refine Sh.qA 16 ?_; refine Sh.qA 17 ?_
             refine last_ (i := 18) (N := none) (Sh.nm 19 524287) rfl rfl (one_of HT_.out (by kernel_rfl)) (by decide) (fun K hK => ?_)
             refine skip_ (w1 := ?_) (by rfl) rfl ?_ ?_
             rotate_left
             ·go_simp
              rfl
             refine hK.out _ _ ?_
             clear hK K
             refine done_ (done_of HT_.out (by kernel_rfl)) ?_
             try go_wp2
             go_roundg k1
             case measure => have := HK1.out; omega
             case rel => exact ⟨(y183), (wrap64 (x30_1 + 1)), (Sh.es), H', ⟨by have := HK1.out; omega⟩, ⟨Sh.rl (Kd.R_mono (Kd.R_far (p := ⟨go28, ((rd t166 x30_1) : Int).toNat, none⟩) (Kd.R_types HO_5.out GG28.out (by decide)) (fun _ hk => hk.2) (.bool (decide (0 < (rd_L1 t169 x30_1).length)))) (fun _ hk => hk.1))⟩, ⟨by (with_reducible repeat (first | apply Kd.R_alloc | apply Kd.R_drewN | apply Kd.R_drew)); exact HQ31.out⟩, ⟨Sh.rl (Kd.R_mono (Kd.R_far (p := ⟨go28, ((rd t166 x30_1) : Int).toNat, none⟩) (Kd.R_types HO_8.out GG28.out (by decide)) (fun _ hk => hk.2) (.bool (decide (0 < (rd_L1 t169 x30_1).length)))) (fun _ hk => hk.1))⟩, ⟨by (with_reducible repeat (first | apply Kd.S_alloc | apply Kd.S_drewN | apply Kd.S_drew)); exact Kd.S_mono (Kd.S_far (p := ⟨go28, ((rd t166 x30_1) : Int).toNat, none⟩) (Kd.S_types HO_28.out GG28.out (by decide)) (fun _ hk => hk.2) (.bool (decide (0 < (rd_L1 t169 x30_1).length)))) (fun _ h => ⟨h.1.1, h.1.2⟩)⟩, ⟨Sh.bw⟩⟩
           ·rw [if_neg c21] at H
            cases H
          ·rw [if_neg c20] at H
           cases H
         ·rw [if_neg c19] at H
          cases H
        ·rw [if_neg c18] at H
         cases H
       ·rw [if_neg c17] at H
        cases H
      ·rw [if_neg c16] at H
       replace c16 := decide_eq_false c16
       have H' := am_ H
       clear H
       go_wp2
       go_loopg [56] k1 (fun kq v56 w' => ∃ (x8_2 : List Int) (x56_2 : Int), v56 = .int .i64 x56_2 ∧ Aside0 (spec_l11Fair.l1 kq l0 l1 t166 x7_1 x8_2 l1 (l1.length : Int) x56_2 = some r) ∧ Aside0 (kq ≤ k1) ∧ Aside0 (Kd.R (Kd.int .i64) 3 w' w.heap.size (fun k_ => some k_ ≠ (v176 : Value).ownBlock) (.slice Ao9 t166.length co9) t166) ∧ Aside0 (Kd.R Kd.bool 4 w' w.heap.size (fun _ => True) v173 x7_1) ∧ Aside0 (Kd.R (Kd.int .i64) 3 w' w.heap.size (fun k_ => some k_ ≠ ((.slice Ao9 t166.length co9) : Value).ownBlock) v176 x8_2) ∧ Aside0 (Below w.heap.size w w'))
       case atStart => exact ⟨(y175), (0), (Sh.es), H', ⟨Nat.le_refl _⟩, ⟨Sh.rl HO_5.out⟩, ⟨Sh.rl HO_7.out⟩, ⟨Sh.rl HO_8.out⟩, ⟨Sh.bw⟩⟩
       case round =>
        clear H'
        try clear hx1
        try clear hx2
        try clear hf2
        try clear hx17
        try clear hx18
        try clear hx24
        try clear hf24
        try clear hx28
        try clear hf28
        try clear hx178_0
        try clear hx179_0
        try clear hx180_0
        try clear hx181_0
        try clear hx24_0
        try clear hx28_0
        obtain ⟨x8_2, x56_2, rfl, HA, HK2, HO_5, HO_7, HO_8, HB⟩ := hrel
        cases gk with
        | zero => exact absurd HA.out (by simp [spec_l11Fair.l1])
        | succ k2 =>
         have H := HA.out
         clear HA
         simp only [spec_l11Fair.l1] at H
         by_cases c32 : x56_2 < (l1.length : Int)
         ·rw [if_pos c32] at H
          replace c32 := decide_eq_true c32
          by_cases c33 : 0 ≤ x56_2
          ·rw [if_pos c33] at H
           replace c33 := decide_eq_true c33
           by_cases c34 : x56_2 < (l1.length : Int)
           ·rw [if_pos c34] at H
            replace c34 := decide_eq_true c34
            have H' := am_ H
            clear H
            have p184 : 0 ≤ (x56_2 : Int) := Sh.od
            have q184 : x56_2 < (l1.length : Int) := Sh.od
            obtain ⟨ad184, A184_0, c184_0, e184, hx184_0, hl184_0, hi184_0⟩ := at_L1 HR1.out x56_2 p184 q184
            cases e184
            try replace hx184_0 := Sh.cw hx184_0
            have HR184_0 := am_ hi184_0
            have HC184_0 := am_ hl184_0
            clear hi184_0 hl184_0
            replace p184 := eq_true p184
            replace q184 := eq_true q184
            go_wp2
            go_loopg [63] k2 (fun kq v63 w' => ∃ (x8_3 : List Int) (x63_3 : Int), v63 = .int .i64 x63_3 ∧ Aside0 (spec_l11Fair.l2 kq l0 l1 t166 x7_1 x8_3 x56_2 l1 (l1.length : Int) x56_2 (rd_L1 l1 x56_2) ((rd_L1 l1 x56_2).length : Int) x63_3 = some r) ∧ Aside0 (kq ≤ k2) ∧ Aside0 (Kd.R (Kd.int .i64) 3 w' w.heap.size (fun k_ => some k_ ≠ (v176 : Value).ownBlock) (.slice Ao9 t166.length co9) t166) ∧ Aside0 (Kd.R Kd.bool 4 w' w.heap.size (fun _ => True) v173 x7_1) ∧ Aside0 (Kd.R (Kd.int .i64) 3 w' w.heap.size (fun k_ => some k_ ≠ ((.slice Ao9 t166.length co9) : Value).ownBlock) v176 x8_3) ∧ Aside0 (Below w.heap.size w w'))
            case atStart => exact ⟨(x8_2), (0), (Sh.es), H', ⟨Nat.le_refl _⟩, ⟨Sh.rl HO_5.out⟩, ⟨Sh.rl HO_7.out⟩, ⟨Sh.rl HO_8.out⟩, ⟨Sh.bw⟩⟩
            case round =>
             clear H'
             try clear hx1
             try clear hx2
             try clear hf2
             try clear hx17
             try clear hx18
             try clear hx24
             try clear hf24
             try clear hx28
             try clear hf28
             try clear hx178_0
             try clear hx179_0
             try clear hx180_0
             try clear hx181_0
             try clear hx184_0
             try clear hx24_0
             try clear hx28_0
             obtain ⟨x8_3, x63_3, rfl, HA, HK3, HO_5, HO_7, HO_8, HB⟩ := hrel
             cases gk with
             | zero => exact absurd HA.out (by simp [spec_l11Fair.l2])
             | succ k3 =>
              have H := HA.out
              clear HA
              simp only [spec_l11Fair.l2] at H
              by_cases c35 : x63_3 < ((rd_L1 l1 x56_2).length : Int)
              ·rw [if_pos c35] at H
               replace c35 := decide_eq_true c35
               by_cases c36 : 0 ≤ x63_3
               ·rw [if_pos c36] at H
                replace c36 := decide_eq_true c36
                by_cases c37 : x63_3 < ((rd_L1 l1 x56_2).length : Int)
                ·rw [if_pos c37] at H
                 replace c37 := decide_eq_true c37
                 by_cases c38 : 0 ≤ (rd (rd_L1 l1 x56_2) x63_3)
                 ·rw [if_pos c38] at H
                  replace c38 := decide_eq_true c38
                  by_cases c39 : (rd (rd_L1 l1 x56_2) x63_3) < (t166.length : Int)
                  ·rw [if_pos c39] at H
                   replace c39 := decide_eq_true c39
                   by_cases c40 : 0 ≤ (rd t166 (rd (rd_L1 l1 x56_2) x63_3))
                   ·rw [if_pos c40] at H
                    replace c40 := decide_eq_true c40
                    by_cases c41 : (rd t166 (rd (rd_L1 l1 x56_2) x63_3)) < (x8_3.length : Int)
                    ·rw [if_pos c41] at H
                     replace c41 := decide_eq_true c41
                     by_cases c42 : (rd x8_3 (rd t166 (rd (rd_L1 l1 x56_2) x63_3))) = x56_2
                     ·rw [if_pos c42] at H
                      have c42b0 : ((rd x8_3 (rd t166 (rd (rd_L1 l1 x56_2) x63_3))) == x56_2) = true := beq_iff_eq.mpr c42
                      have c42b1 : ((rd x8_3 (rd t166 (rd (rd_L1 l1 x56_2) x63_3))) != x56_2) = false := bne_eq_false_iff_eq.mpr c42
                      clear c42
                      obtain ⟨y189, hy189⟩ : ∃ y_ : List Int, y_ = (x8_3.set ((rd t166 (rd (rd_L1 l1 x56_2) x63_3)) : Int).toNat (wrap64 (x56_2 + 1))) := ⟨_, rfl⟩
                      replace H : (spec_l11Fair.l2 k3 l0 l1 t166 x7_1 y189 x56_2 l1 (l1.length : Int) x56_2 (rd_L1 l1 x56_2) ((rd_L1 l1 x56_2).length : Int) (wrap64 (x63_3 + 1))) = some r := by first | (rw [hy189]; with_reducible exact H) | (have H2_ := (Option.bind_some _ _).symm.trans H; rw [hy189]; with_reducible exact H2_) | (have H2_ := (Option.bind_some _ _).symm.trans H; with_reducible exact H2_) | with_reducible exact H | (rw [hy189]; exact H) | exact H
                      have Ny189 := am_ hy189
                      clear hy189
                      have H' := am_ H
                      clear H
                      have p185 : 0 ≤ (x63_3 : Int) := Sh.od
                      have q185 : x63_3 < ((rd_L1 l1 x56_2).length : Int) := Sh.od
                      obtain ⟨ad185, e185, hx185_0⟩ := Kd.at_int HR184_0.out x63_3 p185 q185
                      cases e185
                      try replace hx185_0 := Sh.cw hx185_0
                      replace p185 := eq_true p185
                      replace q185 := eq_true q185
                      have p186 : 0 ≤ ((rd (rd_L1 l1 x56_2) x63_3) : Int) := Sh.od
                      have q186 : (rd (rd_L1 l1 x56_2) x63_3) < (t166.length : Int) := Sh.od
                      obtain ⟨ad186, e186, hx186_0⟩ := Kd.at_int (Kd.R_reads' HO_5.out).2.2 (rd (rd_L1 l1 x56_2) x63_3) p186 q186
                      cases e186
                      replace p186 := eq_true p186
                      replace q186 := eq_true q186
                      obtain ⟨Ao44, co44, eo44⟩ := Kd.R_slice HO_8.out
                      subst eo44
                      have p187 : 0 ≤ ((rd t166 (rd (rd_L1 l1 x56_2) x63_3)) : Int) := Sh.od
                      have q187 : (rd t166 (rd (rd_L1 l1 x56_2) x63_3)) < (x8_3.length : Int) := Sh.od
                      obtain ⟨ad187, e187, hx187_0⟩ := Kd.at_int (Kd.R_reads' HO_8.out).2.2 (rd t166 (rd (rd_L1 l1 x56_2) x63_3)) p187 q187
                      cases e187
                      replace p187 := eq_true p187
                      replace q187 := eq_true q187
                      have p188 : 0 ≤ ((rd (rd_L1 l1 x56_2) x63_3) : Int) := Sh.od
                      have q188 : (rd (rd_L1 l1 x56_2) x63_3) < (t166.length : Int) := Sh.od
                      obtain ⟨ad188, e188, hx188_0⟩ := Kd.at_int (Kd.R_reads' HO_5.out).2.2 (rd (rd_L1 l1 x56_2) x63_3) p188 q188
                      obtain rfl : ad186 = ad188 := (by injection e188)
                      replace p188 := eq_true p188
                      replace q188 := eq_true q188
                      have p43 : 0 ≤ ((rd t166 (rd (rd_L1 l1 x56_2) x63_3)) : Int) := Sh.od
                      have q43 : ((rd t166 (rd (rd_L1 l1 x56_2) x63_3)) : Int) < ((x8_3.length : Int) : Int) := Sh.od
                      obtain ⟨go43, co43, eo43, gb43, gl43, cl43, HG43⟩ := Kd.R_form HO_8.out (by omega)
                      (first | cases eo43 | (injection eo43 with ea_ en_ ec_; (first | subst ea_ | (injection ea_ with ea_; subst ea_)); subst ec_; clear en_))
                      have GB43 := am_ gb43
                      have GG43 := am_ HG43
                      clear gb43 gl43 HG43
                      (first | simp only [add_plain] at hx187_0 | skip)
                      obtain ⟨hx43_0, hf43_0⟩ := Kd.R_celln 0 HO_8.out ((rd t166 (rd (rd_L1 l1 x56_2) x63_3)) : Int) p43 q43
                      replace p43 := eq_true p43
                      replace q43 := eq_true q43
                      have HP45 := Kd.R_putg HO_8.out ((rd t166 (rd (rd_L1 l1 x56_2) x63_3)) : Int) (wrap64 (x56_2 + 1))
                      go_wp2_with (first | ((with_reducible refine gate_store (t := 3) (p := 83) rfl ?_); refine store_event (t := 3) (p := 83) (v := ?vo_w46) (w1 := (wr.setCell ⟨go43, ((rd t166 (rd (rd_L1 l1 x56_2) x63_3)) : Int).toNat, none⟩ (.int .i64 (wrap64 (x56_2 + 1))))) ?hg ?ho ?hn ?hr ?_; (case ho => rfl); (case hg => rfl); (case hn => rfl); (case hr => first | (go_simp; done) | (go_simp; rfl)); intro w46 hw; have hg : wr.grownBy w46 (some go43) := (by rw [hw]; exact HP45.2); have hp_ : Kd.R (Kd.int .i64) 3 w46 w.heap.size (fun k_ => some k_ ≠ (.slice (some ad186) t166.length co9 : Value).ownBlock) (.slice (some ⟨go43, 0, none⟩) x8_3.length co44) y189 := (by rw [hw, Ny189.out]; exact HP45.1); clear HP45; replace HO_5 := am_ (Kd.R_after (v := (.slice (some ⟨go43, 0, none⟩) x8_3.length co44)) (v1 := (.slice (some ⟨go43, 0, none⟩) x8_3.length co44)) (ok := (fun _ => True)) (Sh.rl (Kd.R_mono HO_5.out (fun _ hk => ⟨trivial, hk⟩))) hg (.inl rfl)); replace HO_7 := am_ (Kd.R_over' (v := (.slice (some ⟨go43, 0, none⟩) x8_3.length co44)) (Sh.rl HO_7.out) (Kd.R_typed HO_8.out) (by decide) hg); replace HO_8 := am_ hp_; replace HB := am_ ((by rw [hw]; exact below_set (HB.out) GB43.out : Below w.heap.size w w46)); clear hg hw hp_))
                      go_roundg k3
                      case measure => have := HK1.out; have := HK2.out; have := HK3.out; omega
                      case rel => exact ⟨(y189), (wrap64 (x63_3 + 1)), (Sh.es), H', ⟨by have := HK1.out; have := HK2.out; have := HK3.out; omega⟩, ⟨Sh.rl (Kd.R_mono HO_5.out (fun _ hk => hk.2))⟩, ⟨Sh.rl HO_7.out⟩, ⟨Sh.rl HO_8.out⟩, ⟨Sh.bw⟩⟩
                     ·rw [if_neg c42] at H
                      have c42b0 : ((rd x8_3 (rd t166 (rd (rd_L1 l1 x56_2) x63_3))) == x56_2) = false := beq_eq_false_iff_ne.mpr c42
                      have c42b1 : ((rd x8_3 (rd t166 (rd (rd_L1 l1 x56_2) x63_3))) != x56_2) = true := bne_iff_ne.mpr c42
                      have H' := am_ H
                      clear H
                      have p185 : 0 ≤ (x63_3 : Int) := Sh.od
                      have q185 : x63_3 < ((rd_L1 l1 x56_2).length : Int) := Sh.od
                      obtain ⟨ad185, e185, hx185_0⟩ := Kd.at_int HR184_0.out x63_3 p185 q185
                      cases e185
                      try replace hx185_0 := Sh.cw hx185_0
                      replace p185 := eq_true p185
                      replace q185 := eq_true q185
                      have p186 : 0 ≤ ((rd (rd_L1 l1 x56_2) x63_3) : Int) := Sh.od
                      have q186 : (rd (rd_L1 l1 x56_2) x63_3) < (t166.length : Int) := Sh.od
                      obtain ⟨ad186, e186, hx186_0⟩ := Kd.at_int (Kd.R_reads' HO_5.out).2.2 (rd (rd_L1 l1 x56_2) x63_3) p186 q186
                      cases e186
                      replace p186 := eq_true p186
                      replace q186 := eq_true q186
                      obtain ⟨Ao47, co47, eo47⟩ := Kd.R_slice HO_8.out
                      subst eo47
                      have p187 : 0 ≤ ((rd t166 (rd (rd_L1 l1 x56_2) x63_3)) : Int) := Sh.od
                      have q187 : (rd t166 (rd (rd_L1 l1 x56_2) x63_3)) < (x8_3.length : Int) := Sh.od
                      obtain ⟨ad187, e187, hx187_0⟩ := Kd.at_int (Kd.R_reads' HO_8.out).2.2 (rd t166 (rd (rd_L1 l1 x56_2) x63_3)) p187 q187
                      cases e187
                      replace p187 := eq_true p187
                      replace q187 := eq_true q187
                      go_wp2
                      go_roundg k3
                      case measure => have := HK1.out; have := HK2.out; have := HK3.out; omega
                      case rel => exact ⟨(x8_3), (wrap64 (x63_3 + 1)), (Sh.es), H', ⟨by have := HK1.out; have := HK2.out; have := HK3.out; omega⟩, ⟨Sh.rl HO_5.out⟩, ⟨Sh.rl HO_7.out⟩, ⟨Sh.rl HO_8.out⟩, ⟨Sh.bw⟩⟩
                    ·rw [if_neg c41] at H
                     cases H
                   ·rw [if_neg c40] at H
                    cases H
                  ·rw [if_neg c39] at H
                   cases H
                 ·rw [if_neg c38] at H
                  cases H
                ·rw [if_neg c37] at H
                 cases H
               ·rw [if_neg c36] at H
                cases H
              ·rw [if_neg c35] at H
               replace c35 := decide_eq_false c35
               have H' := am_ H
               clear H
               go_wp2
               go_roundg k3
               case measure => have := HK1.out; have := HK2.out; have := HK3.out; omega
               case rel => exact ⟨(x8_3), (wrap64 (x56_2 + 1)), (Sh.es), H', ⟨by have := HK1.out; have := HK2.out; have := HK3.out; omega⟩, ⟨Sh.rl HO_5.out⟩, ⟨Sh.rl HO_7.out⟩, ⟨Sh.rl HO_8.out⟩, ⟨Sh.bw⟩⟩
           ·rw [if_neg c34] at H
            cases H
          ·rw [if_neg c33] at H
           cases H
         ·rw [if_neg c32] at H
          replace c32 := decide_eq_false c32
          have H' := am_ H
          clear H
          go_wp2
          go_loopg [15, 88] k2 (fun kq v15 v88 w' => ∃ (x15_3 : List Int) (x88_3 : Int), v88 = .int .i64 x88_3 ∧ Aside0 (spec_l11Fair.l3 kq l1 t166 x7_1 x8_2 x15_3 (l0.length : Int) x88_3 = some r) ∧ Aside0 (kq ≤ k2) ∧ Aside0 (Kd.R (Kd.int .i64) 3 w' w.heap.size (fun k_ => some k_ ≠ (v176 : Value).ownBlock ∧ some k_ ≠ (v15 : Value).ownBlock) (.slice Ao9 t166.length co9) t166) ∧ Aside0 (Kd.R Kd.bool 4 w' w.heap.size (fun _ => True) v173 x7_1) ∧ Aside0 (Kd.R (Kd.int .i64) 3 w' w.heap.size (fun k_ => some k_ ≠ ((.slice Ao9 t166.length co9) : Value).ownBlock ∧ some k_ ≠ (v15 : Value).ownBlock) v176 x8_2) ∧ Aside0 (Kd.R (Kd.int .i64) 3 w' w.heap.size (fun k_ => some k_ ≠ ((.slice Ao9 t166.length co9) : Value).ownBlock ∧ some k_ ≠ (v176 : Value).ownBlock) v15 x15_3) ∧ Aside0 (Below w.heap.size w w'))
          case atStart => exact ⟨(([] : List Int)), (0), (Sh.es), H', ⟨Nat.le_refl _⟩, ⟨Sh.rl (Kd.R_mono HO_5.out (fun _ hk => ⟨hk, (by simp [Value.ownBlock])⟩))⟩, ⟨Sh.rl HO_7.out⟩, ⟨Sh.rl (Kd.R_mono HO_8.out (fun _ hk => ⟨hk, (by simp [Value.ownBlock])⟩))⟩, ⟨by first | exact Kd.R_nil _ _ _ _ _ | exact Kd.N_nil _ _ _ _ _ | exact Kd.V_nil _ _ _ _ _ | exact Kd.Q_nil _ _ _ _ _ | exact Kd.S_nil _ _ _ _ _⟩, ⟨Sh.bw⟩⟩
          case round =>
           clear H'
           try clear hx1
           try clear hx2
           try clear hf2
           try clear hx4
           try clear hf4
           try clear hx17
           try clear hx18
           try clear hx24
           try clear hf24
           try clear hx28
           try clear hf28
           try clear hx43
           try clear hf43
           try clear hx178_0
           try clear hx179_0
           try clear hx180_0
           try clear hx181_0
           try clear hx184_0
           try clear hx185_0
           try clear hx186_0
           try clear hx187_0
           try clear hx188_0
           try clear hx24_0
           try clear hx28_0
           try clear hx43_0
           obtain ⟨x15_3, x88_3, rfl, HA, HK3, HO_5, HO_7, HO_8, HO_15, HB⟩ := hrel
           cases gk with
           | zero => exact absurd HA.out (by simp [spec_l11Fair.l3])
           | succ k3 =>
            have H := HA.out
            clear HA
            simp only [spec_l11Fair.l3] at H
            by_cases c48 : x88_3 < (l0.length : Int)
            ·rw [if_pos c48] at H
             replace c48 := decide_eq_true c48
             by_cases c49 : 0 ≤ x88_3
             ·rw [if_pos c49] at H
              replace c49 := decide_eq_true c49
              by_cases c50 : x88_3 < (t166.length : Int)
              ·rw [if_pos c50] at H
               replace c50 := decide_eq_true c50
               by_cases c51 : 0 ≤ (rd t166 x88_3)
               ·rw [if_pos c51] at H
                replace c51 := decide_eq_true c51
                by_cases c52 : (rd t166 x88_3) < (x7_1.length : Int)
                ·rw [if_pos c52] at H
                 replace c52 := decide_eq_true c52
                 obtain ⟨bq53, hbq53⟩ : ∃ b_ : Bool, b_ = (rdOf false x7_1 (rd t166 x88_3)) := ⟨_, rfl⟩
                 replace H : (if bq53 = true then (if (rd t166 x88_3) < (x8_2.length : Int) then (if (rd x8_2 (rd t166 x88_3)) = (l1.length : Int) then (if x15_3.length < 17592186044416 then (spec_l11Fair.l3 k3 l1 t166 x7_1 x8_2 (x15_3 ++ [x88_3]) (l0.length : Int) (wrap64 (x88_3 + 1))) else (none)) else (spec_l11Fair.l3 k3 l1 t166 x7_1 x8_2 x15_3 (l0.length : Int) (wrap64 (x88_3 + 1)))) else (none)) else (spec_l11Fair.l3 k3 l1 t166 x7_1 x8_2 x15_3 (l0.length : Int) (wrap64 (x88_3 + 1)))) = some r := by rw [← hbq53] at H; exact H
                 have Nbq53 := am_ hbq53
                 clear hbq53
                 by_cases c54 : bq53 = true
                 ·subst c54
                  rw [if_pos rfl] at H
                  by_cases c55 : (rd t166 x88_3) < (x8_2.length : Int)
                  ·rw [if_pos c55] at H
                   replace c55 := decide_eq_true c55
                   by_cases c56 : (rd x8_2 (rd t166 x88_3)) = (l1.length : Int)
                   ·rw [if_pos c56] at H
                    have c56b0 : ((rd x8_2 (rd t166 x88_3)) == (l1.length : Int)) = true := beq_iff_eq.mpr c56
                    have c56b1 : ((rd x8_2 (rd t166 x88_3)) != (l1.length : Int)) = false := bne_eq_false_iff_eq.mpr c56
                    clear c56
                    by_cases c57 : x15_3.length < 17592186044416
                    ·rw [if_pos c57] at H
                     have LMc57 := am_ c57
                     clear c57
                     obtain ⟨y194, hy194⟩ : ∃ y_ : List Int, y_ = (x15_3 ++ [x88_3]) := ⟨_, rfl⟩
                     replace H : (spec_l11Fair.l3 k3 l1 t166 x7_1 x8_2 y194 (l0.length : Int) (wrap64 (x88_3 + 1))) = some r := by first | (rw [hy194]; with_reducible exact H) | (have H2_ := (Option.bind_some _ _).symm.trans H; rw [hy194]; with_reducible exact H2_) | (have H2_ := (Option.bind_some _ _).symm.trans H; with_reducible exact H2_) | with_reducible exact H | (rw [hy194]; exact H) | exact H
                     have Ny194 := am_ hy194
                     clear hy194
                     have H' := am_ H
                     clear H
                     have p190 : 0 ≤ (x88_3 : Int) := Sh.od
                     have q190 : x88_3 < (t166.length : Int) := Sh.od
                     obtain ⟨ad190, e190, hx190_0⟩ := Kd.at_int (Kd.R_reads' HO_5.out).2.2 x88_3 p190 q190
                     cases e190
                     replace p190 := eq_true p190
                     replace q190 := eq_true q190
                     obtain ⟨Ao58, co58, eo58⟩ := Kd.R_slice HO_7.out
                     subst eo58
                     have p191 : 0 ≤ ((rd t166 x88_3) : Int) := Sh.od
                     have q191 : (rd t166 x88_3) < (x7_1.length : Int) := Sh.od
                     obtain ⟨ad191, e191, hx191_0⟩ := Kd.at_bool (Kd.R_reads' HO_7.out).2.2 (rd t166 x88_3) p191 q191
                     (try rw [← Nbq53.out] at hx191_0)
                     cases e191
                     replace p191 := eq_true p191
                     replace q191 := eq_true q191
                     have p192 : 0 ≤ (x88_3 : Int) := Sh.od
                     have q192 : x88_3 < (t166.length : Int) := Sh.od
                     obtain ⟨ad192, e192, hx192_0⟩ := Kd.at_int (Kd.R_reads' HO_5.out).2.2 x88_3 p192 q192
                     obtain rfl : ad190 = ad192 := (by injection e192)
                     replace p192 := eq_true p192
                     replace q192 := eq_true q192
                     obtain ⟨Ao59, co59, eo59⟩ := Kd.R_slice HO_8.out
                     subst eo59
                     have p193 : 0 ≤ ((rd t166 x88_3) : Int) := Sh.od
                     have q193 : (rd t166 x88_3) < (x8_2.length : Int) := Sh.od
                     obtain ⟨ad193, e193, hx193_0⟩ := Kd.at_int (Kd.R_reads' HO_8.out).2.2 (rd t166 x88_3) p193 q193
                     cases e193
                     replace p193 := eq_true p193
                     replace q193 := eq_true q193
                     go_wp2_with (first | ((with_reducible refine gate_builtin (b := .append) (xs := #[.tmp 110, .tmp 112]) rfl ?_); (try (refine gate_guard (by rfl) ?_; dsimp only)); at_builtin; refine Kd.R_append (Kd.int .i64) (w0 := w) w.heap.size rfl (.tmp 110) (.tmp 112) 26 3 (.int .i64 0) 8 rfl Try.underlying26 info3 rfl (by decide) (by omega) u15 x15_3 x88_3 [.int .i64 x88_3] (fun k_ => some k_ ≠ (.slice (some ad190) t166.length co9 : Value).ownBlock ∧ some k_ ≠ (.slice (some ad193) x8_2.length co59 : Value).ownBlock) (fun _ => False) rfl rfl ?aP (fun _ hk => hk.elim) ?aF ?aO ?aB ?aS ?aL ?_; (case aP => exact rfl); (case aB => exact Sh.bw); (case aF => exact (fun k_ hk => ⟨Kd.fresh' (Kd.R_lt (Sh.rl HO_5.out)) k_ hk, Kd.fresh' (Kd.R_lt (Sh.rl HO_8.out)) k_ hk⟩)); (case aO => exact (Sh.rl HO_15.out)); (case aS => exact (below_size Sh.bw)); (case aL => have := LMc57.out; omega); intro v195 w60 ho hb hg hat; rw [← Ny194.out] at ho; have n0_ := am_ (Kd.R_after (ok := (fun k_ => some k_ ≠ (.slice (some ad193) x8_2.length co59 : Value).ownBlock)) (Sh.rl HO_5.out) hg hat); have n1_ := am_ (Kd.R_over' (Sh.rl HO_7.out) (Kd.R_typed (Sh.rl HO_15.out)) (by decide) hg); have n2_ := am_ (Kd.R_after (ok := (fun k_ => some k_ ≠ (.slice (some ad190) t166.length co9 : Value).ownBlock)) (Sh.rl HO_8.out) hg hat); have n3_ := am_ hb; have n4_ := am_ ho; clear HO_5; clear HO_7; clear HO_8; clear HB; clear HO_15; have HO_5 := n0_; have HO_7 := n1_; have HO_8 := n2_; have HB := n3_; have HO196 := n4_; clear n0_ n1_ n2_ n3_ n4_; clear ho hb hg hat))
                     go_roundg k3
                     case measure => have := HK1.out; have := HK2.out; have := HK3.out; omega
                     case rel => exact ⟨(y194), (wrap64 (x88_3 + 1)), (Sh.es), H', ⟨by have := HK1.out; have := HK2.out; have := HK3.out; omega⟩, ⟨Sh.rl HO_5.out⟩, ⟨Sh.rl HO_7.out⟩, ⟨Sh.rl HO_8.out⟩, ⟨Sh.rl HO196.out⟩, ⟨Sh.bw⟩⟩
                    ·rw [if_neg c57] at H
                     cases H
                   ·rw [if_neg c56] at H
                    have c56b0 : ((rd x8_2 (rd t166 x88_3)) == (l1.length : Int)) = false := beq_eq_false_iff_ne.mpr c56
                    have c56b1 : ((rd x8_2 (rd t166 x88_3)) != (l1.length : Int)) = true := bne_iff_ne.mpr c56
                    have H' := am_ H
                    clear H
                    have p190 : 0 ≤ (x88_3 : Int) := Sh.od
                    have q190 : x88_3 < (t166.length : Int) := Sh.od
                    obtain ⟨ad190, e190, hx190_0⟩ := Kd.at_int (Kd.R_reads' HO_5.out).2.2 x88_3 p190 q190
                    cases e190
                    replace p190 := eq_true p190
                    replace q190 := eq_true q190
                    obtain ⟨Ao61, co61, eo61⟩ := Kd.R_slice HO_7.out
                    subst eo61
                    have p191 : 0 ≤ ((rd t166 x88_3) : Int) := Sh.od
                    have q191 : (rd t166 x88_3) < (x7_1.length : Int) := Sh.od
                    obtain ⟨ad191, e191, hx191_0⟩ := Kd.at_bool (Kd.R_reads' HO_7.out).2.2 (rd t166 x88_3) p191 q191
                    (try rw [← Nbq53.out] at hx191_0)
                    cases e191
                    replace p191 := eq_true p191
                    replace q191 := eq_true q191
                    have p192 : 0 ≤ (x88_3 : Int) := Sh.od
                    have q192 : x88_3 < (t166.length : Int) := Sh.od
                    obtain ⟨ad192, e192, hx192_0⟩ := Kd.at_int (Kd.R_reads' HO_5.out).2.2 x88_3 p192 q192
                    obtain rfl : ad190 = ad192 := (by injection e192)
                    replace p192 := eq_true p192
                    replace q192 := eq_true q192
                    obtain ⟨Ao62, co62, eo62⟩ := Kd.R_slice HO_8.out
                    subst eo62
                    have p193 : 0 ≤ ((rd t166 x88_3) : Int) := Sh.od
                    have q193 : (rd t166 x88_3) < (x8_2.length : Int) := Sh.od
                    obtain ⟨ad193, e193, hx193_0⟩ := Kd.at_int (Kd.R_reads' HO_8.out).2.2 (rd t166 x88_3) p193 q193
                    cases e193
                    replace p193 := eq_true p193
                    replace q193 := eq_true q193
                    go_wp2
                    go_roundg k3
                    case measure => have := HK1.out; have := HK2.out; have := HK3.out; omega
                    case rel => exact ⟨(x15_3), (wrap64 (x88_3 + 1)), (Sh.es), H', ⟨by have := HK1.out; have := HK2.out; have := HK3.out; omega⟩, ⟨Sh.rl HO_5.out⟩, ⟨Sh.rl HO_7.out⟩, ⟨Sh.rl HO_8.out⟩, ⟨Sh.rl HO_15.out⟩, ⟨Sh.bw⟩⟩
                  ·rw [if_neg c55] at H
                   cases H
                 ·replace c54 := Bool.eq_false_iff.mpr c54
                  subst c54
                  rw [Sh.nf] at H
                  have H' := am_ H
                  clear H
                  have p190 : 0 ≤ (x88_3 : Int) := Sh.od
                  have q190 : x88_3 < (t166.length : Int) := Sh.od
                  obtain ⟨ad190, e190, hx190_0⟩ := Kd.at_int (Kd.R_reads' HO_5.out).2.2 x88_3 p190 q190
                  cases e190
                  replace p190 := eq_true p190
                  replace q190 := eq_true q190
                  obtain ⟨Ao63, co63, eo63⟩ := Kd.R_slice HO_7.out
                  subst eo63
                  have p191 : 0 ≤ ((rd t166 x88_3) : Int) := Sh.od
                  have q191 : (rd t166 x88_3) < (x7_1.length : Int) := Sh.od
                  obtain ⟨ad191, e191, hx191_0⟩ := Kd.at_bool (Kd.R_reads' HO_7.out).2.2 (rd t166 x88_3) p191 q191
                  (try rw [← Nbq53.out] at hx191_0)
                  cases e191
                  replace p191 := eq_true p191
                  replace q191 := eq_true q191
                  go_wp2
                  go_roundg k3
                  case measure => have := HK1.out; have := HK2.out; have := HK3.out; omega
                  case rel => exact ⟨(x15_3), (wrap64 (x88_3 + 1)), (Sh.es), H', ⟨by have := HK1.out; have := HK2.out; have := HK3.out; omega⟩, ⟨Sh.rl HO_5.out⟩, ⟨Sh.rl HO_7.out⟩, ⟨Sh.rl HO_8.out⟩, ⟨Sh.rl HO_15.out⟩, ⟨Sh.bw⟩⟩
                ·rw [if_neg c52] at H
                 cases H
               ·rw [if_neg c51] at H
                cases H
              ·rw [if_neg c50] at H
               cases H
             ·rw [if_neg c49] at H
              cases H
            ·rw [if_neg c48] at H
             replace c48 := decide_eq_false c48
             obtain rfl := Option.some.inj H
             go_wp2
             go_ret
             exact ⟨_, Sh.eR, Sh.rl (Kd.R_mono HO_15.out (fun _ hk => trivial)), Sh.bw⟩
   ·rw [if_neg c7] at H
    cases H
  ·rw [if_neg c6] at H
   cases H
 ·rw [if_neg c5] at H
  cases H
def spec_l1Own.f (l0 : List Int) : Option (List Int) := (some (([] : List Int) : List Int)).bind fun y197 => (if y197.length + l0.length < 17592186044416 then (some (y197 ++ l0)) else (none))
theorem spec_l1Own.calls (A0 : Option Addr) (c0 : Nat) (l0 : List Int) (r : List Int) (w : World) (hr0 : Kd.C (Kd.int .i64) w A0 l0.length l0) (hc0 : l0.length ≤ c0) (h : spec_l1Own.f l0 = some r) :
  Calls Try.prog 70 #[.slice A0 l0.length c0] w fun e w' => ∃ v0_ : Value, e = .returned (v0_) ∧ Kd.R (Kd.int .i64) 3 w' w.heap.size (fun _ => True) v0_ r ∧ Below w.heap.size w w' := by
 have HR0 := am_ hr0
 have HC0 := am_ hc0
 clear hr0 hc0
 have HB := am_ (Below.refl w.heap.size w)
 have H := h
 clear h
 unfold spec_l1Own.f at H
 obtain ⟨y197, hy197⟩ : ∃ y_ : List Int, y_ = (([] : List Int)) := ⟨_, rfl⟩
 replace H : (if y197.length + l0.length < 17592186044416 then (some (y197 ++ l0)) else (none)) = some r := by first | (rw [hy197]; with_reducible exact H) | (have H2_ := (Option.bind_some _ _).symm.trans H; rw [hy197]; with_reducible exact H2_) | (have H2_ := (Option.bind_some _ _).symm.trans H; with_reducible exact H2_) | with_reducible exact H | (rw [hy197]; exact H) | exact H
 have Ny197 := am_ hy197
 clear hy197
 by_cases c2 : y197.length + l0.length < 17592186044416
 ·rw [if_pos c2] at H
  have LMc2 := am_ c2
  clear c2
  obtain ⟨y200, hy200⟩ : ∃ y_ : List Int, y_ = (y197 ++ l0) := ⟨_, rfl⟩
  replace H : (some y200) = some r := by first | (rw [hy200]; with_reducible exact H) | (have H2_ := (Option.bind_some _ _).symm.trans H; rw [hy200]; with_reducible exact H2_) | (have H2_ := (Option.bind_some _ _).symm.trans H; with_reducible exact H2_) | with_reducible exact H | (rw [hy200]; exact H) | exact H
  have Ny200 := am_ hy200
  clear hy200
  obtain rfl := Option.some.inj H
  go_enter Try.func70, Try.ntmps70
  go_wp2_with (first | ((with_reducible refine Sh.d 3 ?_); refine Kd.R_lit (Kd.int .i64) _ 3 ?hg (N := 3) ?hd (xs := ([] : List Int)) (inner := []) (ok := fun _ => True) (okp := fun _ => True) ?hr ?hp (fun _ hk => hk) trivial (Below.refl _ _) (Nat.le_refl _) (by simp) ?_; (case hd => rfl); (case hg => rfl); (case hr => first | (go_simp; done) | (go_simp; rfl)); (case hp => exact (Reps.none _ _)); intro v198 w3 ho4 hb hg_ hnew_; clear hg_ hnew_; (first | rw [← Ny197.out] at ho4 | (simp only [Int.reduceToNat] at ho4; rw [← Ny197.out] at ho4)); have HO199 := am_ (Kd.R_lower ho4 (below_size Sh.bw)); replace HB := Sh.hb hb; clear hb ho4) | ((with_reducible refine gate_builtin (b := .append) (xs := #[.tmp 3, .tmp 4]) rfl ?_); at_builtin; refine Kd.R_append_rows (Kd.int .i64) (w0 := w) w.heap.size rfl (.tmp 3) (.tmp 4) 26 3 (.int .i64 0) 8 rfl Try.underlying26 info3 rfl (by decide) (by omega) v198 y197 l0 _ _ _ (fun _ => True) (fun _ => False) rfl rfl ?aO ?aR (fun _ _ h => h) (fun _ h => h.elim) ?aF ?aB ?aS ?aL ?_; (case aR => repeat (first | exact (Kd.C_below HR0.out HB.out) | (with_reducible first | refine Kd.C_alloc ?_ _ | refine Kd.C_drewN ?_ _ | refine Kd.C_drew ?_))); (case aB => exact Sh.bw); (case aF => exact (fun _ _ => trivial)); (case aO => exact (Sh.rl HO199.out)); (case aS => exact (below_size Sh.bw)); (case aL => have := LMc2.out; omega); intro v201 w5 ho hb hg hat; rw [← Ny200.out] at ho; have n0_ := am_ hb; have n1_ := am_ ho; clear HB; clear HO199; have HB := n0_; have HO202 := n1_; clear n0_ n1_; clear ho hb hg hat))
  go_ret
  exact ⟨_, Sh.eR, Sh.rl HO202.out, Sh.bw⟩
 ·rw [if_neg c2] at H
  cases H
end Go.Proofs.Ytnfpolhpanpeiaa.P
