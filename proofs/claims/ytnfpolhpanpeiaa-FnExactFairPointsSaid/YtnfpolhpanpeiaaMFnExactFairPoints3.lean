/- Go functions of this seat as Lean functions, and the proofs that the calls come to what these say; printed by a program of this session. No condition. -/
import Derived.Test.YtnfpolhpanpeiaaP0
import Derived.Test.YtnfpolhpanpeiaaMFnExactFairPoints2
import Derived.Test.YtnfpolhpanpeiaaMFnExactFairPoints1
set_option linter.unusedVariables false
set_option linter.unusedSimpArgs false
set_option maxHeartbeats 40000000
set_option maxRecDepth 100000
namespace Go.Proofs.Ytnfpolhpanpeiaa.P
open Go.RowKit Go.Proofs.YtnfpolhpanpeiaaW.PrintWords Go.Proofs.YtnfpolhpanpeiaaW.PrintLast Go.Proofs.YtnfpolhpanpeiaaW.PrintMore Go.Proofs.Ytnfpolhpanpeiaa.Hof
attribute [local go_sem] max2_int min2_int max_two min_two max_three min_three max_four min_four
mutual
def spec_l11Fair.l0 : Nat → List (List Int) → List (List Int) → List Int → List Bool → List Int → List (List Int) → Int → Int → Option (List Int)
 | 0, _, _, _, _, _, _, _, _ => none
 | k + 1, x0, x1, x5, x7, x8, x28, x29, x30 => if x30 < x29 then (if 0 ≤ x30 then (if x30 < (x28.length : Int) then (if x30 < (x5.length : Int) then (if 0 ≤ (rd x5 x30) then (if (rd x5 x30) < (x7.length : Int) then (if rdOf false x7 (rd x5 x30) = true then (spec_l11Fair.l0 k x0 x1 x5 (x7.set ((rd x5 x30) : Int).toNat true) x8 x28 x29 (wrap64 (x30 + 1))) else (spec_l11Fair.l0 k x0 x1 x5 (x7.set ((rd x5 x30) : Int).toNat (decide (((rd_L1 x28 x30).length : Int) > 0))) x8 x28 x29 (wrap64 (x30 + 1)))) else (none)) else (none)) else (none)) else (none)) else (none)) else (spec_l11Fair.l1 k x0 x1 x5 x7 x8 x1 (x1.length : Int) 0)
def spec_l11Fair.l1 : Nat → List (List Int) → List (List Int) → List Int → List Bool → List Int → List (List Int) → Int → Int → Option (List Int)
 | 0, _, _, _, _, _, _, _, _ => none
 | k + 1, x0, x1, x5, x7, x8, x54, x55, x56 => if x56 < x55 then (if 0 ≤ x56 then (if x56 < (x54.length : Int) then (spec_l11Fair.l2 k x0 x1 x5 x7 x8 x56 x54 x55 x56 (rd_L1 x54 x56) ((rd_L1 x54 x56).length : Int) 0) else (none)) else (none)) else (spec_l11Fair.l3 k x1 x5 x7 x8 ([] : List Int) (x0.length : Int) 0)
def spec_l11Fair.l2 : Nat → List (List Int) → List (List Int) → List Int → List Bool → List Int → Int → List (List Int) → Int → Int → List Int → Int → Int → Option (List Int)
 | 0, _, _, _, _, _, _, _, _, _, _, _, _ => none
 | k + 1, x0, x1, x5, x7, x8, x11, x54, x55, x56, x61, x62, x63 => if x63 < x62 then (if 0 ≤ x63 then (if x63 < (x61.length : Int) then (if 0 ≤ (rd x61 x63) then (if (rd x61 x63) < (x5.length : Int) then (if 0 ≤ (rd x5 (rd x61 x63)) then (if (rd x5 (rd x61 x63)) < (x8.length : Int) then (if (rd x8 (rd x5 (rd x61 x63))) = x11 then (spec_l11Fair.l2 k x0 x1 x5 x7 (x8.set ((rd x5 (rd x61 x63)) : Int).toNat (wrap64 (x11 + 1))) x11 x54 x55 x56 x61 x62 (wrap64 (x63 + 1))) else (spec_l11Fair.l2 k x0 x1 x5 x7 x8 x11 x54 x55 x56 x61 x62 (wrap64 (x63 + 1)))) else (none)) else (none)) else (none)) else (none)) else (none)) else (none)) else (spec_l11Fair.l1 k x0 x1 x5 x7 x8 x54 x55 (wrap64 (x56 + 1)))
def spec_l11Fair.l3 : Nat → List (List Int) → List Int → List Bool → List Int → List Int → Int → Int → Option (List Int)
 | 0, _, _, _, _, _, _, _ => none
 | k + 1, x1, x5, x7, x8, x15, x87, x88 => if x88 < x87 then (if 0 ≤ x88 then (if x88 < (x5.length : Int) then (if 0 ≤ (rd x5 x88) then (if (rd x5 x88) < (x7.length : Int) then (if rdOf false x7 (rd x5 x88) = true then (if (rd x5 x88) < (x8.length : Int) then (if (rd x8 (rd x5 x88)) = (x1.length : Int) then (if x15.length < 17592186044416 then (spec_l11Fair.l3 k x1 x5 x7 x8 (x15 ++ [x88]) x87 (wrap64 (x88 + 1))) else (none)) else (spec_l11Fair.l3 k x1 x5 x7 x8 x15 x87 (wrap64 (x88 + 1)))) else (none)) else (spec_l11Fair.l3 k x1 x5 x7 x8 x15 x87 (wrap64 (x88 + 1)))) else (none)) else (none)) else (none)) else (none)) else (some x15)
end
def spec_l11Fair.f (k : Nat) (l0 : List (List Int)) (l1 : List (List Int)) : Option (List Int) := (spec_l11Parts.f k l0).bind fun t166 => ((spec_l11Within.f k l0 t166).bind fun t169 => (if 0 ≤ (l0.length : Int) then (if ((l0.length : Int) : Int).toNat ≤ 281474976710656 then (if ((l0.length : Int) : Int).toNat ≤ 35184372088832 then (spec_l11Fair.l0 k l0 l1 t166 (List.replicate ((l0.length : Int) : Int).toNat false) (List.replicate ((l0.length : Int) : Int).toNat 0) t169 (t169.length : Int) 0) else (none)) else (none)) else (none)))
theorem spec_l11Fair.mono_l : ∀ k, (∀ y0 y1 y2 y3 y4 y5 y6 y7, LeO (spec_l11Fair.l0 k y0 y1 y2 y3 y4 y5 y6 y7) (spec_l11Fair.l0 (k + 1) y0 y1 y2 y3 y4 y5 y6 y7)) ∧ (∀ y0 y1 y2 y3 y4 y5 y6 y7, LeO (spec_l11Fair.l1 k y0 y1 y2 y3 y4 y5 y6 y7) (spec_l11Fair.l1 (k + 1) y0 y1 y2 y3 y4 y5 y6 y7)) ∧ (∀ y0 y1 y2 y3 y4 y5 y6 y7 y8 y9 y10 y11, LeO (spec_l11Fair.l2 k y0 y1 y2 y3 y4 y5 y6 y7 y8 y9 y10 y11) (spec_l11Fair.l2 (k + 1) y0 y1 y2 y3 y4 y5 y6 y7 y8 y9 y10 y11)) ∧ (∀ y0 y1 y2 y3 y4 y5 y6, LeO (spec_l11Fair.l3 k y0 y1 y2 y3 y4 y5 y6) (spec_l11Fair.l3 (k + 1) y0 y1 y2 y3 y4 y5 y6))
 | 0 => ⟨fun _ _ _ _ _ _ _ _ r h => by simp [spec_l11Fair.l0] at h, fun _ _ _ _ _ _ _ _ r h => by simp [spec_l11Fair.l1] at h, fun _ _ _ _ _ _ _ _ _ _ _ _ r h => by simp [spec_l11Fair.l2] at h, fun _ _ _ _ _ _ _ r h => by simp [spec_l11Fair.l3] at h⟩
 | k + 1 => by
  obtain ⟨ih0, ih1, ih2, ih3⟩ := spec_l11Fair.mono_l k
  and_intros <;> intros
  all_goals (first | unfold spec_l11Fair.l0 | unfold spec_l11Fair.l1 | unfold spec_l11Fair.l2 | unfold spec_l11Fair.l3)
  all_goals repeat' with_reducible first | apply ih0 | apply ih1 | apply ih2 | apply ih3 | apply spec_l11Parts.mono | apply spec_l11Within.mono | exact LeO.refl _ | exact LeO.none _ | apply LeO.ite | refine LeO.bind ?_ fun _ => ?_
theorem spec_l11Fair.mono : ∀ a0 a1 k, LeO (spec_l11Fair.f k a0 a1) (spec_l11Fair.f (k + 1) a0 a1) := by
 intro a0 a1 k
 obtain ⟨ih0, ih1, ih2, ih3⟩ := spec_l11Fair.mono_l k
 unfold spec_l11Fair.f
 repeat' with_reducible first | apply ih0 | apply ih1 | apply ih2 | apply ih3 | apply spec_l11Parts.mono | apply spec_l11Within.mono | exact LeO.refl _ | exact LeO.none _ | apply LeO.ite | refine LeO.bind ?_ fun _ => ?_
def spec_l11Fair.T8 : Bool × List (List Nat × List Nat) := (true, [([], []), ([], []), ([], []), ([1, 2], [1, 2]), ([3], [3]), ([], []), ([], []), ([], []), ([6, 7], [6, 7]), ([8], [8]), ([5, 9], [5, 9]), ([10], [10]), ([11], [11]), ([12], [12]), ([13, 12], [12, 13]), ([14, 12], [12, 14]), ([12, 15], [12, 15]), ([0, 4, 0, 1, 2, 3, 4, 5, 6, 7, 8, 9, 10, 11, 12, 13, 14, 15, 16], [0, 4]), ([17, 16, 12, 0, 1, 2, 3, 4, 5, 6, 7, 8, 9, 10, 11, 12, 13, 14, 15, 16], [16, 17])])
def spec_l11Fair.B8 : List Nat := [0, 0, 0, 6, 14, 0, 0, 0, 192, 448, 992, 2016, 4064, 8160, 16352, 32736, 65504, 131071, 262143]
theorem spec_l11Fair.tab8 : rtab .any (opsOf Try.f38 8) = spec_l11Fair.T8 := by kernel_rfl
theorem spec_l11Fair.bits8 : waitsOk spec_l11Fair.T8.2 spec_l11Fair.B8 = true := by kernel_rfl
theorem spec_l11Fair.calls (k : Nat) (A0 : Option Addr) (c0 : Nat) (l0 : List (List Int)) (A1 : Option Addr) (c1 : Nat) (l1 : List (List Int)) (r : List Int) (w : World) (hr0 : Kd.C (Kd.slice 3 (Kd.int .i64)) w A0 l0.length l0) (hc0 : l0.length ≤ c0) (hr1 : Kd.C (Kd.slice 3 (Kd.int .i64)) w A1 l1.length l1) (hc1 : l1.length ≤ c1) (h : spec_l11Fair.f k l0 l1 = some r) :
  Calls Try.prog 38 #[.slice A0 l0.length c0, .slice A1 l1.length c1] w fun e w' => ∃ v0_ : Value, e = .returned (v0_) ∧ Kd.R (Kd.int .i64) 3 w' w.heap.size (fun _ => True) v0_ r ∧ Below w.heap.size w w' := by
 have HR0 := am_ hr0
 have HC0 := am_ hc0
 clear hr0 hc0
 have HR1 := am_ hr1
 have HC1 := am_ hc1
 clear hr1 hc1
 have HB := am_ (Below.refl w.heap.size w)
 have H := h
 clear h
 unfold spec_l11Fair.f at H
 obtain ⟨t166, A3, H⟩ := Sh.ba H
 obtain ⟨t169, A4, H⟩ := Sh.ba H
 by_cases c5 : 0 ≤ (l0.length : Int)
 ·rw [if_pos c5] at H
  have c5b0 := eq_true c5
  have c5b1 := decide_eq_true c5
  clear c5
  by_cases c6 : ((l0.length : Int) : Int).toNat ≤ 281474976710656
  ·rw [if_pos c6] at H
   have c6b0 := eq_true c6
   have c6b1 := decide_eq_true c6
   clear c6
   obtain ⟨y172, hy172⟩ : ∃ y_ : List Bool, y_ = (List.replicate ((l0.length : Int) : Int).toNat false) := ⟨_, rfl⟩
   replace H : (if ((l0.length : Int) : Int).toNat ≤ 35184372088832 then (spec_l11Fair.l0 k l0 l1 t166 y172 (List.replicate ((l0.length : Int) : Int).toNat 0) t169 (t169.length : Int) 0) else (none)) = some r := by first | (rw [hy172]; with_reducible exact H) | (have H2_ := (Option.bind_some _ _).symm.trans H; rw [hy172]; with_reducible exact H2_) | (have H2_ := (Option.bind_some _ _).symm.trans H; with_reducible exact H2_) | with_reducible exact H | (rw [hy172]; exact H) | exact H
   have Ny172 := am_ hy172
   clear hy172
   by_cases c7 : ((l0.length : Int) : Int).toNat ≤ 35184372088832
   ·rw [if_pos c7] at H
    have c7b0 := eq_true c7
    have c7b1 := decide_eq_true c7
    clear c7
    obtain ⟨y175, hy175⟩ : ∃ y_ : List Int, y_ = (List.replicate ((l0.length : Int) : Int).toNat 0) := ⟨_, rfl⟩
    replace H : (spec_l11Fair.l0 k l0 l1 t166 y172 y175 t169 (t169.length : Int) 0) = some r := by first | (rw [hy175]; with_reducible exact H) | (have H2_ := (Option.bind_some _ _).symm.trans H; rw [hy175]; with_reducible exact H2_) | (have H2_ := (Option.bind_some _ _).symm.trans H; with_reducible exact H2_) | with_reducible exact H | (rw [hy175]; exact H) | exact H
    have Ny175 := am_ hy175
    clear hy175
    have H' := am_ H
    clear H
    go_enter Try.func38, Try.ntmps38
    go_wp2_with (first | ((with_reducible refine Sh.k 28 ?_); refine Sh.gL (some 18) Try.func28 #[.slice A0 l0.length c0] (h := ?_); (with_reducible refine (spec_l11Parts.calls k _ _ l0 t166 _ ?side1 ?side2 A3.out).mono ?_); (case side1 => repeat (first | exact HR0.out | (with_reducible first | refine Kd.C_alloc ?_ _ | refine Kd.C_drewN ?_ _ | refine Kd.C_drew ?_))); (case side2 => exact HC0.out); rintro e w8 ⟨v167, rfl, ho0, hb⟩; refine ⟨_, rfl, ?_⟩; have HO168 := am_ (Kd.R_lower ho0 (below_size Sh.bw)); replace HB := Sh.hb hb; (try clear hb); (try clear hb2); (try clear hk); (try clear hi); (try clear ho0); obtain ⟨Ao9, co9, eo9⟩ := Kd.R_slice HO168.out; subst eo9) | ((with_reducible refine Sh.k 51 ?_); refine Sh.gL (some 21) Try.func51 #[.slice A0 l0.length c0, .slice Ao9 t166.length co9] (h := ?_); (with_reducible refine (spec_l11Within.calls k _ _ l0 _ _ t166 t169 _ (Sh.cB HR0.out) HC0.out (Sh.cR (Kd.R_reads' HO168.out).2.2) (Kd.R_reads' HO168.out).2.1 A4.out).mono ?_); rintro e w10 ⟨v170, rfl, ho0, hb⟩; refine ⟨_, rfl, ?_⟩; have HO171 := am_ (Kd.S_lower (Kd.S_new' ho0 (Kd.R_lt (Sh.rl HO168.out))) (below_size Sh.bw)); replace HO168 := am_ (Kd.R_below (Sh.rl HO168.out) hb); replace HB := Sh.hb hb; (try clear hb); (try clear hb2); (try clear hk); (try clear hi); (try clear ho0)) | ((with_reducible refine Sh.d 24 ?_); (try (refine gate_guard (by rfl) ?_; dsimp only)); refine Kd.R_make Kd.bool _ 4 rfl (N := 24) rfl 56 _ _ rfl (l0.length : Int) rfl rfl Try.underlying56 (.bool false) 1 info4 rfl (by decide) (by omega) false (ok := fun _ => True) (okp := fun _ => True) rfl (fun _ hk => hk) trivial (of_decide_eq_true (by first | (with_reducible assumption) | assumption)) (Nat.le_trans (Nat.mul_le_mul_right _ (of_decide_eq_true (by first | (with_reducible assumption) | assumption) : (l0.length : Int).toNat ≤ 281474976710656)) (by omega)) (Below.refl _ _) (Nat.le_refl _) ?_; intro v173 w11 ho12 hb hg_ hnew_; clear hg_ hnew_; (first | rw [← Ny172.out] at ho12 | (simp only [Int.reduceToNat] at ho12; rw [← Ny172.out] at ho12)); replace HO168 := am_ (Kd.R_below (Sh.rl HO168.out) hb); replace HO171 := am_ (Kd.S_below (by (with_reducible repeat (first | apply Kd.S_alloc | apply Kd.S_drewN | apply Kd.S_drew)); exact HO171.out) hb); have HO174 := am_ (Kd.R_lower ho12 (below_size Sh.bw)); replace HB := Sh.hb hb; clear hb ho12) | ((with_reducible refine Sh.d 27 ?_); (try (refine gate_guard (by rfl) ?_; dsimp only)); refine Kd.R_make (Kd.int .i64) _ 3 rfl (N := 27) rfl 26 _ _ rfl (l0.length : Int) rfl rfl Try.underlying26 (.int .i64 0) 8 info3 rfl (by decide) (by omega) 0 (ok := fun _ => True) (okp := fun _ => True) rfl (fun _ hk => hk) trivial (of_decide_eq_true (by first | (with_reducible assumption) | assumption)) (Nat.le_trans (Nat.mul_le_mul_right _ (of_decide_eq_true (by first | (with_reducible assumption) | assumption) : (l0.length : Int).toNat ≤ 35184372088832)) (by omega)) (Below.refl _ _) (Nat.le_refl _) ?_; intro v176 w13 ho14 hb hg_ hnew_; clear hg_ hnew_; (first | rw [← Ny175.out] at ho14 | (simp only [Int.reduceToNat] at ho14; rw [← Ny175.out] at ho14)); replace HO171 := am_ (Kd.S_elder' (by (with_reducible repeat (first | apply Kd.S_alloc | apply Kd.S_drewN | apply Kd.S_drew)); exact HO171.out) (Kd.R_base ho14) hb); replace HO174 := am_ (Kd.R_below (Sh.rl HO174.out) hb); have HO177 := am_ (Kd.R_lower (Kd.R_new' ho14 (Kd.R_lt (Sh.rl HO168.out))) (below_size Sh.bw)); replace HO168 := am_ (Kd.R_elder' (Sh.rl HO168.out) (Kd.R_base ho14) hb); replace HB := Sh.hb hb; clear hb ho14; obtain ⟨Ao15, co15, eo15⟩ := Kd.S_slice HO171.out; subst eo15))
    go_loopg [30] k (fun kq v30 w' => ∃ (x7_1 : List Bool) (x30_1 : Int), v30 = .int .i64 x30_1 ∧ Aside0 (spec_l11Fair.l0 kq l0 l1 t166 x7_1 y175 t169 (t169.length : Int) x30_1 = some r) ∧ Aside0 (kq ≤ k) ∧ Aside0 (Kd.R (Kd.int .i64) 3 w' w.heap.size (fun k_ => some k_ ≠ (v176 : Value).ownBlock) (.slice Ao9 t166.length co9) t166) ∧ Aside0 (Kd.R Kd.bool 4 w' w.heap.size (fun _ => True) v173 x7_1) ∧ Aside0 (Kd.R (Kd.int .i64) 3 w' w.heap.size (fun k_ => some k_ ≠ ((.slice Ao9 t166.length co9) : Value).ownBlock) v176 y175) ∧ Aside0 (Kd.S (Kd.slice 3 (Kd.int .i64)) 26 w' w.heap.size (fun k_ => some k_ ≠ ((.slice Ao9 t166.length co9) : Value).ownBlock ∧ some k_ ≠ (v176 : Value).ownBlock) (.slice Ao15 t169.length co15) t169) ∧ Aside0 (Below w.heap.size w w'))
    case atStart => exact ⟨(y172), (0), (Sh.es), H', ⟨Nat.le_refl _⟩, ⟨Sh.rl (Kd.R_mono HO168.out (fun _ hk => hk.2))⟩, ⟨Sh.rl HO174.out⟩, ⟨Sh.rl (Kd.R_mono HO177.out (fun _ hk => hk.2))⟩, ⟨by (with_reducible repeat (first | apply Kd.S_alloc | apply Kd.S_drewN | apply Kd.S_drew)); exact Kd.S_mono HO171.out (fun _ h => ⟨h.1.2, h.2⟩)⟩, ⟨Sh.bw⟩⟩
    case round =>
     clear H'
     obtain ⟨x7_1, x30_1, rfl, HA, HK1, HO_5, HO_7, HO_8, HO_28, HB⟩ := hrel
     cases gk with
     | zero => exact absurd HA.out (by simp [spec_l11Fair.l0])
     | succ k1 =>
      have H := HA.out
      clear HA
      simp only [spec_l11Fair.l0] at H
      by_cases c16 : x30_1 < (t169.length : Int)
      ·rw [if_pos c16] at H
       have c16b0 := decide_eq_true c16
       clear c16
       by_cases c17 : 0 ≤ x30_1
       ·rw [if_pos c17] at H
        have c17b0 := decide_eq_true c17
        clear c17
        by_cases c18 : x30_1 < (t169.length : Int)
        ·rw [if_pos c18] at H
         have c18b0 := decide_eq_true c18
         clear c18
         by_cases c19 : x30_1 < (t166.length : Int)
         ·rw [if_pos c19] at H
          have c19b0 := decide_eq_true c19
          clear c19
          by_cases c20 : 0 ≤ (rd t166 x30_1)
          ·rw [if_pos c20] at H
           have c20b0 := decide_eq_true c20
           clear c20
           by_cases c21 : (rd t166 x30_1) < (x7_1.length : Int)
           ·rw [if_pos c21] at H
            have c21b0 := decide_eq_true c21
            clear c21
            obtain ⟨bq22, hbq22⟩ : ∃ b_ : Bool, b_ = (rdOf false x7_1 (rd t166 x30_1)) := ⟨_, rfl⟩
            replace H : (if bq22 = true then (spec_l11Fair.l0 k1 l0 l1 t166 (x7_1.set ((rd t166 x30_1) : Int).toNat true) y175 t169 (t169.length : Int) (wrap64 (x30_1 + 1))) else (spec_l11Fair.l0 k1 l0 l1 t166 (x7_1.set ((rd t166 x30_1) : Int).toNat (decide (((rd_L1 t169 x30_1).length : Int) > 0))) y175 t169 (t169.length : Int) (wrap64 (x30_1 + 1)))) = some r := by rw [← hbq22] at H; exact H
            have Nbq22 := am_ hbq22
            clear hbq22
            by_cases c23 : bq22 = true
            ·subst c23
             rw [if_pos rfl] at H
             obtain ⟨y182, hy182⟩ : ∃ y_ : List Bool, y_ = (x7_1.set ((rd t166 x30_1) : Int).toNat true) := ⟨_, rfl⟩
             replace H : (spec_l11Fair.l0 k1 l0 l1 t166 y182 y175 t169 (t169.length : Int) (wrap64 (x30_1 + 1))) = some r := by first | (rw [hy182]; with_reducible exact H) | (have H2_ := (Option.bind_some _ _).symm.trans H; rw [hy182]; with_reducible exact H2_) | (have H2_ := (Option.bind_some _ _).symm.trans H; with_reducible exact H2_) | with_reducible exact H | (rw [hy182]; exact H) | exact H
             have Ny182 := am_ hy182
             clear hy182
             have H' := am_ H
             clear H
             have p178 : 0 ≤ (x30_1 : Int) := Sh.od
             have q178 : x30_1 < (t169.length : Int) := Sh.od
             obtain ⟨ad178, A178_0, c178_0, e178, hx178_0, hl178_0, hi178_0⟩ := at_L1 (Kd.S_reads' HO_28.out).2.2 x30_1 p178 q178
             cases e178
             obtain ⟨ce178, hce178, hMe178, hcc178⟩ := Kd.S_get HO_28.out [] x30_1 p178 (by first | exact q178 | exact of_decide_eq_true (by first | (with_reducible assumption) | assumption) | (have e_ := (Kd.S_reads' HO_28.out).1; omega))
             obtain ⟨ve178_0, rfl, ge178_0⟩ := hMe178
             have hv178_0 := hcc178 0 _ rfl
             rw [Nat.add_zero, show ((Kd.slice 3 (Kd.int .i64))).sz = 1 from rfl, Nat.mul_one] at hv178_0
             replace hv178_0 := Option.some.inj (hv178_0.symm.trans hx178_0)
             rw [hv178_0] at ge178_0
             have HL178_0 := am_ (show Kd.R (Kd.int .i64) 3 _ _ _ _ (rd_L1 t169 x30_1) from ge178_0)
             clear hv178_0 ge178_0
             clear hcc178 hce178
             have HR178_0 := am_ hi178_0
             have HC178_0 := am_ hl178_0
             clear hi178_0 hl178_0
             replace p178 := eq_true p178
             replace q178 := eq_true q178
             try go_wp2
             replace HO_5 := am_ (Kd.R_drew HO_5.out)
             replace HO_7 := am_ (Kd.R_drew HO_7.out)
             replace HO_8 := am_ (Kd.R_drew HO_8.out)
             replace HO_28 := am_ (Kd.S_drew HO_28.out)
             replace HL178_0 := am_ (Kd.R_drew HL178_0.out)
             replace HR178_0 := am_ (Kd.C_drew HR178_0.out)
             replace HB := am_ (below_drew1 HB.out)
             have p179 : 0 ≤ (x30_1 : Int) := Sh.od
             have q179 : x30_1 < (t166.length : Int) := Sh.od
             obtain ⟨ad179, e179, hx179_0⟩ := Kd.at_int (Kd.R_reads' HO_5.out).2.2 x30_1 p179 q179
             cases e179
             replace p179 := eq_true p179
             replace q179 := eq_true q179
             have p180 : 0 ≤ (x30_1 : Int) := Sh.od
             have q180 : x30_1 < (t166.length : Int) := Sh.od
             obtain ⟨ad180, e180, hx180_0⟩ := Kd.at_int (Kd.R_reads' HO_5.out).2.2 x30_1 p180 q180
             obtain rfl : ad179 = ad180 := (by injection e180)
             replace p180 := eq_true p180
             replace q180 := eq_true q180
             obtain ⟨Ao26, co26, eo26⟩ := Kd.R_slice HO_7.out
             (first | subst eo26 | (injection eo26 with f1_ f2_ f3_; have f4_ := f1_.symm; have f5_ := f3_.symm; clear f1_ f2_ f3_; subst f4_; subst f5_))
             have p181 : 0 ≤ ((rd t166 x30_1) : Int) := Sh.od
             have q181 : (rd t166 x30_1) < (x7_1.length : Int) := Sh.od
             obtain ⟨ad181, e181, hx181_0⟩ := Kd.at_bool (Kd.R_reads' HO_7.out).2.2 (rd t166 x30_1) p181 q181
             (try rw [← Nbq22.out] at hx181_0)
             cases e181
             replace p181 := eq_true p181
             replace q181 := eq_true q181
             have p24 : 0 ≤ ((rd t166 x30_1) : Int) := Sh.od
             have q24 : ((rd t166 x30_1) : Int) < ((x7_1.length : Int) : Int) := Sh.od
             obtain ⟨go24, co24, eo24, gb24, gl24, cl24, HG24⟩ := Kd.R_form HO_7.out (by omega)
             (first | cases eo24 | (injection eo24 with ea_ en_ ec_; (first | subst ea_ | (injection ea_ with ea_; subst ea_)); subst ec_; clear en_))
             have GB24 := am_ gb24
             have GG24 := am_ HG24
             clear gb24 gl24 HG24
             (first | simp only [add_plain] at hx181_0 | skip)
             obtain ⟨hx24_0, hf24_0⟩ := Kd.R_celln false HO_7.out ((rd t166 x30_1) : Int) p24 q24
             replace p24 := eq_true p24
             replace q24 := eq_true q24
             have HP27 := Kd.R_putn HO_7.out ((rd t166 x30_1) : Int) true
             rw [← Ny182.out] at HP27
             have HQ27 := am_ HP27
             clear HP27
             refine start_ (n := 19) (S := fun w' => w'.cell? (ad179.add (x30_1).toNat) = some (.int .i64 (rd t166 x30_1)) ∧ w'.cell? (ad179.add (x30_1).toNat) = some (.int .i64 (rd t166 x30_1)) ∧ w'.cell? ⟨go24, ((rd t166 x30_1)).toNat, none⟩ = some (.bool true)) (ds := [18]) (Sh.nm 19 0) (by kernel_rfl) rfl rfl ⟨hx179_0, hx180_0, hx181_0⟩ (fun hHeld => ?_); refine with_tabW spec_l11Fair.tab8 spec_l11Fair.bits8 (fun HT_ HW_ => ?_)
             generalize wr.drew = w25 at HO_5 HO_7 HO_8 HO_28 HL178_0 HR178_0 HB GG24 HQ27 hf24_0 hx179_0 hx180_0 hx181_0 hx24_0 hHeld ⊢
             refine Sh.qA 0 ?_; refine Sh.qA 1 ?_; refine Sh.qA 2 ?_; refine Sh.qA 3 ?_; refine Sh.qA 5 ?_; refine Sh.qA 6 ?_; refine Sh.qA 7 ?_; refine Sh.qA 8 ?_; refine Sh.qT 4 hHeld ?_; refine Sh.qT 9 hHeld ?_; refine Sh.qA 10 ?_; refine Sh.qT 11 hHeld ?_; refine Sh.qA 12 ?_; refine Sh.qU 13 ?_; refine Sh.qU 14 ?_; refine Sh.qU 15 ?_; refine Sh.qA 16 ?_; refine Sh.qA 17 ?_
             refine last_ (i := 18) (N := none) (Sh.nm 19 524287) rfl rfl (one_of HT_.out (by kernel_rfl)) (by decide) (fun K hK => ?_)
             refine skip_ (w1 := ?_) (by rfl) rfl ?_ ?_
             rotate_left
             ·go_simp
              rfl
             refine hK.out _ _ ?_
             clear hK K
             refine done_ (done_of HT_.out (by kernel_rfl)) ?_
             try go_wp2
             go_roundg k1
             case measure => have := HK1.out; omega
             case rel => exact ⟨(y182), (wrap64 (x30_1 + 1)), (Sh.es), H', ⟨by have := HK1.out; omega⟩, ⟨Sh.rl (Kd.R_mono (Kd.R_far (p := ⟨go24, ((rd t166 x30_1) : Int).toNat, none⟩) (Kd.R_types HO_5.out GG24.out (by decide)) (fun _ hk => hk.2) (.bool true)) (fun _ hk => hk.1))⟩, ⟨by (with_reducible repeat (first | apply Kd.R_alloc | apply Kd.R_drewN | apply Kd.R_drew)); exact HQ27.out⟩, ⟨Sh.rl (Kd.R_mono (Kd.R_far (p := ⟨go24, ((rd t166 x30_1) : Int).toNat, none⟩) (Kd.R_types HO_8.out GG24.out (by decide)) (fun _ hk => hk.2) (.bool true)) (fun _ hk => hk.1))⟩, ⟨by (with_reducible repeat (first | apply Kd.S_alloc | apply Kd.S_drewN | apply Kd.S_drew)); exact Kd.S_mono (Kd.S_far (p := ⟨go24, ((rd t166 x30_1) : Int).toNat, none⟩) (Kd.S_types HO_28.out GG24.out (by decide)) (fun _ hk => hk.2) (.bool true)) (fun _ h => ⟨h.1.1, h.1.2⟩)⟩, ⟨Sh.bw⟩⟩
            ·replace c23 := Bool.eq_false_iff.mpr c23
             subst c23
             rw [Sh.nf] at H
             obtain ⟨y183, hy183⟩ : ∃ y_ : List Bool, y_ = (x7_1.set ((rd t166 x30_1) : Int).toNat (decide (((rd_L1 t169 x30_1).length : Int) > 0))) := ⟨_, rfl⟩
             replace H : (spec_l11Fair.l0 k1 l0 l1 t166 y183 y175 t169 (t169.length : Int) (wrap64 (x30_1 + 1))) = some r := by first | (rw [hy183]; with_reducible exact H) | (have H2_ := (Option.bind_some _ _).symm.trans H; rw [hy183]; with_reducible exact H2_) | (have H2_ := (Option.bind_some _ _).symm.trans H; with_reducible exact H2_) | with_reducible exact H | (rw [hy183]; exact H) | exact H
             have Ny183 := am_ hy183
             clear hy183
             have H' := am_ H
             clear H
             have p178 : 0 ≤ (x30_1 : Int) := Sh.od
             have q178 : x30_1 < (t169.length : Int) := Sh.od
             obtain ⟨ad178, A178_0, c178_0, e178, hx178_0, hl178_0, hi178_0⟩ := at_L1 (Kd.S_reads' HO_28.out).2.2 x30_1 p178 q178
             cases e178
             obtain ⟨ce178, hce178, hMe178, hcc178⟩ := Kd.S_get HO_28.out [] x30_1 p178 (by first | exact q178 | exact of_decide_eq_true (by first | (with_reducible assumption) | assumption) | (have e_ := (Kd.S_reads' HO_28.out).1; omega))
             obtain ⟨ve178_0, rfl, ge178_0⟩ := hMe178
             have hv178_0 := hcc178 0 _ rfl
             rw [Nat.add_zero, show ((Kd.slice 3 (Kd.int .i64))).sz = 1 from rfl, Nat.mul_one] at hv178_0
             replace hv178_0 := Option.some.inj (hv178_0.symm.trans hx178_0)
             rw [hv178_0] at ge178_0
             have HL178_0 := am_ (show Kd.R (Kd.int .i64) 3 _ _ _ _ (rd_L1 t169 x30_1) from ge178_0)
             clear hv178_0 ge178_0
             clear hcc178 hce178
             have HR178_0 := am_ hi178_0
             have HC178_0 := am_ hl178_0
             clear hi178_0 hl178_0
             replace p178 := eq_true p178
             replace q178 := eq_true q178
             try go_wp2
             replace HO_5 := am_ (Kd.R_drew HO_5.out)
             replace HO_7 := am_ (Kd.R_drew HO_7.out)
             replace HO_8 := am_ (Kd.R_drew HO_8.out)
             replace HO_28 := am_ (Kd.S_drew HO_28.out)
             replace HL178_0 := am_ (Kd.R_drew HL178_0.out)
             replace HR178_0 := am_ (Kd.C_drew HR178_0.out)
             replace HB := am_ (below_drew1 HB.out)
             have p179 : 0 ≤ (x30_1 : Int) := Sh.od
             have q179 : x30_1 < (t166.length : Int) := Sh.od
             obtain ⟨ad179, e179, hx179_0⟩ := Kd.at_int (Kd.R_reads' HO_5.out).2.2 x30_1 p179 q179
             cases e179
             replace p179 := eq_true p179
             replace q179 := eq_true q179
             have p180 : 0 ≤ (x30_1 : Int) := Sh.od
             have q180 : x30_1 < (t166.length : Int) := Sh.od
             obtain ⟨ad180, e180, hx180_0⟩ := Kd.at_int (Kd.R_reads' HO_5.out).2.2 x30_1 p180 q180
             obtain rfl : ad179 = ad180 := (by injection e180)
             replace p180 := eq_true p180
             replace q180 := eq_true q180
             obtain ⟨Ao30, co30, eo30⟩ := Kd.R_slice HO_7.out
             (first | subst eo30 | (injection eo30 with f1_ f2_ f3_; have f4_ := f1_.symm; have f5_ := f3_.symm; clear f1_ f2_ f3_; subst f4_; subst f5_))
             have p181 : 0 ≤ ((rd t166 x30_1) : Int) := Sh.od
             have q181 : (rd t166 x30_1) < (x7_1.length : Int) := Sh.od
             obtain ⟨ad181, e181, hx181_0⟩ := Kd.at_bool (Kd.R_reads' HO_7.out).2.2 (rd t166 x30_1) p181 q181
             (try rw [← Nbq22.out] at hx181_0)
             cases e181
             replace p181 := eq_true p181
             replace q181 := eq_true q181
             have p28 : 0 ≤ ((rd t166 x30_1) : Int) := Sh.od
             have q28 : ((rd t166 x30_1) : Int) < ((x7_1.length : Int) : Int) := Sh.od
             obtain ⟨go28, co28, eo28, gb28, gl28, cl28, HG28⟩ := Kd.R_form HO_7.out (by omega)
             (first | cases eo28 | (injection eo28 with ea_ en_ ec_; (first | subst ea_ | (injection ea_ with ea_; subst ea_)); subst ec_; clear en_))
             have GB28 := am_ gb28
             have GG28 := am_ HG28
             clear gb28 gl28 HG28
             (first | simp only [add_plain] at hx181_0 | skip)
             obtain ⟨hx28_0, hf28_0⟩ := Kd.R_celln false HO_7.out ((rd t166 x30_1) : Int) p28 q28
             replace p28 := eq_true p28
             replace q28 := eq_true q28
             have HP31 := Kd.R_putn HO_7.out ((rd t166 x30_1) : Int) (decide (((rd_L1 t169 x30_1).length : Int) > 0))
             rw [← Ny183.out] at HP31
             rw [show decide (((rd_L1 t169 x30_1).length : Int) > 0) = decide (0 < (rd_L1 t169 x30_1).length) from by simp] at HP31
             have HQ31 := am_ HP31
             clear HP31
             refine start_ (n := 19) (S := fun w' => w'.cell? (ad179.add (x30_1).toNat) = some (.int .i64 (rd t166 x30_1)) ∧ w'.cell? (ad179.add (x30_1).toNat) = some (.int .i64 (rd t166 x30_1)) ∧ w'.cell? ⟨go28, ((rd t166 x30_1)).toNat, none⟩ = some (.bool false)) (ds := [18]) (Sh.nm 19 0) (by kernel_rfl) rfl rfl ⟨hx179_0, hx180_0, hx181_0⟩ (fun hHeld => ?_); refine with_tabW spec_l11Fair.tab8 spec_l11Fair.bits8 (fun HT_ HW_ => ?_)
             generalize wr.drew = w29 at HO_5 HO_7 HO_8 HO_28 HL178_0 HR178_0 HB GG28 HQ31 hf28_0 hx179_0 hx180_0 hx181_0 hx28_0 hHeld ⊢
             refine Sh.qA 0 ?_; refine Sh.qA 1 ?_; refine Sh.qA 2 ?_; refine Sh.qA 3 ?_; refine Sh.qA 5 ?_; refine Sh.qA 6 ?_; refine Sh.qA 7 ?_; refine Sh.qA 8 ?_; refine Sh.qT 4 hHeld ?_; refine Sh.qT 9 hHeld ?_; refine Sh.qA 10 ?_; refine Sh.qT 11 hHeld ?_; refine Sh.qA 12 ?_; refine Sh.qA 13 ?_; refine Sh.qA 14 ?_; refine Sh.qA 15 ?_; refine Sh.qA 16 ?_; refine Sh.qA 17 ?_
             refine last_ (i := 18) (N := none) (Sh.nm 19 524287) rfl rfl (one_of HT_.out (by kernel_rfl)) (by decide) (fun K hK => ?_)
             refine skip_ (w1 := ?_) (by rfl) rfl ?_ ?_
             rotate_left
             ·go_simp
              rfl
             refine hK.out _ _ ?_
             clear hK K
             refine done_ (done_of HT_.out (by kernel_rfl)) ?_
             try go_wp2
             go_roundg k1
             case measure => have := HK1.out; omega
             case rel => exact ⟨(y183), (wrap64 (x30_1 + 1)), (Sh.es), H', ⟨by have := HK1.out; omega⟩, ⟨Sh.rl (Kd.R_mono (Kd.R_far (p := ⟨go28, ((rd t166 x30_1) : Int).toNat, none⟩) (Kd.R_types HO_5.out GG28.out (by decide)) (fun _ hk => hk.2) (.bool (decide (0 < (rd_L1 t169 x30_1).length)))) (fun _ hk => hk.1))⟩, ⟨by (with_reducible repeat (first | apply Kd.R_alloc | apply Kd.R_drewN | apply Kd.R_drew)); exact HQ31.out⟩, ⟨Sh.rl (Kd.R_mono (Kd.R_far (p := ⟨go28, ((rd t166 x30_1) : Int).toNat, none⟩) (Kd.R_types HO_8.out GG28.out (by decide)) (fun _ hk => hk.2) (.bool (decide (0 < (rd_L1 t169 x30_1).length)))) (fun _ hk => hk.1))⟩, ⟨by (with_reducible repeat (first | apply Kd.S_alloc | apply Kd.S_drewN | apply Kd.S_drew)); exact Kd.S_mono (Kd.S_far (p := ⟨go28, ((rd t166 x30_1) : Int).toNat, none⟩) (Kd.S_types HO_28.out GG28.out (by decide)) (fun _ hk => hk.2) (.bool (decide (0 < (rd_L1 t169 x30_1).length)))) (fun _ h => ⟨h.1.1, h.1.2⟩)⟩, ⟨Sh.bw⟩⟩
           ·rw [if_neg c21] at H
            exact absurd H (by simp)
          ·rw [if_neg c20] at H
           exact absurd H (by simp)
         ·rw [if_neg c19] at H
          exact absurd H (by simp)
        ·rw [if_neg c18] at H
         exact absurd H (by simp)
       ·rw [if_neg c17] at H
        exact absurd H (by simp)
      ·rw [if_neg c16] at H
       have c16b0 := decide_eq_false c16
       clear c16
       have H' := am_ H
       clear H
       go_wp2
       go_loopg [56] k1 (fun kq v56 w' => ∃ (x8_2 : List Int) (x56_2 : Int), v56 = .int .i64 x56_2 ∧ Aside0 (spec_l11Fair.l1 kq l0 l1 t166 x7_1 x8_2 l1 (l1.length : Int) x56_2 = some r) ∧ Aside0 (kq ≤ k1) ∧ Aside0 (Kd.R (Kd.int .i64) 3 w' w.heap.size (fun k_ => some k_ ≠ (v176 : Value).ownBlock) (.slice Ao9 t166.length co9) t166) ∧ Aside0 (Kd.R Kd.bool 4 w' w.heap.size (fun _ => True) v173 x7_1) ∧ Aside0 (Kd.R (Kd.int .i64) 3 w' w.heap.size (fun k_ => some k_ ≠ ((.slice Ao9 t166.length co9) : Value).ownBlock) v176 x8_2) ∧ Aside0 (Below w.heap.size w w'))
       case atStart => exact ⟨(y175), (0), (Sh.es), H', ⟨Nat.le_refl _⟩, ⟨Sh.rl HO_5.out⟩, ⟨Sh.rl HO_7.out⟩, ⟨Sh.rl HO_8.out⟩, ⟨Sh.bw⟩⟩
       case round =>
        clear H'
        try clear hx1
        try clear hx2
        try clear hf2
        try clear hx17
        try clear hx18
        try clear hx24
        try clear hf24
        try clear hx28
        try clear hf28
        try clear hx178_0
        try clear hx179_0
        try clear hx180_0
        try clear hx181_0
        try clear hx24_0
        try clear hx28_0
        obtain ⟨x8_2, x56_2, rfl, HA, HK2, HO_5, HO_7, HO_8, HB⟩ := hrel
        cases gk with
        | zero => exact absurd HA.out (by simp [spec_l11Fair.l1])
        | succ k2 =>
         have H := HA.out
         clear HA
         simp only [spec_l11Fair.l1] at H
         by_cases c32 : x56_2 < (l1.length : Int)
         ·rw [if_pos c32] at H
          have c32b0 := decide_eq_true c32
          clear c32
          by_cases c33 : 0 ≤ x56_2
          ·rw [if_pos c33] at H
           have c33b0 := decide_eq_true c33
           clear c33
           by_cases c34 : x56_2 < (l1.length : Int)
           ·rw [if_pos c34] at H
            have c34b0 := decide_eq_true c34
            clear c34
            have H' := am_ H
            clear H
            have p184 : 0 ≤ (x56_2 : Int) := Sh.od
            have q184 : x56_2 < (l1.length : Int) := Sh.od
            obtain ⟨ad184, A184_0, c184_0, e184, hx184_0, hl184_0, hi184_0⟩ := at_L1 HR1.out x56_2 p184 q184
            cases e184
            try replace hx184_0 := Sh.cw hx184_0
            have HR184_0 := am_ hi184_0
            have HC184_0 := am_ hl184_0
            clear hi184_0 hl184_0
            replace p184 := eq_true p184
            replace q184 := eq_true q184
            go_wp2
            go_loopg [63] k2 (fun kq v63 w' => ∃ (x8_3 : List Int) (x63_3 : Int), v63 = .int .i64 x63_3 ∧ Aside0 (spec_l11Fair.l2 kq l0 l1 t166 x7_1 x8_3 x56_2 l1 (l1.length : Int) x56_2 (rd_L1 l1 x56_2) ((rd_L1 l1 x56_2).length : Int) x63_3 = some r) ∧ Aside0 (kq ≤ k2) ∧ Aside0 (Kd.R (Kd.int .i64) 3 w' w.heap.size (fun k_ => some k_ ≠ (v176 : Value).ownBlock) (.slice Ao9 t166.length co9) t166) ∧ Aside0 (Kd.R Kd.bool 4 w' w.heap.size (fun _ => True) v173 x7_1) ∧ Aside0 (Kd.R (Kd.int .i64) 3 w' w.heap.size (fun k_ => some k_ ≠ ((.slice Ao9 t166.length co9) : Value).ownBlock) v176 x8_3) ∧ Aside0 (Below w.heap.size w w'))
            case atStart => exact ⟨(x8_2), (0), (Sh.es), H', ⟨Nat.le_refl _⟩, ⟨Sh.rl HO_5.out⟩, ⟨Sh.rl HO_7.out⟩, ⟨Sh.rl HO_8.out⟩, ⟨Sh.bw⟩⟩
            case round =>
             clear H'
             try clear hx1
             try clear hx2
             try clear hf2
             try clear hx17
             try clear hx18
             try clear hx24
             try clear hf24
             try clear hx28
             try clear hf28
             try clear hx178_0
             try clear hx179_0
             try clear hx180_0
             try clear hx181_0
             try clear hx184_0
             try clear hx24_0
             try clear hx28_0
             obtain ⟨x8_3, x63_3, rfl, HA, HK3, HO_5, HO_7, HO_8, HB⟩ := hrel
             cases gk with
             | zero => exact absurd HA.out (by simp [spec_l11Fair.l2])
             | succ k3 =>
              have H := HA.out
              clear HA
              simp only [spec_l11Fair.l2] at H
              by_cases c35 : x63_3 < ((rd_L1 l1 x56_2).length : Int)
              ·rw [if_pos c35] at H
               have c35b0 := decide_eq_true c35
               clear c35
               by_cases c36 : 0 ≤ x63_3
               ·rw [if_pos c36] at H
                have c36b0 := decide_eq_true c36
                clear c36
                by_cases c37 : x63_3 < ((rd_L1 l1 x56_2).length : Int)
                ·rw [if_pos c37] at H
                 have c37b0 := decide_eq_true c37
                 clear c37
                 by_cases c38 : 0 ≤ (rd (rd_L1 l1 x56_2) x63_3)
                 ·rw [if_pos c38] at H
                  have c38b0 := decide_eq_true c38
                  clear c38
                  by_cases c39 : (rd (rd_L1 l1 x56_2) x63_3) < (t166.length : Int)
                  ·rw [if_pos c39] at H
                   have c39b0 := decide_eq_true c39
                   clear c39
                   by_cases c40 : 0 ≤ (rd t166 (rd (rd_L1 l1 x56_2) x63_3))
                   ·rw [if_pos c40] at H
                    have c40b0 := decide_eq_true c40
                    clear c40
                    by_cases c41 : (rd t166 (rd (rd_L1 l1 x56_2) x63_3)) < (x8_3.length : Int)
                    ·rw [if_pos c41] at H
                     have c41b0 := decide_eq_true c41
                     clear c41
                     by_cases c42 : (rd x8_3 (rd t166 (rd (rd_L1 l1 x56_2) x63_3))) = x56_2
                     ·rw [if_pos c42] at H
                      have c42b0 : ((rd x8_3 (rd t166 (rd (rd_L1 l1 x56_2) x63_3))) == x56_2) = true := beq_iff_eq.mpr c42
                      have c42b1 : ((rd x8_3 (rd t166 (rd (rd_L1 l1 x56_2) x63_3))) != x56_2) = false := bne_eq_false_iff_eq.mpr c42
                      clear c42
                      obtain ⟨y189, hy189⟩ : ∃ y_ : List Int, y_ = (x8_3.set ((rd t166 (rd (rd_L1 l1 x56_2) x63_3)) : Int).toNat (wrap64 (x56_2 + 1))) := ⟨_, rfl⟩
                      replace H : (spec_l11Fair.l2 k3 l0 l1 t166 x7_1 y189 x56_2 l1 (l1.length : Int) x56_2 (rd_L1 l1 x56_2) ((rd_L1 l1 x56_2).length : Int) (wrap64 (x63_3 + 1))) = some r := by first | (rw [hy189]; with_reducible exact H) | (have H2_ := (Option.bind_some _ _).symm.trans H; rw [hy189]; with_reducible exact H2_) | (have H2_ := (Option.bind_some _ _).symm.trans H; with_reducible exact H2_) | with_reducible exact H | (rw [hy189]; exact H) | exact H
                      have Ny189 := am_ hy189
                      clear hy189
                      have H' := am_ H
                      clear H
                      have p185 : 0 ≤ (x63_3 : Int) := Sh.od
                      have q185 : x63_3 < ((rd_L1 l1 x56_2).length : Int) := Sh.od
                      obtain ⟨ad185, e185, hx185_0⟩ := Kd.at_int HR184_0.out x63_3 p185 q185
                      cases e185
                      try replace hx185_0 := Sh.cw hx185_0
                      replace p185 := eq_true p185
                      replace q185 := eq_true q185
                      have p186 : 0 ≤ ((rd (rd_L1 l1 x56_2) x63_3) : Int) := Sh.od
                      have q186 : (rd (rd_L1 l1 x56_2) x63_3) < (t166.length : Int) := Sh.od
                      obtain ⟨ad186, e186, hx186_0⟩ := Kd.at_int (Kd.R_reads' HO_5.out).2.2 (rd (rd_L1 l1 x56_2) x63_3) p186 q186
                      cases e186
                      replace p186 := eq_true p186
                      replace q186 := eq_true q186
                      obtain ⟨Ao44, co44, eo44⟩ := Kd.R_slice HO_8.out
                      subst eo44
                      have p187 : 0 ≤ ((rd t166 (rd (rd_L1 l1 x56_2) x63_3)) : Int) := Sh.od
                      have q187 : (rd t166 (rd (rd_L1 l1 x56_2) x63_3)) < (x8_3.length : Int) := Sh.od
                      obtain ⟨ad187, e187, hx187_0⟩ := Kd.at_int (Kd.R_reads' HO_8.out).2.2 (rd t166 (rd (rd_L1 l1 x56_2) x63_3)) p187 q187
                      cases e187
                      replace p187 := eq_true p187
                      replace q187 := eq_true q187
                      have p188 : 0 ≤ ((rd (rd_L1 l1 x56_2) x63_3) : Int) := Sh.od
                      have q188 : (rd (rd_L1 l1 x56_2) x63_3) < (t166.length : Int) := Sh.od
                      obtain ⟨ad188, e188, hx188_0⟩ := Kd.at_int (Kd.R_reads' HO_5.out).2.2 (rd (rd_L1 l1 x56_2) x63_3) p188 q188
                      obtain rfl : ad186 = ad188 := (by injection e188)
                      replace p188 := eq_true p188
                      replace q188 := eq_true q188
                      have p43 : 0 ≤ ((rd t166 (rd (rd_L1 l1 x56_2) x63_3)) : Int) := Sh.od
                      have q43 : ((rd t166 (rd (rd_L1 l1 x56_2) x63_3)) : Int) < ((x8_3.length : Int) : Int) := Sh.od
                      obtain ⟨go43, co43, eo43, gb43, gl43, cl43, HG43⟩ := Kd.R_form HO_8.out (by omega)
                      (first | cases eo43 | (injection eo43 with ea_ en_ ec_; (first | subst ea_ | (injection ea_ with ea_; subst ea_)); subst ec_; clear en_))
                      have GB43 := am_ gb43
                      have GG43 := am_ HG43
                      clear gb43 gl43 HG43
                      (first | simp only [add_plain] at hx187_0 | skip)
                      obtain ⟨hx43_0, hf43_0⟩ := Kd.R_celln 0 HO_8.out ((rd t166 (rd (rd_L1 l1 x56_2) x63_3)) : Int) p43 q43
                      replace p43 := eq_true p43
                      replace q43 := eq_true q43
                      have HP45 := Kd.R_putg HO_8.out ((rd t166 (rd (rd_L1 l1 x56_2) x63_3)) : Int) (wrap64 (x56_2 + 1))
                      go_wp2_with (first | ((with_reducible refine gate_store (t := 3) (p := 83) rfl ?_); refine store_event (t := 3) (p := 83) (v := ?vo_w46) (w1 := (wr.setCell ⟨go43, ((rd t166 (rd (rd_L1 l1 x56_2) x63_3)) : Int).toNat, none⟩ (.int .i64 (wrap64 (x56_2 + 1))))) ?hg ?ho ?hn ?hr ?_; (case ho => rfl); (case hg => rfl); (case hn => rfl); (case hr => first | (go_simp; done) | (go_simp; rfl)); intro w46 hw; have hg : wr.grownBy w46 (some go43) := (by rw [hw]; exact HP45.2); have hp_ : Kd.R (Kd.int .i64) 3 w46 w.heap.size (fun k_ => some k_ ≠ (.slice (some ad186) t166.length co9 : Value).ownBlock) (.slice (some ⟨go43, 0, none⟩) x8_3.length co44) y189 := (by rw [hw, Ny189.out]; exact HP45.1); clear HP45; replace HO_5 := am_ (Kd.R_after (v := (.slice (some ⟨go43, 0, none⟩) x8_3.length co44)) (v1 := (.slice (some ⟨go43, 0, none⟩) x8_3.length co44)) (ok := (fun _ => True)) (Sh.rl (Kd.R_mono HO_5.out (fun _ hk => ⟨trivial, hk⟩))) hg (.inl rfl)); replace HO_7 := am_ (Kd.R_over' (v := (.slice (some ⟨go43, 0, none⟩) x8_3.length co44)) (Sh.rl HO_7.out) (Kd.R_typed HO_8.out) (by decide) hg); replace HO_8 := am_ hp_; replace HB := am_ ((by rw [hw]; exact below_set (HB.out) GB43.out : Below w.heap.size w w46)); clear hg hw hp_))
                      go_roundg k3
                      case measure => have := HK1.out; have := HK2.out; have := HK3.out; omega
                      case rel => exact ⟨(y189), (wrap64 (x63_3 + 1)), (Sh.es), H', ⟨by have := HK1.out; have := HK2.out; have := HK3.out; omega⟩, ⟨Sh.rl (Kd.R_mono HO_5.out (fun _ hk => hk.2))⟩, ⟨Sh.rl HO_7.out⟩, ⟨Sh.rl HO_8.out⟩, ⟨Sh.bw⟩⟩
                     ·rw [if_neg c42] at H
                      have c42b0 : ((rd x8_3 (rd t166 (rd (rd_L1 l1 x56_2) x63_3))) == x56_2) = false := beq_eq_false_iff_ne.mpr c42
                      have c42b1 : ((rd x8_3 (rd t166 (rd (rd_L1 l1 x56_2) x63_3))) != x56_2) = true := bne_iff_ne.mpr c42
                      have H' := am_ H
                      clear H
                      have p185 : 0 ≤ (x63_3 : Int) := Sh.od
                      have q185 : x63_3 < ((rd_L1 l1 x56_2).length : Int) := Sh.od
                      obtain ⟨ad185, e185, hx185_0⟩ := Kd.at_int HR184_0.out x63_3 p185 q185
                      cases e185
                      try replace hx185_0 := Sh.cw hx185_0
                      replace p185 := eq_true p185
                      replace q185 := eq_true q185
                      have p186 : 0 ≤ ((rd (rd_L1 l1 x56_2) x63_3) : Int) := Sh.od
                      have q186 : (rd (rd_L1 l1 x56_2) x63_3) < (t166.length : Int) := Sh.od
                      obtain ⟨ad186, e186, hx186_0⟩ := Kd.at_int (Kd.R_reads' HO_5.out).2.2 (rd (rd_L1 l1 x56_2) x63_3) p186 q186
                      cases e186
                      replace p186 := eq_true p186
                      replace q186 := eq_true q186
                      obtain ⟨Ao47, co47, eo47⟩ := Kd.R_slice HO_8.out
                      subst eo47
                      have p187 : 0 ≤ ((rd t166 (rd (rd_L1 l1 x56_2) x63_3)) : Int) := Sh.od
                      have q187 : (rd t166 (rd (rd_L1 l1 x56_2) x63_3)) < (x8_3.length : Int) := Sh.od
                      obtain ⟨ad187, e187, hx187_0⟩ := Kd.at_int (Kd.R_reads' HO_8.out).2.2 (rd t166 (rd (rd_L1 l1 x56_2) x63_3)) p187 q187
                      cases e187
                      replace p187 := eq_true p187
                      replace q187 := eq_true q187
                      go_wp2
                      go_roundg k3
                      case measure => have := HK1.out; have := HK2.out; have := HK3.out; omega
                      case rel => exact ⟨(x8_3), (wrap64 (x63_3 + 1)), (Sh.es), H', ⟨by have := HK1.out; have := HK2.out; have := HK3.out; omega⟩, ⟨Sh.rl HO_5.out⟩, ⟨Sh.rl HO_7.out⟩, ⟨Sh.rl HO_8.out⟩, ⟨Sh.bw⟩⟩
                    ·rw [if_neg c41] at H
                     exact absurd H (by simp)
                   ·rw [if_neg c40] at H
                    exact absurd H (by simp)
                  ·rw [if_neg c39] at H
                   exact absurd H (by simp)
                 ·rw [if_neg c38] at H
                  exact absurd H (by simp)
                ·rw [if_neg c37] at H
                 exact absurd H (by simp)
               ·rw [if_neg c36] at H
                exact absurd H (by simp)
              ·rw [if_neg c35] at H
               have c35b0 := decide_eq_false c35
               clear c35
               have H' := am_ H
               clear H
               go_wp2
               go_roundg k3
               case measure => have := HK1.out; have := HK2.out; have := HK3.out; omega
               case rel => exact ⟨(x8_3), (wrap64 (x56_2 + 1)), (Sh.es), H', ⟨by have := HK1.out; have := HK2.out; have := HK3.out; omega⟩, ⟨Sh.rl HO_5.out⟩, ⟨Sh.rl HO_7.out⟩, ⟨Sh.rl HO_8.out⟩, ⟨Sh.bw⟩⟩
           ·rw [if_neg c34] at H
            exact absurd H (by simp)
          ·rw [if_neg c33] at H
           exact absurd H (by simp)
         ·rw [if_neg c32] at H
          have c32b0 := decide_eq_false c32
          clear c32
          have H' := am_ H
          clear H
          go_wp2
          go_loopg [15, 88] k2 (fun kq v15 v88 w' => ∃ (x15_3 : List Int) (x88_3 : Int), v88 = .int .i64 x88_3 ∧ Aside0 (spec_l11Fair.l3 kq l1 t166 x7_1 x8_2 x15_3 (l0.length : Int) x88_3 = some r) ∧ Aside0 (kq ≤ k2) ∧ Aside0 (Kd.R (Kd.int .i64) 3 w' w.heap.size (fun k_ => some k_ ≠ (v176 : Value).ownBlock ∧ some k_ ≠ (v15 : Value).ownBlock) (.slice Ao9 t166.length co9) t166) ∧ Aside0 (Kd.R Kd.bool 4 w' w.heap.size (fun _ => True) v173 x7_1) ∧ Aside0 (Kd.R (Kd.int .i64) 3 w' w.heap.size (fun k_ => some k_ ≠ ((.slice Ao9 t166.length co9) : Value).ownBlock ∧ some k_ ≠ (v15 : Value).ownBlock) v176 x8_2) ∧ Aside0 (Kd.R (Kd.int .i64) 3 w' w.heap.size (fun k_ => some k_ ≠ ((.slice Ao9 t166.length co9) : Value).ownBlock ∧ some k_ ≠ (v176 : Value).ownBlock) v15 x15_3) ∧ Aside0 (Below w.heap.size w w'))
          case atStart => exact ⟨(([] : List Int)), (0), (Sh.es), H', ⟨Nat.le_refl _⟩, ⟨Sh.rl (Kd.R_mono HO_5.out (fun _ hk => ⟨hk, (by simp [Value.ownBlock])⟩))⟩, ⟨Sh.rl HO_7.out⟩, ⟨Sh.rl (Kd.R_mono HO_8.out (fun _ hk => ⟨hk, (by simp [Value.ownBlock])⟩))⟩, ⟨by first | exact Kd.R_nil _ _ _ _ _ | exact Kd.N_nil _ _ _ _ _ | exact Kd.V_nil _ _ _ _ _ | exact Kd.Q_nil _ _ _ _ _ | exact Kd.S_nil _ _ _ _ _⟩, ⟨Sh.bw⟩⟩
          case round =>
           clear H'
           try clear hx1
           try clear hx2
           try clear hf2
           try clear hx4
           try clear hf4
           try clear hx17
           try clear hx18
           try clear hx24
           try clear hf24
           try clear hx28
           try clear hf28
           try clear hx43
           try clear hf43
           try clear hx178_0
           try clear hx179_0
           try clear hx180_0
           try clear hx181_0
           try clear hx184_0
           try clear hx185_0
           try clear hx186_0
           try clear hx187_0
           try clear hx188_0
           try clear hx24_0
           try clear hx28_0
           try clear hx43_0
           obtain ⟨x15_3, x88_3, rfl, HA, HK3, HO_5, HO_7, HO_8, HO_15, HB⟩ := hrel
           cases gk with
           | zero => exact absurd HA.out (by simp [spec_l11Fair.l3])
           | succ k3 =>
            have H := HA.out
            clear HA
            simp only [spec_l11Fair.l3] at H
            by_cases c48 : x88_3 < (l0.length : Int)
            ·rw [if_pos c48] at H
             have c48b0 := decide_eq_true c48
             clear c48
             by_cases c49 : 0 ≤ x88_3
             ·rw [if_pos c49] at H
              have c49b0 := decide_eq_true c49
              clear c49
              by_cases c50 : x88_3 < (t166.length : Int)
              ·rw [if_pos c50] at H
               have c50b0 := decide_eq_true c50
               clear c50
               by_cases c51 : 0 ≤ (rd t166 x88_3)
               ·rw [if_pos c51] at H
                have c51b0 := decide_eq_true c51
                clear c51
                by_cases c52 : (rd t166 x88_3) < (x7_1.length : Int)
                ·rw [if_pos c52] at H
                 have c52b0 := decide_eq_true c52
                 clear c52
                 obtain ⟨bq53, hbq53⟩ : ∃ b_ : Bool, b_ = (rdOf false x7_1 (rd t166 x88_3)) := ⟨_, rfl⟩
                 replace H : (if bq53 = true then (if (rd t166 x88_3) < (x8_2.length : Int) then (if (rd x8_2 (rd t166 x88_3)) = (l1.length : Int) then (if x15_3.length < 17592186044416 then (spec_l11Fair.l3 k3 l1 t166 x7_1 x8_2 (x15_3 ++ [x88_3]) (l0.length : Int) (wrap64 (x88_3 + 1))) else (none)) else (spec_l11Fair.l3 k3 l1 t166 x7_1 x8_2 x15_3 (l0.length : Int) (wrap64 (x88_3 + 1)))) else (none)) else (spec_l11Fair.l3 k3 l1 t166 x7_1 x8_2 x15_3 (l0.length : Int) (wrap64 (x88_3 + 1)))) = some r := by rw [← hbq53] at H; exact H
                 have Nbq53 := am_ hbq53
                 clear hbq53
                 by_cases c54 : bq53 = true
                 ·subst c54
                  rw [if_pos rfl] at H
                  by_cases c55 : (rd t166 x88_3) < (x8_2.length : Int)
                  ·rw [if_pos c55] at H
                   have c55b0 := decide_eq_true c55
                   clear c55
                   by_cases c56 : (rd x8_2 (rd t166 x88_3)) = (l1.length : Int)
                   ·rw [if_pos c56] at H
                    have c56b0 : ((rd x8_2 (rd t166 x88_3)) == (l1.length : Int)) = true := beq_iff_eq.mpr c56
                    have c56b1 : ((rd x8_2 (rd t166 x88_3)) != (l1.length : Int)) = false := bne_eq_false_iff_eq.mpr c56
                    clear c56
                    by_cases c57 : x15_3.length < 17592186044416
                    ·rw [if_pos c57] at H
                     have LMc57 := am_ c57
                     clear c57
                     obtain ⟨y194, hy194⟩ : ∃ y_ : List Int, y_ = (x15_3 ++ [x88_3]) := ⟨_, rfl⟩
                     replace H : (spec_l11Fair.l3 k3 l1 t166 x7_1 x8_2 y194 (l0.length : Int) (wrap64 (x88_3 + 1))) = some r := by first | (rw [hy194]; with_reducible exact H) | (have H2_ := (Option.bind_some _ _).symm.trans H; rw [hy194]; with_reducible exact H2_) | (have H2_ := (Option.bind_some _ _).symm.trans H; with_reducible exact H2_) | with_reducible exact H | (rw [hy194]; exact H) | exact H
                     have Ny194 := am_ hy194
                     clear hy194
                     have H' := am_ H
                     clear H
                     have p190 : 0 ≤ (x88_3 : Int) := Sh.od
                     have q190 : x88_3 < (t166.length : Int) := Sh.od
                     obtain ⟨ad190, e190, hx190_0⟩ := Kd.at_int (Kd.R_reads' HO_5.out).2.2 x88_3 p190 q190
                     cases e190
                     replace p190 := eq_true p190
                     replace q190 := eq_true q190
                     obtain ⟨Ao58, co58, eo58⟩ := Kd.R_slice HO_7.out
                     subst eo58
                     have p191 : 0 ≤ ((rd t166 x88_3) : Int) := Sh.od
                     have q191 : (rd t166 x88_3) < (x7_1.length : Int) := Sh.od
                     obtain ⟨ad191, e191, hx191_0⟩ := Kd.at_bool (Kd.R_reads' HO_7.out).2.2 (rd t166 x88_3) p191 q191
                     (try rw [← Nbq53.out] at hx191_0)
                     cases e191
                     replace p191 := eq_true p191
                     replace q191 := eq_true q191
                     have p192 : 0 ≤ (x88_3 : Int) := Sh.od
                     have q192 : x88_3 < (t166.length : Int) := Sh.od
                     obtain ⟨ad192, e192, hx192_0⟩ := Kd.at_int (Kd.R_reads' HO_5.out).2.2 x88_3 p192 q192
                     obtain rfl : ad190 = ad192 := (by injection e192)
                     replace p192 := eq_true p192
                     replace q192 := eq_true q192
                     obtain ⟨Ao59, co59, eo59⟩ := Kd.R_slice HO_8.out
                     subst eo59
                     have p193 : 0 ≤ ((rd t166 x88_3) : Int) := Sh.od
                     have q193 : (rd t166 x88_3) < (x8_2.length : Int) := Sh.od
                     obtain ⟨ad193, e193, hx193_0⟩ := Kd.at_int (Kd.R_reads' HO_8.out).2.2 (rd t166 x88_3) p193 q193
                     cases e193
                     replace p193 := eq_true p193
                     replace q193 := eq_true q193
                     go_wp2_with (first | ((with_reducible refine gate_builtin (b := .append) (xs := #[.tmp 110, .tmp 112]) rfl ?_); (try (refine gate_guard (by rfl) ?_; dsimp only)); at_builtin; refine Kd.R_append (Kd.int .i64) (w0 := w) w.heap.size rfl (.tmp 110) (.tmp 112) 26 3 (.int .i64 0) 8 rfl Try.underlying26 info3 rfl (by decide) (by omega) u15 x15_3 x88_3 [.int .i64 x88_3] (fun k_ => some k_ ≠ (.slice (some ad190) t166.length co9 : Value).ownBlock ∧ some k_ ≠ (.slice (some ad193) x8_2.length co59 : Value).ownBlock) (fun _ => False) rfl rfl ?aP (fun _ hk => hk.elim) ?aF ?aO ?aB ?aS ?aL ?_; (case aP => exact rfl); (case aB => exact Sh.bw); (case aF => exact (fun k_ hk => ⟨Kd.fresh' (Kd.R_lt (Sh.rl HO_5.out)) k_ hk, Kd.fresh' (Kd.R_lt (Sh.rl HO_8.out)) k_ hk⟩)); (case aO => exact (Sh.rl HO_15.out)); (case aS => exact (below_size Sh.bw)); (case aL => have := LMc57.out; omega); intro v195 w60 ho hb hg hat; rw [← Ny194.out] at ho; have n0_ := am_ (Kd.R_after (ok := (fun k_ => some k_ ≠ (.slice (some ad193) x8_2.length co59 : Value).ownBlock)) (Sh.rl HO_5.out) hg hat); have n1_ := am_ (Kd.R_over' (Sh.rl HO_7.out) (Kd.R_typed (Sh.rl HO_15.out)) (by decide) hg); have n2_ := am_ (Kd.R_after (ok := (fun k_ => some k_ ≠ (.slice (some ad190) t166.length co9 : Value).ownBlock)) (Sh.rl HO_8.out) hg hat); have n3_ := am_ hb; have n4_ := am_ ho; clear HO_5; clear HO_7; clear HO_8; clear HB; clear HO_15; have HO_5 := n0_; have HO_7 := n1_; have HO_8 := n2_; have HB := n3_; have HO196 := n4_; clear n0_ n1_ n2_ n3_ n4_; clear ho hb hg hat))
                     go_roundg k3
                     case measure => have := HK1.out; have := HK2.out; have := HK3.out; omega
                     case rel => exact ⟨(y194), (wrap64 (x88_3 + 1)), (Sh.es), H', ⟨by have := HK1.out; have := HK2.out; have := HK3.out; omega⟩, ⟨Sh.rl HO_5.out⟩, ⟨Sh.rl HO_7.out⟩, ⟨Sh.rl HO_8.out⟩, ⟨Sh.rl HO196.out⟩, ⟨Sh.bw⟩⟩
                    ·rw [if_neg c57] at H
                     exact absurd H (by simp)
                   ·rw [if_neg c56] at H
                    have c56b0 : ((rd x8_2 (rd t166 x88_3)) == (l1.length : Int)) = false := beq_eq_false_iff_ne.mpr c56
                    have c56b1 : ((rd x8_2 (rd t166 x88_3)) != (l1.length : Int)) = true := bne_iff_ne.mpr c56
                    have H' := am_ H
                    clear H
                    have p190 : 0 ≤ (x88_3 : Int) := Sh.od
                    have q190 : x88_3 < (t166.length : Int) := Sh.od
                    obtain ⟨ad190, e190, hx190_0⟩ := Kd.at_int (Kd.R_reads' HO_5.out).2.2 x88_3 p190 q190
                    cases e190
                    replace p190 := eq_true p190
                    replace q190 := eq_true q190
                    obtain ⟨Ao61, co61, eo61⟩ := Kd.R_slice HO_7.out
                    subst eo61
                    have p191 : 0 ≤ ((rd t166 x88_3) : Int) := Sh.od
                    have q191 : (rd t166 x88_3) < (x7_1.length : Int) := Sh.od
                    obtain ⟨ad191, e191, hx191_0⟩ := Kd.at_bool (Kd.R_reads' HO_7.out).2.2 (rd t166 x88_3) p191 q191
                    (try rw [← Nbq53.out] at hx191_0)
                    cases e191
                    replace p191 := eq_true p191
                    replace q191 := eq_true q191
                    have p192 : 0 ≤ (x88_3 : Int) := Sh.od
                    have q192 : x88_3 < (t166.length : Int) := Sh.od
                    obtain ⟨ad192, e192, hx192_0⟩ := Kd.at_int (Kd.R_reads' HO_5.out).2.2 x88_3 p192 q192
                    obtain rfl : ad190 = ad192 := (by injection e192)
                    replace p192 := eq_true p192
                    replace q192 := eq_true q192
                    obtain ⟨Ao62, co62, eo62⟩ := Kd.R_slice HO_8.out
                    subst eo62
                    have p193 : 0 ≤ ((rd t166 x88_3) : Int) := Sh.od
                    have q193 : (rd t166 x88_3) < (x8_2.length : Int) := Sh.od
                    obtain ⟨ad193, e193, hx193_0⟩ := Kd.at_int (Kd.R_reads' HO_8.out).2.2 (rd t166 x88_3) p193 q193
                    cases e193
                    replace p193 := eq_true p193
                    replace q193 := eq_true q193
                    go_wp2
                    go_roundg k3
                    case measure => have := HK1.out; have := HK2.out; have := HK3.out; omega
                    case rel => exact ⟨(x15_3), (wrap64 (x88_3 + 1)), (Sh.es), H', ⟨by have := HK1.out; have := HK2.out; have := HK3.out; omega⟩, ⟨Sh.rl HO_5.out⟩, ⟨Sh.rl HO_7.out⟩, ⟨Sh.rl HO_8.out⟩, ⟨Sh.rl HO_15.out⟩, ⟨Sh.bw⟩⟩
                  ·rw [if_neg c55] at H
                   exact absurd H (by simp)
                 ·replace c54 := Bool.eq_false_iff.mpr c54
                  subst c54
                  rw [Sh.nf] at H
                  have H' := am_ H
                  clear H
                  have p190 : 0 ≤ (x88_3 : Int) := Sh.od
                  have q190 : x88_3 < (t166.length : Int) := Sh.od
                  obtain ⟨ad190, e190, hx190_0⟩ := Kd.at_int (Kd.R_reads' HO_5.out).2.2 x88_3 p190 q190
                  cases e190
                  replace p190 := eq_true p190
                  replace q190 := eq_true q190
                  obtain ⟨Ao63, co63, eo63⟩ := Kd.R_slice HO_7.out
                  subst eo63
                  have p191 : 0 ≤ ((rd t166 x88_3) : Int) := Sh.od
                  have q191 : (rd t166 x88_3) < (x7_1.length : Int) := Sh.od
                  obtain ⟨ad191, e191, hx191_0⟩ := Kd.at_bool (Kd.R_reads' HO_7.out).2.2 (rd t166 x88_3) p191 q191
                  (try rw [← Nbq53.out] at hx191_0)
                  cases e191
                  replace p191 := eq_true p191
                  replace q191 := eq_true q191
                  go_wp2
                  go_roundg k3
                  case measure => have := HK1.out; have := HK2.out; have := HK3.out; omega
                  case rel => exact ⟨(x15_3), (wrap64 (x88_3 + 1)), (Sh.es), H', ⟨by have := HK1.out; have := HK2.out; have := HK3.out; omega⟩, ⟨Sh.rl HO_5.out⟩, ⟨Sh.rl HO_7.out⟩, ⟨Sh.rl HO_8.out⟩, ⟨Sh.rl HO_15.out⟩, ⟨Sh.bw⟩⟩
                ·rw [if_neg c52] at H
                 exact absurd H (by simp)
               ·rw [if_neg c51] at H
                exact absurd H (by simp)
              ·rw [if_neg c50] at H
               exact absurd H (by simp)
             ·rw [if_neg c49] at H
              exact absurd H (by simp)
            ·rw [if_neg c48] at H
             have c48b0 := decide_eq_false c48
             clear c48
             obtain rfl := Option.some.inj H
             go_wp2
             go_ret
             exact ⟨_, Sh.eR, Sh.rl (Kd.R_mono HO_15.out (fun _ hk => trivial)), Sh.bw⟩
   ·rw [if_neg c7] at H
    exact absurd H (by simp)
  ·rw [if_neg c6] at H
   exact absurd H (by simp)
 ·rw [if_neg c5] at H
  exact absurd H (by simp)
def spec_l1Own.f (l0 : List Int) : Option (List Int) := (some (([] : List Int) : List Int)).bind fun y197 => (if y197.length + l0.length < 17592186044416 then (some (y197 ++ l0)) else (none))
theorem spec_l1Own.calls (A0 : Option Addr) (c0 : Nat) (l0 : List Int) (r : List Int) (w : World) (hr0 : Kd.C (Kd.int .i64) w A0 l0.length l0) (hc0 : l0.length ≤ c0) (h : spec_l1Own.f l0 = some r) :
  Calls Try.prog 70 #[.slice A0 l0.length c0] w fun e w' => ∃ v0_ : Value, e = .returned (v0_) ∧ Kd.R (Kd.int .i64) 3 w' w.heap.size (fun _ => True) v0_ r ∧ Below w.heap.size w w' := by
 have HR0 := am_ hr0
 have HC0 := am_ hc0
 clear hr0 hc0
 have HB := am_ (Below.refl w.heap.size w)
 have H := h
 clear h
 unfold spec_l1Own.f at H
 obtain ⟨y197, hy197⟩ : ∃ y_ : List Int, y_ = (([] : List Int)) := ⟨_, rfl⟩
 replace H : (if y197.length + l0.length < 17592186044416 then (some (y197 ++ l0)) else (none)) = some r := by first | (rw [hy197]; with_reducible exact H) | (have H2_ := (Option.bind_some _ _).symm.trans H; rw [hy197]; with_reducible exact H2_) | (have H2_ := (Option.bind_some _ _).symm.trans H; with_reducible exact H2_) | with_reducible exact H | (rw [hy197]; exact H) | exact H
 have Ny197 := am_ hy197
 clear hy197
 by_cases c2 : y197.length + l0.length < 17592186044416
 ·rw [if_pos c2] at H
  have LMc2 := am_ c2
  clear c2
  obtain ⟨y200, hy200⟩ : ∃ y_ : List Int, y_ = (y197 ++ l0) := ⟨_, rfl⟩
  replace H : (some y200) = some r := by first | (rw [hy200]; with_reducible exact H) | (have H2_ := (Option.bind_some _ _).symm.trans H; rw [hy200]; with_reducible exact H2_) | (have H2_ := (Option.bind_some _ _).symm.trans H; with_reducible exact H2_) | with_reducible exact H | (rw [hy200]; exact H) | exact H
  have Ny200 := am_ hy200
  clear hy200
  obtain rfl := Option.some.inj H
  go_enter Try.func70, Try.ntmps70
  go_wp2_with (first | ((with_reducible refine Sh.d 3 ?_); refine Kd.R_lit (Kd.int .i64) _ 3 ?hg (N := 3) ?hd (xs := ([] : List Int)) (inner := []) (ok := fun _ => True) (okp := fun _ => True) ?hr ?hp (fun _ hk => hk) trivial (Below.refl _ _) (Nat.le_refl _) (by simp) ?_; (case hd => rfl); (case hg => rfl); (case hr => first | (go_simp; done) | (go_simp; rfl)); (case hp => exact (Reps.none _ _)); intro v198 w3 ho4 hb hg_ hnew_; clear hg_ hnew_; (first | rw [← Ny197.out] at ho4 | (simp only [Int.reduceToNat] at ho4; rw [← Ny197.out] at ho4)); have HO199 := am_ (Kd.R_lower ho4 (below_size Sh.bw)); replace HB := Sh.hb hb; clear hb ho4) | ((with_reducible refine gate_builtin (b := .append) (xs := #[.tmp 3, .tmp 4]) rfl ?_); at_builtin; refine Kd.R_append_rows (Kd.int .i64) (w0 := w) w.heap.size rfl (.tmp 3) (.tmp 4) 26 3 (.int .i64 0) 8 rfl Try.underlying26 info3 rfl (by decide) (by omega) v198 y197 l0 _ _ _ (fun _ => True) (fun _ => False) rfl rfl ?aO ?aR (fun _ _ h => h) (fun _ h => h.elim) ?aF ?aB ?aS ?aL ?_; (case aR => repeat (first | exact (Kd.C_below HR0.out HB.out) | (with_reducible first | refine Kd.C_alloc ?_ _ | refine Kd.C_drewN ?_ _ | refine Kd.C_drew ?_))); (case aB => exact Sh.bw); (case aF => exact (fun _ _ => trivial)); (case aO => exact (Sh.rl HO199.out)); (case aS => exact (below_size Sh.bw)); (case aL => have := LMc2.out; omega); intro v201 w5 ho hb hg hat; rw [← Ny200.out] at ho; have n0_ := am_ hb; have n1_ := am_ ho; clear HB; clear HO199; have HB := n0_; have HO202 := n1_; clear n0_ n1_; clear ho hb hg hat))
  go_ret
  exact ⟨_, Sh.eR, Sh.rl HO202.out, Sh.bw⟩
 ·rw [if_neg c2] at H
  exact absurd H (by simp)
mutual
def spec_l11Far.l0 : Nat → List (List Int) → List Int → List Int → Int → Int → Option (List Int)
 | 0, _, _, _, _, _ => none
 | k + 1, x0, x1, x5, x17, x18 => if x18 < x17 then (if 0 ≤ x18 then (if x18 < (x5.length : Int) then (spec_l11Far.l0 k x0 x1 (x5.set (x18 : Int).toNat (-1)) x17 (wrap64 (x18 + 1))) else (none)) else (none)) else (spec_l11Far.l1 k x0 x1 x5 x1 (x1.length : Int) 0)
def spec_l11Far.l1 : Nat → List (List Int) → List Int → List Int → List Int → Int → Int → Option (List Int)
 | 0, _, _, _, _, _, _ => none
 | k + 1, x0, x1, x5, x25, x26, x27 => if x27 < x26 then (if 0 ≤ x27 then (if x27 < (x25.length : Int) then (if 0 ≤ (rd x25 x27) then (if (rd x25 x27) < (x5.length : Int) then (spec_l11Far.l1 k x0 x1 (x5.set ((rd x25 x27) : Int).toNat 0) x25 x26 (wrap64 (x27 + 1))) else (none)) else (none)) else (none)) else (none)) else ((spec_l1Own.f x1).bind fun t209 => (spec_l11Far.l2 k x0 x5 t209))
def spec_l11Far.l2 : Nat → List (List Int) → List Int → List Int → Option (List Int)
 | 0, _, _, _ => none
 | k + 1, x0, x5, x9 => if (x9.length : Int) > 0 then (if 0 < (x9.length : Int) then (if 1 ≤ (x9.length : Int) then (if 0 ≤ (rd x9 0) then (if (rd x9 0) < (x0.length : Int) then (spec_l11Far.l3 k x0 x5 (x9.drop (1 : Int).toNat) (rd x9 0) (rd_L1 x0 (rd x9 0)) ((rd_L1 x0 (rd x9 0)).length : Int) 0) else (none)) else (none)) else (none)) else (none)) else (some x5)
def spec_l11Far.l3 : Nat → List (List Int) → List Int → List Int → Int → List Int → Int → Int → Option (List Int)
 | 0, _, _, _, _, _, _, _ => none
 | k + 1, x0, x5, x9, x10, x48, x49, x50 => if x50 < x49 then (if 0 ≤ x50 then (if x50 < (x48.length : Int) then (if 0 ≤ (rd x48 x50) then (if (rd x48 x50) < (x5.length : Int) then (if (rd x5 (rd x48 x50)) < 0 then (if 0 ≤ x10 then (if x10 < (x5.length : Int) then (if x9.length < 17592186044416 then (spec_l11Far.l3 k x0 (x5.set ((rd x48 x50) : Int).toNat (wrap64 ((rd x5 x10) + 1))) (x9 ++ [rd x48 x50]) x10 x48 x49 (wrap64 (x50 + 1))) else (none)) else (none)) else (none)) else (spec_l11Far.l3 k x0 x5 x9 x10 x48 x49 (wrap64 (x50 + 1)))) else (none)) else (none)) else (none)) else (none)) else (spec_l11Far.l2 k x0 x5 x9)
end
def spec_l11Far.f (k : Nat) (l0 : List (List Int)) (l1 : List Int) : Option (List Int) := if 0 ≤ (l0.length : Int) then (if ((l0.length : Int) : Int).toNat ≤ 35184372088832 then ((some (List.replicate ((l0.length : Int) : Int).toNat 0 : List Int)).bind fun y203 => (spec_l11Far.l0 k l0 l1 y203 (y203.length : Int) 0)) else (none)) else (none)
theorem spec_l11Far.mono_l : ∀ k, (∀ y0 y1 y2 y3 y4, LeO (spec_l11Far.l0 k y0 y1 y2 y3 y4) (spec_l11Far.l0 (k + 1) y0 y1 y2 y3 y4)) ∧ (∀ y0 y1 y2 y3 y4 y5, LeO (spec_l11Far.l1 k y0 y1 y2 y3 y4 y5) (spec_l11Far.l1 (k + 1) y0 y1 y2 y3 y4 y5)) ∧ (∀ y0 y1 y2, LeO (spec_l11Far.l2 k y0 y1 y2) (spec_l11Far.l2 (k + 1) y0 y1 y2)) ∧ (∀ y0 y1 y2 y3 y4 y5 y6, LeO (spec_l11Far.l3 k y0 y1 y2 y3 y4 y5 y6) (spec_l11Far.l3 (k + 1) y0 y1 y2 y3 y4 y5 y6))
 | 0 => ⟨fun _ _ _ _ _ r h => by simp [spec_l11Far.l0] at h, fun _ _ _ _ _ _ r h => by simp [spec_l11Far.l1] at h, fun _ _ _ r h => by simp [spec_l11Far.l2] at h, fun _ _ _ _ _ _ _ r h => by simp [spec_l11Far.l3] at h⟩
 | k + 1 => by
  obtain ⟨ih0, ih1, ih2, ih3⟩ := spec_l11Far.mono_l k
  and_intros <;> intros
  all_goals (first | unfold spec_l11Far.l0 | unfold spec_l11Far.l1 | unfold spec_l11Far.l2 | unfold spec_l11Far.l3)
  all_goals repeat' with_reducible first | apply ih0 | apply ih1 | apply ih2 | apply ih3 | exact LeO.refl _ | exact LeO.none _ | apply LeO.ite | refine LeO.bind ?_ fun _ => ?_
theorem spec_l11Far.mono : ∀ a0 a1 k, LeO (spec_l11Far.f k a0 a1) (spec_l11Far.f (k + 1) a0 a1) := by
 intro a0 a1 k
 obtain ⟨ih0, ih1, ih2, ih3⟩ := spec_l11Far.mono_l k
 unfold spec_l11Far.f
 repeat' with_reducible first | apply ih0 | apply ih1 | apply ih2 | apply ih3 | exact LeO.refl _ | exact LeO.none _ | apply LeO.ite | refine LeO.bind ?_ fun _ => ?_
theorem spec_l11Far.calls (k : Nat) (A0 : Option Addr) (c0 : Nat) (l0 : List (List Int)) (A1 : Option Addr) (c1 : Nat) (l1 : List Int) (r : List Int) (w : World) (hr0 : Kd.C (Kd.slice 3 (Kd.int .i64)) w A0 l0.length l0) (hc0 : l0.length ≤ c0) (hr1 : Kd.C (Kd.int .i64) w A1 l1.length l1) (hc1 : l1.length ≤ c1) (h : spec_l11Far.f k l0 l1 = some r) :
  Calls Try.prog 50 #[.slice A0 l0.length c0, .slice A1 l1.length c1] w fun e w' => ∃ v0_ : Value, e = .returned (v0_) ∧ Kd.R (Kd.int .i64) 3 w' w.heap.size (fun _ => True) v0_ r ∧ Below w.heap.size w w' := by
 have HR0 := am_ hr0
 have HC0 := am_ hc0
 clear hr0 hc0
 have HR1 := am_ hr1
 have HC1 := am_ hc1
 clear hr1 hc1
 have HB := am_ (Below.refl w.heap.size w)
 have H := h
 clear h
 unfold spec_l11Far.f at H
 by_cases c3 : 0 ≤ (l0.length : Int)
 ·rw [if_pos c3] at H
  have c3b0 := eq_true c3
  have c3b1 := decide_eq_true c3
  clear c3
  by_cases c4 : ((l0.length : Int) : Int).toNat ≤ 35184372088832
  ·rw [if_pos c4] at H
   have c4b0 := eq_true c4
   have c4b1 := decide_eq_true c4
   clear c4
   obtain ⟨y203, hy203⟩ : ∃ y_ : List Int, y_ = (List.replicate ((l0.length : Int) : Int).toNat 0) := ⟨_, rfl⟩
   replace H : (spec_l11Far.l0 k l0 l1 y203 (y203.length : Int) 0) = some r := by first | (rw [hy203]; with_reducible exact H) | (have H2_ := (Option.bind_some _ _).symm.trans H; rw [hy203]; with_reducible exact H2_) | (have H2_ := (Option.bind_some _ _).symm.trans H; with_reducible exact H2_) | with_reducible exact H | (rw [hy203]; exact H) | exact H
   have Ny203 := am_ hy203
   clear hy203
   have H' := am_ H
   clear H
   go_enter Try.func50, Try.ntmps50
   go_wp2_with (first | ((with_reducible refine Sh.d 15 ?_); refine Kd.R_make (Kd.int .i64) _ 3 rfl (N := 15) rfl 26 _ _ rfl (l0.length : Int) rfl rfl Try.underlying26 (.int .i64 0) 8 info3 rfl (by decide) (by omega) 0 (ok := fun _ => True) (okp := fun _ => True) rfl (fun _ hk => hk) trivial (of_decide_eq_true (by first | (with_reducible assumption) | assumption)) (Nat.le_trans (Nat.mul_le_mul_right _ (of_decide_eq_true (by first | (with_reducible assumption) | assumption) : (l0.length : Int).toNat ≤ 35184372088832)) (by omega)) (Below.refl _ _) (Nat.le_refl _) ?_; intro v204 w5 ho6 hb hg_ hnew_; clear hg_ hnew_; (first | rw [← Ny203.out] at ho6 | (simp only [Int.reduceToNat] at ho6; rw [← Ny203.out] at ho6)); have HO205 := am_ (Kd.R_lower ho6 (below_size Sh.bw)); replace HB := Sh.hb hb; clear hb ho6; obtain ⟨Ao7, co7, eo7⟩ := Kd.R_slice HO205.out; subst eo7))
   go_loopg [18] k (fun kq v18 w' => ∃ (x5_1 : List Int) (x18_1 : Int), v18 = .int .i64 x18_1 ∧ Aside0 (spec_l11Far.l0 kq l0 l1 x5_1 (y203.length : Int) x18_1 = some r) ∧ Aside0 (kq ≤ k) ∧ Aside0 (Kd.R (Kd.int .i64) 3 w' w.heap.size (fun _ => True) (.slice Ao7 y203.length co7) x5_1) ∧ Aside0 (Below w.heap.size w w'))
   case atStart => exact ⟨(y203), (0), (Sh.es), H', ⟨Nat.le_refl _⟩, ⟨Sh.rl HO205.out⟩, ⟨Sh.bw⟩⟩
   case round =>
    clear H'
    obtain ⟨x5_1, x18_1, rfl, HA, HK1, HO_5, HB⟩ := hrel
    have hl5_1 := (Kd.R_reads' HO_5.out).1
    rw [hl5_1] at HO_5
    (try simp only [hl5_1])
    cases gk with
    | zero => exact absurd HA.out (by simp [spec_l11Far.l0])
    | succ k1 =>
     have H := HA.out
     clear HA
     simp only [spec_l11Far.l0] at H
     by_cases c8 : x18_1 < (y203.length : Int)
     ·rw [if_pos c8] at H
      have c8b0 := decide_eq_true c8
      clear c8
      by_cases c9 : 0 ≤ x18_1
      ·rw [if_pos c9] at H
       have c9b0 := decide_eq_true c9
       clear c9
       by_cases c10 : x18_1 < (x5_1.length : Int)
       ·rw [if_pos c10] at H
        have c10b0 := decide_eq_true c10
        clear c10
        obtain ⟨y206, hy206⟩ : ∃ y_ : List Int, y_ = (x5_1.set (x18_1 : Int).toNat (-1)) := ⟨_, rfl⟩
        replace H : (spec_l11Far.l0 k1 l0 l1 y206 (y203.length : Int) (wrap64 (x18_1 + 1))) = some r := by first | (rw [hy206]; with_reducible exact H) | (have H2_ := (Option.bind_some _ _).symm.trans H; rw [hy206]; with_reducible exact H2_) | (have H2_ := (Option.bind_some _ _).symm.trans H; with_reducible exact H2_) | with_reducible exact H | (rw [hy206]; exact H) | exact H
        have Ny206 := am_ hy206
        clear hy206
        have H' := am_ H
        clear H
        have p11 : 0 ≤ (x18_1 : Int) := Sh.od
        have q11 : (x18_1 : Int) < ((x5_1.length : Int) : Int) := Sh.od
        obtain ⟨go11, co11, eo11, gb11, gl11, cl11, HG11⟩ := Kd.R_form HO_5.out (by omega)
        (first | cases eo11 | (injection eo11 with ea_ en_ ec_; (first | subst ea_ | (injection ea_ with ea_; subst ea_)); subst ec_; clear en_))
        have GB11 := am_ gb11
        have GG11 := am_ HG11
        clear gb11 gl11 HG11
        obtain ⟨hx11_0, hf11_0⟩ := Kd.R_celln 0 HO_5.out (x18_1 : Int) p11 q11
        replace p11 := eq_true p11
        replace q11 := eq_true q11
        have HP12 := Kd.R_putg HO_5.out (x18_1 : Int) (-1)
        go_wp2_with (first | ((with_reducible refine gate_store (t := 3) (p := 23) rfl ?_); refine store_event (t := 3) (p := 23) (v := ?vo_w13) (w1 := (wr.setCell ⟨go11, (x18_1 : Int).toNat, none⟩ (.int .i64 (-1)))) ?hg ?ho ?hn ?hr ?_; (case ho => rfl); (case hg => rfl); (case hn => rfl); (case hr => first | (go_simp; done) | (go_simp; rfl)); intro w13 hw; have hg : wr.grownBy w13 (some go11) := (by rw [hw]; exact HP12.2); have hp_ : Kd.R (Kd.int .i64) 3 w13 w.heap.size (fun _ => True) (.slice (some ⟨go11, 0, none⟩) x5_1.length co7) y206 := (by rw [hw, Ny206.out]; exact HP12.1); clear HP12; replace HO_5 := am_ hp_; replace HB := am_ ((by rw [hw]; exact below_set (HB.out) GB11.out : Below w.heap.size w w13)); clear hg hw hp_))
        (try simp only [← hl5_1])
        go_roundg k1
        case measure => have := HK1.out; omega
        case rel => exact ⟨(y206), (wrap64 (x18_1 + 1)), (Sh.es), H', ⟨by have := HK1.out; omega⟩, ⟨by (try simp only [hl5_1]); (with_reducible repeat (first | apply Kd.R_alloc | apply Kd.R_drewN | apply Kd.R_drew)); exact HO_5.out⟩, ⟨Sh.bw⟩⟩
       ·rw [if_neg c10] at H
        exact absurd H (by simp)
      ·rw [if_neg c9] at H
       exact absurd H (by simp)
     ·rw [if_neg c8] at H
      have c8b0 := decide_eq_false c8
      (try simp only [hl5_1] at c8b0)
      clear c8
      have H' := am_ H
      clear H
      go_wp2
      go_loopg [27] k1 (fun kq v27 w' => ∃ (x5_2 : List Int) (x27_2 : Int), v27 = .int .i64 x27_2 ∧ Aside0 (spec_l11Far.l1 kq l0 l1 x5_2 l1 (l1.length : Int) x27_2 = some r) ∧ Aside0 (kq ≤ k1) ∧ Aside0 (Kd.R (Kd.int .i64) 3 w' w.heap.size (fun _ => True) (.slice Ao7 x5_1.length co7) x5_2) ∧ Aside0 (Below w.heap.size w w'))
      case atStart => exact ⟨(x5_1), (0), (Sh.es), H', ⟨Nat.le_refl _⟩, ⟨by (try simp only [hl5_1]); (with_reducible repeat (first | apply Kd.R_alloc | apply Kd.R_drewN | apply Kd.R_drew)); exact HO_5.out⟩, ⟨Sh.bw⟩⟩
      case round =>
       clear H'
       try clear hx1
       try clear hx11
       try clear hf11
       try clear hx11_0
       obtain ⟨x5_2, x27_2, rfl, HA, HK2, HO_5, HB⟩ := hrel
       have hl5_2 := (Kd.R_reads' HO_5.out).1
       rw [hl5_2] at HO_5
       (try simp only [hl5_2])
       cases gk with
       | zero => exact absurd HA.out (by simp [spec_l11Far.l1])
       | succ k2 =>
        have H := HA.out
        clear HA
        simp only [spec_l11Far.l1] at H
        by_cases c14 : x27_2 < (l1.length : Int)
        ·rw [if_pos c14] at H
         have c14b0 := decide_eq_true c14
         clear c14
         by_cases c15 : 0 ≤ x27_2
         ·rw [if_pos c15] at H
          have c15b0 := decide_eq_true c15
          clear c15
          by_cases c16 : x27_2 < (l1.length : Int)
          ·rw [if_pos c16] at H
           have c16b0 := decide_eq_true c16
           clear c16
           by_cases c17 : 0 ≤ (rd l1 x27_2)
           ·rw [if_pos c17] at H
            have c17b0 := decide_eq_true c17
            clear c17
            by_cases c18 : (rd l1 x27_2) < (x5_2.length : Int)
            ·rw [if_pos c18] at H
             have c18b0 := decide_eq_true c18
             clear c18
             obtain ⟨y208, hy208⟩ : ∃ y_ : List Int, y_ = (x5_2.set ((rd l1 x27_2) : Int).toNat 0) := ⟨_, rfl⟩
             replace H : (spec_l11Far.l1 k2 l0 l1 y208 l1 (l1.length : Int) (wrap64 (x27_2 + 1))) = some r := by first | (rw [hy208]; with_reducible exact H) | (have H2_ := (Option.bind_some _ _).symm.trans H; rw [hy208]; with_reducible exact H2_) | (have H2_ := (Option.bind_some _ _).symm.trans H; with_reducible exact H2_) | with_reducible exact H | (rw [hy208]; exact H) | exact H
             have Ny208 := am_ hy208
             clear hy208
             have H' := am_ H
             clear H
             have p207 : 0 ≤ (x27_2 : Int) := Sh.od
             have q207 : x27_2 < (l1.length : Int) := Sh.od
             obtain ⟨ad207, e207, hx207_0⟩ := Kd.at_int HR1.out x27_2 p207 q207
             cases e207
             try replace hx207_0 := Sh.cw hx207_0
             replace p207 := eq_true p207
             replace q207 := eq_true q207
             have p19 : 0 ≤ ((rd l1 x27_2) : Int) := Sh.od
             have q19 : ((rd l1 x27_2) : Int) < ((x5_2.length : Int) : Int) := Sh.od
             obtain ⟨go19, co19, eo19, gb19, gl19, cl19, HG19⟩ := Kd.R_form HO_5.out (by omega)
             (first | cases eo19 | (injection eo19 with ea_ en_ ec_; (first | subst ea_ | (injection ea_ with ea_; subst ea_)); subst ec_; clear en_))
             have GB19 := am_ gb19
             have GG19 := am_ HG19
             clear gb19 gl19 HG19
             obtain ⟨hx19_0, hf19_0⟩ := Kd.R_celln 0 HO_5.out ((rd l1 x27_2) : Int) p19 q19
             replace p19 := eq_true p19
             replace q19 := eq_true q19
             have HP20 := Kd.R_putg HO_5.out ((rd l1 x27_2) : Int) 0
             go_wp2_with (first | ((with_reducible refine gate_store (t := 3) (p := 33) rfl ?_); refine store_event (t := 3) (p := 33) (v := ?vo_w21) (w1 := (wr.setCell ⟨go19, ((rd l1 x27_2) : Int).toNat, none⟩ (.int .i64 0))) ?hg ?ho ?hn ?hr ?_; (case ho => rfl); (case hg => rfl); (case hn => rfl); (case hr => first | (go_simp; done) | (go_simp; rfl)); intro w21 hw; have hg : wr.grownBy w21 (some go19) := (by rw [hw]; exact HP20.2); have hp_ : Kd.R (Kd.int .i64) 3 w21 w.heap.size (fun _ => True) (.slice (some ⟨go19, 0, none⟩) x5_2.length co7) y208 := (by rw [hw, Ny208.out]; exact HP20.1); clear HP20; replace HO_5 := am_ hp_; replace HB := am_ ((by rw [hw]; exact below_set (HB.out) GB19.out : Below w.heap.size w w21)); clear hg hw hp_))
             (try simp only [← hl5_2])
             go_roundg k2
             case measure => have := HK1.out; have := HK2.out; omega
             case rel => exact ⟨(y208), (wrap64 (x27_2 + 1)), (Sh.es), H', ⟨by have := HK1.out; have := HK2.out; omega⟩, ⟨by (try simp only [hl5_1]); (try simp only [hl5_2]); (with_reducible repeat (first | apply Kd.R_alloc | apply Kd.R_drewN | apply Kd.R_drew)); exact HO_5.out⟩, ⟨Sh.bw⟩⟩
            ·rw [if_neg c18] at H
             exact absurd H (by simp)
           ·rw [if_neg c17] at H
            exact absurd H (by simp)
          ·rw [if_neg c16] at H
           exact absurd H (by simp)
         ·rw [if_neg c15] at H
          exact absurd H (by simp)
        ·rw [if_neg c14] at H
         have c14b0 := decide_eq_false c14
         (try simp only [hl5_1] at c14b0)
         (try simp only [hl5_2] at c14b0)
         clear c14
         obtain ⟨t209, A22, H⟩ := Sh.ba H
         have H' := am_ H
         clear H
         go_wp2_with (first | ((with_reducible refine Sh.k 70 ?_); refine Sh.gL (some 36) Try.func70 #[.slice A1 l1.length c1] (h := ?_); (with_reducible refine (spec_l1Own.calls _ _ l1 t209 _ (Sh.cB HR1.out) HC1.out A22.out).mono ?_); rintro e w23 ⟨v210, rfl, ho0, hb⟩; refine ⟨_, rfl, ?_⟩; have HO211 := am_ (Kd.R_lower (Kd.R_new' ho0 (Kd.R_lt (Sh.rl HO_5.out))) (below_size Sh.bw)); replace HO_5 := am_ (Kd.R_elder' (Sh.rl HO_5.out) (Kd.R_base ho0) hb); replace HB := Sh.hb hb; (try clear hb); (try clear hb2); (try clear hk); (try clear hi); (try clear ho0)))
         go_loopg [9] k2 (fun kq v9 w' => ∃ (x5_3 : List Int) (x9_3 : List Int), Aside0 (spec_l11Far.l2 kq l0 x5_3 x9_3 = some r) ∧ Aside0 (kq ≤ k2) ∧ Aside0 (Kd.R (Kd.int .i64) 3 w' w.heap.size (fun k_ => some k_ ≠ (v9 : Value).ownBlock) (.slice Ao7 x5_2.length co7) x5_3) ∧ Aside0 (Kd.Q (Kd.int .i64) 3 w' w.heap.size (fun k_ => some k_ ≠ ((.slice Ao7 x5_2.length co7) : Value).ownBlock) v9 x9_3) ∧ Aside0 (Below w.heap.size w w'))
         case atStart => exact ⟨(x5_2), (t209), H', ⟨Nat.le_refl _⟩, ⟨by (try simp only [hl5_1]); (try simp only [hl5_2]); (with_reducible repeat (first | apply Kd.R_alloc | apply Kd.R_drewN | apply Kd.R_drew)); exact Kd.R_mono HO_5.out (fun _ hk => hk.2)⟩, ⟨Kd.Q_of_R (by (try simp only [hl5_1]); (try simp only [hl5_2]); (with_reducible repeat (first | apply Kd.R_alloc | apply Kd.R_drewN | apply Kd.R_drew)); exact Kd.R_mono HO211.out (fun _ hk => hk.2))⟩, ⟨Sh.bw⟩⟩
         case round =>
          clear H'
          try clear hx1
          try clear hx2
          try clear hx11
          try clear hf11
          try clear hx19
          try clear hf19
          try clear hx20
          try clear hx11_0
          try clear hx19_0
          try clear hx207_0
          obtain ⟨x5_3, x9_3, HA, HK3, HO_5, HO_9, HB⟩ := hrel
          have hl5_3 := (Kd.R_reads' HO_5.out).1
          rw [hl5_3] at HO_5
          (try simp only [hl5_3])
          (try simp only [hl5_3] at HO_9)
          cases gk with
          | zero => exact absurd HA.out (by simp [spec_l11Far.l2])
          | succ k3 =>
           have H := HA.out
           clear HA
           simp only [spec_l11Far.l2] at H
           by_cases c24 : (x9_3.length : Int) > 0
           ·rw [if_pos c24] at H
            have c24b0 : decide (0 < (x9_3.length : Int)) = true := decide_eq_true c24
            have c24b1 : decide (0 < x9_3.length) = true := decide_eq_true (by omega)
            clear c24
            by_cases c25 : 0 < (x9_3.length : Int)
            ·rw [if_pos c25] at H
             have c25b0 := decide_eq_true c25
             have c25b1 : decide (0 < x9_3.length) = true := decide_eq_true (by omega)
             clear c25
             by_cases c26 : 1 ≤ (x9_3.length : Int)
             ·rw [if_pos c26] at H
              have c26b0 := eq_true c26
              have c26b1 := decide_eq_true c26
              clear c26
              obtain ⟨y213, hy213⟩ : ∃ y_ : List Int, y_ = (x9_3.drop (1 : Int).toNat) := ⟨_, rfl⟩
              replace H : (if 0 ≤ (rd x9_3 0) then (if (rd x9_3 0) < (l0.length : Int) then (spec_l11Far.l3 k3 l0 x5_3 y213 (rd x9_3 0) (rd_L1 l0 (rd x9_3 0)) ((rd_L1 l0 (rd x9_3 0)).length : Int) 0) else (none)) else (none)) = some r := by first | (rw [hy213]; with_reducible exact H) | (have H2_ := (Option.bind_some _ _).symm.trans H; rw [hy213]; with_reducible exact H2_) | (have H2_ := (Option.bind_some _ _).symm.trans H; with_reducible exact H2_) | with_reducible exact H | (rw [hy213]; exact H) | exact H
              have Ny213 := am_ hy213
              clear hy213
              by_cases c27 : 0 ≤ (rd x9_3 0)
              ·rw [if_pos c27] at H
               have c27b0 := decide_eq_true c27
               clear c27
               by_cases c28 : (rd x9_3 0) < (l0.length : Int)
               ·rw [if_pos c28] at H
                have c28b0 := decide_eq_true c28
                clear c28
                have H' := am_ H
                clear H
                obtain ⟨Ao29, co29, eo29, _⟩ := Kd.Q_slice HO_9.out
                subst eo29
                have p212 : 0 ≤ (0 : Int) := (by omega)
                have q212 : 0 < (x9_3.length : Int) := Sh.od
                obtain ⟨ad212, e212, hx212_0⟩ := Kd.at_int (Kd.Q_reads' HO_9.out).2.2 0 p212 q212
                cases e212
                have qi212 : (0 < x9_3.length) = True := eq_true (by omega)
                (try rw [show ((0 : Int)).toNat = 0 from rfl] at hx212_0)
                (try rw [Addr.add_zero'] at hx212_0)
                replace p212 := eq_true p212
                replace q212 := eq_true q212
                have q30 : (1 : Int) ≤ ((x9_3.length : Int) : Int) := Sh.od
                obtain ⟨i030, hi030, _, hsz30, _⟩ := info_parts info3
                have hcut30 := cut_from (P := Try.prog) 26 3 .i64 Try.underlying26 hi030 1 hsz30 (some ad212) x9_3.length co29 1 (by omega) q30
                have hr30 := Kd.Q_drop (k := (1 : Int).toNat) HO_9.out (by omega)
                obtain ⟨A30, hA30⟩ : ∃ A1, A1 = (if co29 = (1 : Int).toNat then (some ad212) else ((some ad212) : Option Addr).map (·.add ((1 : Int).toNat * 1))) := ⟨_, rfl⟩
                obtain ⟨c30, hc30⟩ : ∃ c1, c1 = co29 - (1 : Int).toNat := ⟨_, rfl⟩
                have hy30 : y213.length = x9_3.length - (1 : Int).toNat := (by rw [Ny213.out, List.length_drop])
                rw [← Ny213.out] at hr30
                rw [← hy30, ← hA30, ← hc30] at hcut30
                replace hr30 : Kd.Q (Kd.int .i64) 3 wr w.heap.size (fun k_ => some k_ ≠ (.slice Ao7 x5_3.length co7 : Value).ownBlock) (.slice A30 y213.length c30) y213 := (by rw [hA30, hc30, hy30]; exact hr30)
                have HE30 : Aside0 ((Value.slice A30 y213.length c30).ownBlock = (.slice (some ad212) x9_3.length co29 : Value).ownBlock) := ⟨by rw [hA30]; split <;> (cases ((some ad212) : Option Addr) <;> rfl)⟩
                clear hy30 hi030 hsz30 HO_9 hA30 hc30
                have HO215 := am_ hr30
                clear hr30
                replace q30 := eq_true q30
                have n_ := am_ (Kd.R_mono (ok' := fun k_ => some k_ ≠ (.slice A30 y213.length c30 : Value).ownBlock) HO_5.out (fun k_ hk => (by rw [HE30.out]; exact hk)))
                clear HO_5
                have HO_5 := n_
                clear n_
                have p216 : 0 ≤ ((rd x9_3 0) : Int) := Sh.od
                have q216 : (rd x9_3 0) < (l0.length : Int) := Sh.od
                obtain ⟨ad216, A216_0, c216_0, e216, hx216_0, hl216_0, hi216_0⟩ := at_L1 HR0.out (rd x9_3 0) p216 q216
                cases e216
                try replace hx216_0 := Sh.cw hx216_0
                have HR216_0 := am_ hi216_0
                have HC216_0 := am_ hl216_0
                clear hi216_0 hl216_0
                replace p216 := eq_true p216
                replace q216 := eq_true q216
                go_wp2
                go_loopg [9, 50] k3 (fun kq v9 v50 w' => ∃ (x5_4 : List Int) (x9_4 : List Int) (x50_4 : Int), v50 = .int .i64 x50_4 ∧ Aside0 (spec_l11Far.l3 kq l0 x5_4 x9_4 (rd x9_3 0) (rd_L1 l0 (rd x9_3 0)) ((rd_L1 l0 (rd x9_3 0)).length : Int) x50_4 = some r) ∧ Aside0 (kq ≤ k3) ∧ Aside0 (Kd.R (Kd.int .i64) 3 w' w.heap.size (fun k_ => some k_ ≠ (v9 : Value).ownBlock) (.slice Ao7 x5_3.length co7) x5_4) ∧ Aside0 (Kd.Q (Kd.int .i64) 3 w' w.heap.size (fun k_ => some k_ ≠ ((.slice Ao7 x5_3.length co7) : Value).ownBlock) v9 x9_4) ∧ Aside0 (Below w.heap.size w w'))
                case atStart => exact ⟨(x5_3), (y213), (0), (Sh.es), H', ⟨Nat.le_refl _⟩, ⟨by (try simp only [hl5_1]); (try simp only [hl5_2]); (try simp only [hl5_3]); (with_reducible repeat (first | apply Kd.R_alloc | apply Kd.R_drewN | apply Kd.R_drew)); exact HO_5.out⟩, ⟨by (try simp only [hl5_1]); (try simp only [hl5_2]); (try simp only [hl5_3]); (with_reducible repeat (first | apply Kd.Q_alloc | apply Kd.Q_drewN | apply Kd.Q_drew)); exact HO215.out⟩, ⟨Sh.bw⟩⟩
                case round =>
                 clear H'
                 try clear hx1
                 try clear hx2
                 try clear qi2
                 try clear hx11
                 try clear hf11
                 try clear hx19
                 try clear hf19
                 try clear hx20
                 try clear hx21
                 try clear qi21
                 try clear hx11_0
                 try clear hx19_0
                 try clear hx207_0
                 try clear hx212_0
                 try clear hx216_0
                 obtain ⟨x5_4, x9_4, x50_4, rfl, HA, HK4, HO_5, HO_9, HB⟩ := hrel
                 have hl5_4 := (Kd.R_reads' HO_5.out).1
                 rw [hl5_4] at HO_5
                 (try simp only [hl5_4])
                 (try simp only [hl5_4] at HO_9)
                 cases gk with
                 | zero => exact absurd HA.out (by simp [spec_l11Far.l3])
                 | succ k4 =>
                  have H := HA.out
                  clear HA
                  simp only [spec_l11Far.l3] at H
                  by_cases c31 : x50_4 < ((rd_L1 l0 (rd x9_3 0)).length : Int)
                  ·rw [if_pos c31] at H
                   have c31b0 := decide_eq_true c31
                   clear c31
                   by_cases c32 : 0 ≤ x50_4
                   ·rw [if_pos c32] at H
                    have c32b0 := decide_eq_true c32
                    clear c32
                    by_cases c33 : x50_4 < ((rd_L1 l0 (rd x9_3 0)).length : Int)
                    ·rw [if_pos c33] at H
                     have c33b0 := decide_eq_true c33
                     clear c33
                     by_cases c34 : 0 ≤ (rd (rd_L1 l0 (rd x9_3 0)) x50_4)
                     ·rw [if_pos c34] at H
                      have c34b0 := decide_eq_true c34
                      clear c34
                      by_cases c35 : (rd (rd_L1 l0 (rd x9_3 0)) x50_4) < (x5_4.length : Int)
                      ·rw [if_pos c35] at H
                       have c35b0 := decide_eq_true c35
                       clear c35
                       by_cases c36 : (rd x5_4 (rd (rd_L1 l0 (rd x9_3 0)) x50_4)) < 0
                       ·rw [if_pos c36] at H
                        have c36b0 := decide_eq_true c36
                        clear c36
                        by_cases c37 : 0 ≤ (rd x9_3 0)
                        ·rw [if_pos c37] at H
                         have c37b0 := decide_eq_true c37
                         clear c37
                         by_cases c38 : (rd x9_3 0) < (x5_4.length : Int)
                         ·rw [if_pos c38] at H
                          have c38b0 := decide_eq_true c38
                          clear c38
                          obtain ⟨y220, hy220⟩ : ∃ y_ : List Int, y_ = (x5_4.set ((rd (rd_L1 l0 (rd x9_3 0)) x50_4) : Int).toNat (wrap64 ((rd x5_4 (rd x9_3 0)) + 1))) := ⟨_, rfl⟩
                          replace H : (if x9_4.length < 17592186044416 then (spec_l11Far.l3 k4 l0 y220 (x9_4 ++ [rd (rd_L1 l0 (rd x9_3 0)) x50_4]) (rd x9_3 0) (rd_L1 l0 (rd x9_3 0)) ((rd_L1 l0 (rd x9_3 0)).length : Int) (wrap64 (x50_4 + 1))) else (none)) = some r := by first | (rw [hy220]; with_reducible exact H) | (have H2_ := (Option.bind_some _ _).symm.trans H; rw [hy220]; with_reducible exact H2_) | (have H2_ := (Option.bind_some _ _).symm.trans H; with_reducible exact H2_) | with_reducible exact H | (rw [hy220]; exact H) | exact H
                          have Ny220 := am_ hy220
                          clear hy220
                          by_cases c40 : x9_4.length < 17592186044416
                          ·rw [if_pos c40] at H
                           have LMc40 := am_ c40
                           clear c40
                           obtain ⟨y221, hy221⟩ : ∃ y_ : List Int, y_ = (x9_4 ++ [rd (rd_L1 l0 (rd x9_3 0)) x50_4]) := ⟨_, rfl⟩
                           replace H : (spec_l11Far.l3 k4 l0 y220 y221 (rd x9_3 0) (rd_L1 l0 (rd x9_3 0)) ((rd_L1 l0 (rd x9_3 0)).length : Int) (wrap64 (x50_4 + 1))) = some r := by first | (rw [hy221]; with_reducible exact H) | (have H2_ := (Option.bind_some _ _).symm.trans H; rw [hy221]; with_reducible exact H2_) | (have H2_ := (Option.bind_some _ _).symm.trans H; with_reducible exact H2_) | with_reducible exact H | (rw [hy221]; exact H) | exact H
                           have Ny221 := am_ hy221
                           clear hy221
                           have H' := am_ H
                           clear H
                           have p217 : 0 ≤ (x50_4 : Int) := Sh.od
                           have q217 : x50_4 < ((rd_L1 l0 (rd x9_3 0)).length : Int) := Sh.od
                           obtain ⟨ad217, e217, hx217_0⟩ := Kd.at_int HR216_0.out x50_4 p217 q217
                           cases e217
                           try replace hx217_0 := Sh.cw hx217_0
                           replace p217 := eq_true p217
                           replace q217 := eq_true q217
                           have p218 : 0 ≤ ((rd (rd_L1 l0 (rd x9_3 0)) x50_4) : Int) := Sh.od
                           have q218 : (rd (rd_L1 l0 (rd x9_3 0)) x50_4) < (x5_4.length : Int) := Sh.od
                           obtain ⟨ad218, e218, hx218_0⟩ := Kd.at_int (Kd.R_reads' HO_5.out).2.2 (rd (rd_L1 l0 (rd x9_3 0)) x50_4) p218 q218
                           cases e218
                           replace p218 := eq_true p218
                           replace q218 := eq_true q218
                           have p219 : 0 ≤ ((rd x9_3 0) : Int) := Sh.od
                           have q219 : (rd x9_3 0) < (x5_4.length : Int) := Sh.od
                           obtain ⟨ad219, e219, hx219_0⟩ := Kd.at_int (Kd.R_reads' HO_5.out).2.2 (rd x9_3 0) p219 q219
                           obtain rfl : ad218 = ad219 := (by injection e219)
                           replace p219 := eq_true p219
                           replace q219 := eq_true q219
                           have p39 : 0 ≤ ((rd (rd_L1 l0 (rd x9_3 0)) x50_4) : Int) := Sh.od
                           have q39 : ((rd (rd_L1 l0 (rd x9_3 0)) x50_4) : Int) < ((x5_4.length : Int) : Int) := Sh.od
                           obtain ⟨go39, co39, eo39, gb39, gl39, cl39, HG39⟩ := Kd.R_form HO_5.out (by omega)
                           (first | cases eo39 | (injection eo39 with ea_ en_ ec_; (first | subst ea_ | (injection ea_ with ea_; subst ea_)); subst ec_; clear en_))
                           have GB39 := am_ gb39
                           have GG39 := am_ HG39
                           clear gb39 gl39 HG39
                           (first | simp only [add_plain] at hx218_0 | skip)
                           (first | simp only [add_plain] at hx219_0 | skip)
                           obtain ⟨hx39_0, hf39_0⟩ := Kd.R_celln 0 HO_5.out ((rd (rd_L1 l0 (rd x9_3 0)) x50_4) : Int) p39 q39
                           replace p39 := eq_true p39
                           replace q39 := eq_true q39
                           have HP41 := Kd.R_putg HO_5.out ((rd (rd_L1 l0 (rd x9_3 0)) x50_4) : Int) (wrap64 ((rd x5_4 (rd x9_3 0)) + 1))
                           go_wp2_with (first | ((with_reducible refine gate_store (t := 3) (p := 66) rfl ?_); refine store_event (t := 3) (p := 66) (v := ?vo_w42) (w1 := (wr.setCell ⟨go39, ((rd (rd_L1 l0 (rd x9_3 0)) x50_4) : Int).toNat, none⟩ (.int .i64 (wrap64 ((rd x5_4 (rd x9_3 0)) + 1))))) ?hg ?ho ?hn ?hr ?_; (case ho => rfl); (case hg => rfl); (case hn => rfl); (case hr => first | (go_simp; done) | (go_simp; rfl)); intro w42 hw; have hg : wr.grownBy w42 (some go39) := (by rw [hw]; exact HP41.2); have hp_ : Kd.R (Kd.int .i64) 3 w42 w.heap.size (fun k_ => some k_ ≠ (u9 : Value).ownBlock) (.slice (some ⟨go39, 0, none⟩) x5_4.length co7) y220 := (by rw [hw, Ny220.out]; exact HP41.1); clear HP41; replace HO_5 := am_ hp_; replace HO_9 := am_ (Kd.Q_after (v := (.slice (some ⟨go39, 0, none⟩) x5_4.length co7)) (v1 := (.slice (some ⟨go39, 0, none⟩) x5_4.length co7)) (ok := (fun _ => True)) (by (with_reducible repeat (first | apply Kd.Q_alloc | apply Kd.Q_drewN | apply Kd.Q_drew)); exact Kd.Q_mono HO_9.out (fun _ hk => ⟨trivial, hk⟩)) hg (.inl rfl)); replace HB := am_ ((by rw [hw]; exact below_set (HB.out) GB39.out : Below w.heap.size w w42)); clear hg hw hp_) | ((with_reducible refine gate_builtin (b := .append) (xs := #[.tmp 67, .tmp 69]) rfl ?_); at_builtin; refine Kd.Q_append (Kd.int .i64) (w0 := w) w.heap.size rfl (.tmp 67) (.tmp 69) 26 3 (.int .i64 0) 8 rfl Try.underlying26 info3 rfl (by decide) (by omega) u9 x9_4 (rd (rd_L1 l0 (rd x9_3 0)) x50_4) [.int .i64 (rd (rd_L1 l0 (rd x9_3 0)) x50_4)] (fun k_ => some k_ ≠ (.slice (some ⟨go39, 0, none⟩) x5_4.length co7 : Value).ownBlock) (fun _ => False) rfl rfl ?aP (fun _ hk => hk.elim) ?aF ?aO ?aB ?aS ?aL ?_; (case aP => exact rfl); (case aB => exact Sh.bw); (case aF => exact (fun k_ hk => Kd.fresh' (Kd.R_lt (Sh.rl HO_5.out)) k_ hk)); (case aO => exact (by (with_reducible repeat (first | apply Kd.Q_alloc | apply Kd.Q_drewN | apply Kd.Q_drew)); exact Kd.Q_mono HO_9.out (fun _ hk => hk.2))); (case aS => exact (below_size Sh.bw)); (case aL => have := LMc40.out; omega); intro v222 w43 ho hb hg hat; rw [← Ny221.out] at ho; have n0_ := am_ (Kd.R_after (ok := (fun _ => True)) (Sh.rl (Kd.R_mono HO_5.out (fun _ hk => ⟨trivial, hk⟩))) hg hat); have n1_ := am_ hb; have n2_ := am_ ho; clear HO_5; clear HB; clear HO_9; have HO_5 := n0_; have HB := n1_; have HO223 := n2_; clear n0_ n1_ n2_; clear ho hb hg hat))
                           (try simp only [← hl5_4])
                           go_roundg k4
                           case measure => have := HK1.out; have := HK2.out; have := HK3.out; have := HK4.out; omega
                           case rel => exact ⟨(y220), (y221), (wrap64 (x50_4 + 1)), (Sh.es), H', ⟨by have := HK1.out; have := HK2.out; have := HK3.out; have := HK4.out; omega⟩, ⟨by (try simp only [hl5_1]); (try simp only [hl5_2]); (try simp only [hl5_3]); (try simp only [hl5_4]); (with_reducible repeat (first | apply Kd.R_alloc | apply Kd.R_drewN | apply Kd.R_drew)); exact Kd.R_mono HO_5.out (fun _ hk => hk.2)⟩, ⟨by (try simp only [hl5_1]); (try simp only [hl5_2]); (try simp only [hl5_3]); (try simp only [hl5_4]); (with_reducible repeat (first | apply Kd.Q_alloc | apply Kd.Q_drewN | apply Kd.Q_drew)); exact HO223.out⟩, ⟨Sh.bw⟩⟩
                          ·rw [if_neg c40] at H
                           exact absurd H (by simp)
                         ·rw [if_neg c38] at H
                          exact absurd H (by simp)
                        ·rw [if_neg c37] at H
                         exact absurd H (by simp)
                       ·rw [if_neg c36] at H
                        have c36b0 := decide_eq_false c36
                        clear c36
                        have H' := am_ H
                        clear H
                        have p217 : 0 ≤ (x50_4 : Int) := Sh.od
                        have q217 : x50_4 < ((rd_L1 l0 (rd x9_3 0)).length : Int) := Sh.od
                        obtain ⟨ad217, e217, hx217_0⟩ := Kd.at_int HR216_0.out x50_4 p217 q217
                        cases e217
                        try replace hx217_0 := Sh.cw hx217_0
                        replace p217 := eq_true p217
                        replace q217 := eq_true q217
                        have p218 : 0 ≤ ((rd (rd_L1 l0 (rd x9_3 0)) x50_4) : Int) := Sh.od
                        have q218 : (rd (rd_L1 l0 (rd x9_3 0)) x50_4) < (x5_4.length : Int) := Sh.od
                        obtain ⟨ad218, e218, hx218_0⟩ := Kd.at_int (Kd.R_reads' HO_5.out).2.2 (rd (rd_L1 l0 (rd x9_3 0)) x50_4) p218 q218
                        cases e218
                        replace p218 := eq_true p218
                        replace q218 := eq_true q218
                        go_wp2
                        (try simp only [← hl5_4])
                        go_roundg k4
                        case measure => have := HK1.out; have := HK2.out; have := HK3.out; have := HK4.out; omega
                        case rel => exact ⟨(x5_4), (x9_4), (wrap64 (x50_4 + 1)), (Sh.es), H', ⟨by have := HK1.out; have := HK2.out; have := HK3.out; have := HK4.out; omega⟩, ⟨by (try simp only [hl5_1]); (try simp only [hl5_2]); (try simp only [hl5_3]); (try simp only [hl5_4]); (with_reducible repeat (first | apply Kd.R_alloc | apply Kd.R_drewN | apply Kd.R_drew)); exact HO_5.out⟩, ⟨by (try simp only [hl5_1]); (try simp only [hl5_2]); (try simp only [hl5_3]); (try simp only [hl5_4]); (with_reducible repeat (first | apply Kd.Q_alloc | apply Kd.Q_drewN | apply Kd.Q_drew)); exact HO_9.out⟩, ⟨Sh.bw⟩⟩
                      ·rw [if_neg c35] at H
                       exact absurd H (by simp)
                     ·rw [if_neg c34] at H
                      exact absurd H (by simp)
                    ·rw [if_neg c33] at H
                     exact absurd H (by simp)
                   ·rw [if_neg c32] at H
                    exact absurd H (by simp)
                  ·rw [if_neg c31] at H
                   have c31b0 := decide_eq_false c31
                   (try simp only [hl5_1] at c31b0)
                   (try simp only [hl5_2] at c31b0)
                   (try simp only [hl5_3] at c31b0)
                   (try simp only [hl5_4] at c31b0)
                   clear c31
                   have H' := am_ H
                   clear H
                   go_wp2
                   (try simp only [← hl5_3, ← hl5_4])
                   go_roundg k4
                   case measure => have := HK1.out; have := HK2.out; have := HK3.out; have := HK4.out; omega
                   case rel => exact ⟨(x5_4), (x9_4), H', ⟨by have := HK1.out; have := HK2.out; have := HK3.out; have := HK4.out; omega⟩, ⟨by (try simp only [hl5_1]); (try simp only [hl5_2]); (try simp only [hl5_3]); (try simp only [hl5_4]); (with_reducible repeat (first | apply Kd.R_alloc | apply Kd.R_drewN | apply Kd.R_drew)); exact HO_5.out⟩, ⟨by (try simp only [hl5_1]); (try simp only [hl5_2]); (try simp only [hl5_3]); (try simp only [hl5_4]); (with_reducible repeat (first | apply Kd.Q_alloc | apply Kd.Q_drewN | apply Kd.Q_drew)); exact HO_9.out⟩, ⟨Sh.bw⟩⟩
               ·rw [if_neg c28] at H
                exact absurd H (by simp)
              ·rw [if_neg c27] at H
               exact absurd H (by simp)
             ·rw [if_neg c26] at H
              exact absurd H (by simp)
            ·rw [if_neg c25] at H
             exact absurd H (by simp)
           ·rw [if_neg c24] at H
            have c24b0 : decide (0 < (x9_3.length : Int)) = false := decide_eq_false c24
            (try simp only [hl5_1] at c24b0)
            (try simp only [hl5_2] at c24b0)
            (try simp only [hl5_3] at c24b0)
            have c24b1 : decide (0 < x9_3.length) = false := decide_eq_false (by omega)
            clear c24
            obtain rfl := Option.some.inj H
            obtain ⟨Ao44, co44, eo44, _⟩ := Kd.Q_slice HO_9.out
            subst eo44
            go_wp2
            go_ret
            exact ⟨_, Sh.eR, Sh.rl (Kd.R_mono HO_5.out (fun _ hk => trivial)), Sh.bw⟩
  ·rw [if_neg c4] at H
   exact absurd H (by simp)
 ·rw [if_neg c3] at H
  exact absurd H (by simp)
def spec_l11Reach.l0 : Nat → List Int → List Int → Int → Int → Option (List Int)
 | 0, _, _, _, _ => none
 | k + 1, x5, x10, x11, x12 => if x12 < x11 then (if 0 ≤ x12 then (if x12 < (x10.length : Int) then (if (rd x10 x12) ≥ 0 then (if x5.length < 17592186044416 then (spec_l11Reach.l0 k (x5 ++ [x12]) x10 x11 (wrap64 (x12 + 1))) else (none)) else (spec_l11Reach.l0 k x5 x10 x11 (wrap64 (x12 + 1)))) else (none)) else (none)) else (some x5)
def spec_l11Reach.f (k : Nat) (l0 : List (List Int)) (l1 : List Int) : Option (List Int) := (spec_l11Far.f k l0 l1).bind fun t484 => (spec_l11Reach.l0 k ([] : List Int) t484 (t484.length : Int) 0)
theorem spec_l11Reach.mono_l : ∀ k, (∀ y0 y1 y2 y3, LeO (spec_l11Reach.l0 k y0 y1 y2 y3) (spec_l11Reach.l0 (k + 1) y0 y1 y2 y3))
 | 0 => fun _ _ _ _ r h => by simp [spec_l11Reach.l0] at h
 | k + 1 => by
  have ih0 := spec_l11Reach.mono_l k
  ·intro y0 y1 y2 y3
   unfold spec_l11Reach.l0
   repeat' with_reducible first | apply ih0 | apply spec_l11Far.mono | exact LeO.refl _ | exact LeO.none _ | apply LeO.ite | refine LeO.bind ?_ fun _ => ?_
theorem spec_l11Reach.mono : ∀ a0 a1 k, LeO (spec_l11Reach.f k a0 a1) (spec_l11Reach.f (k + 1) a0 a1) := by
 intro a0 a1 k
 have ih0 := spec_l11Reach.mono_l k
 unfold spec_l11Reach.f
 repeat' with_reducible first | apply ih0 | apply spec_l11Far.mono | exact LeO.refl _ | exact LeO.none _ | apply LeO.ite | refine LeO.bind ?_ fun _ => ?_
theorem spec_l11Reach.calls (k : Nat) (A0 : Option Addr) (c0 : Nat) (l0 : List (List Int)) (A1 : Option Addr) (c1 : Nat) (l1 : List Int) (r : List Int) (w : World) (hr0 : Kd.C (Kd.slice 3 (Kd.int .i64)) w A0 l0.length l0) (hc0 : l0.length ≤ c0) (hr1 : Kd.C (Kd.int .i64) w A1 l1.length l1) (hc1 : l1.length ≤ c1) (h : spec_l11Reach.f k l0 l1 = some r) :
  Calls Try.prog 36 #[.slice A0 l0.length c0, .slice A1 l1.length c1] w fun e w' => ∃ v0_ : Value, e = .returned (v0_) ∧ Kd.R (Kd.int .i64) 3 w' w.heap.size (fun _ => True) v0_ r ∧ Below w.heap.size w w' := by
 have HR0 := am_ hr0
 have HC0 := am_ hc0
 clear hr0 hc0
 have HR1 := am_ hr1
 have HC1 := am_ hc1
 clear hr1 hc1
 have HB := am_ (Below.refl w.heap.size w)
 have H := h
 clear h
 unfold spec_l11Reach.f at H
 obtain ⟨t484, A3, H⟩ := Sh.ba H
 have H' := am_ H
 clear H
 go_enter Try.func36, Try.ntmps36
 go_wp2_with (first | ((with_reducible refine Sh.k 50 ?_); refine Sh.gL (some 10) Try.func50 #[.slice A0 l0.length c0, .slice A1 l1.length c1] (h := ?_); (with_reducible refine (spec_l11Far.calls k _ _ l0 _ _ l1 t484 _ ?side1 ?side2 ?side3 ?side4 A3.out).mono ?_); (case side1 => repeat (first | exact HR0.out | (with_reducible first | refine Kd.C_alloc ?_ _ | refine Kd.C_drewN ?_ _ | refine Kd.C_drew ?_))); (case side2 => exact HC0.out); (case side3 => repeat (first | exact HR1.out | (with_reducible first | refine Kd.C_alloc ?_ _ | refine Kd.C_drewN ?_ _ | refine Kd.C_drew ?_))); (case side4 => exact HC1.out); rintro e w4 ⟨v485, rfl, ho0, hb⟩; refine ⟨_, rfl, ?_⟩; have HO486 := am_ (Kd.R_lower ho0 (below_size Sh.bw)); replace HB := Sh.hb hb; (try clear hb); (try clear hb2); (try clear hk); (try clear hi); (try clear ho0); obtain ⟨Ao5, co5, eo5⟩ := Kd.R_slice HO486.out; subst eo5))
 go_loopg [5, 12] k (fun kq v5 v12 w' => ∃ (x5_1 : List Int) (x12_1 : Int), v12 = .int .i64 x12_1 ∧ Aside0 (spec_l11Reach.l0 kq x5_1 t484 (t484.length : Int) x12_1 = some r) ∧ Aside0 (kq ≤ k) ∧ Aside0 (Kd.R (Kd.int .i64) 3 w' w.heap.size (fun k_ => some k_ ≠ ((.slice Ao5 t484.length co5) : Value).ownBlock) v5 x5_1) ∧ Aside0 (Kd.R (Kd.int .i64) 3 w' w.heap.size (fun k_ => some k_ ≠ (v5 : Value).ownBlock) (.slice Ao5 t484.length co5) t484) ∧ Aside0 (Below w.heap.size w w'))
 case atStart => exact ⟨(([] : List Int)), (0), (Sh.es), H', ⟨Nat.le_refl _⟩, ⟨by first | exact Kd.R_nil _ _ _ _ _ | exact Kd.N_nil _ _ _ _ _ | exact Kd.V_nil _ _ _ _ _ | exact Kd.Q_nil _ _ _ _ _ | exact Kd.S_nil _ _ _ _ _⟩, ⟨Sh.rl (Kd.R_mono HO486.out (fun _ hk => (by simp [Value.ownBlock])))⟩, ⟨Sh.bw⟩⟩
 case round =>
  clear H'
  obtain ⟨x5_1, x12_1, rfl, HA, HK1, HO_5, HO_10, HB⟩ := hrel
  cases gk with
  | zero => exact absurd HA.out (by simp [spec_l11Reach.l0])
  | succ k1 =>
   have H := HA.out
   clear HA
   simp only [spec_l11Reach.l0] at H
   by_cases c6 : x12_1 < (t484.length : Int)
   ·rw [if_pos c6] at H
    have c6b0 := decide_eq_true c6
    clear c6
    by_cases c7 : 0 ≤ x12_1
    ·rw [if_pos c7] at H
     have c7b0 := decide_eq_true c7
     clear c7
     by_cases c8 : x12_1 < (t484.length : Int)
     ·rw [if_pos c8] at H
      have c8b0 := decide_eq_true c8
      clear c8
      by_cases c9 : (rd t484 x12_1) ≥ 0
      ·rw [if_pos c9] at H
       have c9b0 : decide (0 ≤ (rd t484 x12_1)) = true := decide_eq_true c9
       clear c9
       by_cases c10 : x5_1.length < 17592186044416
       ·rw [if_pos c10] at H
        have LMc10 := am_ c10
        clear c10
        obtain ⟨y488, hy488⟩ : ∃ y_ : List Int, y_ = (x5_1 ++ [x12_1]) := ⟨_, rfl⟩
        replace H : (spec_l11Reach.l0 k1 y488 t484 (t484.length : Int) (wrap64 (x12_1 + 1))) = some r := by first | (rw [hy488]; with_reducible exact H) | (have H2_ := (Option.bind_some _ _).symm.trans H; rw [hy488]; with_reducible exact H2_) | (have H2_ := (Option.bind_some _ _).symm.trans H; with_reducible exact H2_) | with_reducible exact H | (rw [hy488]; exact H) | exact H
        have Ny488 := am_ hy488
        clear hy488
        have H' := am_ H
        clear H
        have p487 : 0 ≤ (x12_1 : Int) := Sh.od
        have q487 : x12_1 < (t484.length : Int) := Sh.od
        obtain ⟨ad487, e487, hx487_0⟩ := Kd.at_int (Kd.R_reads' HO_10.out).2.2 x12_1 p487 q487
        cases e487
        replace p487 := eq_true p487
        replace q487 := eq_true q487
        go_wp2_with (first | ((with_reducible refine gate_builtin (b := .append) (xs := #[.tmp 19, .tmp 21]) rfl ?_); at_builtin; refine Kd.R_append (Kd.int .i64) (w0 := w) w.heap.size rfl (.tmp 19) (.tmp 21) 26 3 (.int .i64 0) 8 rfl Try.underlying26 info3 rfl (by decide) (by omega) u5 x5_1 x12_1 [.int .i64 x12_1] (fun k_ => some k_ ≠ (.slice (some ad487) t484.length co5 : Value).ownBlock) (fun _ => False) rfl rfl ?aP (fun _ hk => hk.elim) ?aF ?aO ?aB ?aS ?aL ?_; (case aP => exact rfl); (case aB => exact Sh.bw); (case aF => exact (fun k_ hk => Kd.fresh' (Kd.R_lt (Sh.rl HO_10.out)) k_ hk)); (case aO => exact (Sh.rl HO_5.out)); (case aS => exact (below_size Sh.bw)); (case aL => have := LMc10.out; omega); intro v489 w11 ho hb hg hat; rw [← Ny488.out] at ho; have n0_ := am_ (Kd.R_after (ok := (fun _ => True)) (Sh.rl (Kd.R_mono HO_10.out (fun _ hk => ⟨trivial, hk⟩))) hg hat); have n1_ := am_ hb; have n2_ := am_ ho; clear HO_10; clear HB; clear HO_5; have HO_10 := n0_; have HB := n1_; have HO490 := n2_; clear n0_ n1_ n2_; clear ho hb hg hat))
        go_roundg k1
        case measure => have := HK1.out; omega
        case rel => exact ⟨(y488), (wrap64 (x12_1 + 1)), (Sh.es), H', ⟨by have := HK1.out; omega⟩, ⟨Sh.rl HO490.out⟩, ⟨Sh.rl (Kd.R_mono HO_10.out (fun _ hk => hk.2))⟩, ⟨Sh.bw⟩⟩
       ·rw [if_neg c10] at H
        exact absurd H (by simp)
      ·rw [if_neg c9] at H
       have c9b0 : decide (0 ≤ (rd t484 x12_1)) = false := decide_eq_false c9
       clear c9
       have H' := am_ H
       clear H
       have p487 : 0 ≤ (x12_1 : Int) := Sh.od
       have q487 : x12_1 < (t484.length : Int) := Sh.od
       obtain ⟨ad487, e487, hx487_0⟩ := Kd.at_int (Kd.R_reads' HO_10.out).2.2 x12_1 p487 q487
       cases e487
       replace p487 := eq_true p487
       replace q487 := eq_true q487
       go_wp2
       go_roundg k1
       case measure => have := HK1.out; omega
       case rel => exact ⟨(x5_1), (wrap64 (x12_1 + 1)), (Sh.es), H', ⟨by have := HK1.out; omega⟩, ⟨Sh.rl HO_5.out⟩, ⟨Sh.rl HO_10.out⟩, ⟨Sh.bw⟩⟩
     ·rw [if_neg c8] at H
      exact absurd H (by simp)
    ·rw [if_neg c7] at H
     exact absurd H (by simp)
   ·rw [if_neg c6] at H
    have c6b0 := decide_eq_false c6
    clear c6
    obtain rfl := Option.some.inj H
    go_wp2
    go_ret
    exact ⟨_, Sh.eR, Sh.rl (Kd.R_mono HO_5.out (fun _ hk => trivial)), Sh.bw⟩
def spec_FairPoints.j0 : Nat → List (List Int) → Bool → List (List Int) → Option (List Int × Bool)
 | 0, _, _, _ => none
 | k + 1, x1, x16, x492000 => if x16 = true then (some (([] : List Int), false)) else ((spec_l11Turn.f k x492000).bind fun t494 => ((spec_l11Fair.f k x492000 x1).bind fun t497 => ((spec_l11Reach.f k t494 t497).bind fun t500 => (some (t500, true)))))
def spec_FairPoints.f (k : Nat) (l0_0 : List (List Int)) (l1 : List (List Int)) : Option (List Int × Bool) := (spec_GoodGraph.f k l0_0).bind fun t492 => (if t492 = true then ((spec_l11Goals.f k l1 (l0_0.length : Int)).bind fun t493 => (spec_FairPoints.j0 k l1 (!t493) l0_0)) else (spec_FairPoints.j0 k l1 true l0_0))
theorem spec_FairPoints.mono_l : ∀ k, (∀ y0 y1 y2, LeO (spec_FairPoints.j0 k y0 y1 y2) (spec_FairPoints.j0 (k + 1) y0 y1 y2))
 | 0 => fun _ _ _ r h => by simp [spec_FairPoints.j0] at h
 | k + 1 => by
  have ih0 := spec_FairPoints.mono_l k
  ·intro y0 y1 y2
   unfold spec_FairPoints.j0
   repeat' with_reducible first | apply ih0 | apply spec_GoodGraph.mono | apply spec_l11Fair.mono | apply spec_l11Goals.mono | apply spec_l11Reach.mono | apply spec_l11Turn.mono | exact LeO.refl _ | exact LeO.none _ | apply LeO.ite | refine LeO.bind ?_ fun _ => ?_
theorem spec_FairPoints.mono : ∀ a0 a1 k, LeO (spec_FairPoints.f k a0 a1) (spec_FairPoints.f (k + 1) a0 a1) := by
 intro a0 a1 k
 have ih0 := spec_FairPoints.mono_l k
 unfold spec_FairPoints.f
 repeat' with_reducible first | apply ih0 | apply spec_GoodGraph.mono | apply spec_l11Fair.mono | apply spec_l11Goals.mono | apply spec_l11Reach.mono | apply spec_l11Turn.mono | exact LeO.refl _ | exact LeO.none _ | apply LeO.ite | refine LeO.bind ?_ fun _ => ?_
def spec_FairPoints.T3 : Bool × List (List Nat × List Nat) := (true, [([], []), ([0], [0]), ([1], [1]), ([], []), ([3], [3]), ([], []), ([4, 5, 2], [4, 5]), ([2, 6, 6], [2, 6]), ([7, 7, 0, 1, 2, 3, 4, 5, 6, 7], [7]), ([8, 0, 1, 2, 3, 4, 5, 6, 7, 8], [])])
def spec_FairPoints.B3 : List Nat := [0, 1, 3, 0, 8, 0, 63, 127, 255, 511]
theorem spec_FairPoints.tab3 : rtab .any (opsOf Try.f19 3) = spec_FairPoints.T3 := by kernel_rfl
theorem spec_FairPoints.bits3 : waitsOk spec_FairPoints.T3.2 spec_FairPoints.B3 = true := by kernel_rfl
theorem spec_FairPoints.calls (k : Nat) (A0_0 : Option Addr) (c0_0 : Nat) (l0_0 : List (List Int)) (A1 : Option Addr) (c1 : Nat) (l1 : List (List Int)) (r1 : List Int) (r2 : Bool) (w : World) (hr0_0 : Kd.C (Kd.slice 3 (Kd.int .i64)) w A0_0 l0_0.length l0_0) (hc0_0 : l0_0.length ≤ c0_0) (hr1 : Kd.C (Kd.slice 3 (Kd.int .i64)) w A1 l1.length l1) (hc1 : l1.length ≤ c1) (h : spec_FairPoints.f k l0_0 l1 = some (r1, r2)) :
  Calls Try.prog 19 #[.agg #[.slice A0_0 l0_0.length c0_0], .slice A1 l1.length c1] w fun e w' => ∃ v0_ : Value, e = .returned (.tuple #[v0_, .bool r2]) ∧ Kd.R (Kd.int .i64) 3 w' w.heap.size (fun _ => True) v0_ r1 ∧ Below w.heap.size w w' := by
 have hu29 := Try.underlying29
 have HR0_0 := am_ hr0_0
 have HC0_0 := am_ hc0_0
 clear hr0_0 hc0_0
 have HR1 := am_ hr1
 have HC1 := am_ hc1
 clear hr1 hc1
 have HB := am_ (Below.refl w.heap.size w)
 have H := h
 clear h
 unfold spec_FairPoints.f at H
 have HC3 := am_ H
 clear H
 go_enter Try.func19, Try.ntmps19
 go_upto_region 1 with (first | ((with_reducible refine Sh.d 2 ?_); (try (refine gate_guard (by rfl) ?_; dsimp only)); refine Sh.bz w (N := 2) (cs := #[.slice A0_0 l0_0.length c0_0]) (t := 29) (h := ?_); clear HB; intro gb491 w4 BK491 GE491 HB))
 (try simp only [Act.put, List.setIfInBounds_toArray, List.set_cons_zero, List.set_cons_succ])
 go_cut [16] (fun v16 wc => ∃ (kq : Nat) (x16_2 : Bool), v16 = .bool x16_2 ∧ Aside0 (spec_FairPoints.j0 kq l1 x16_2 l0_0 = some (r1, r2)) ∧ Aside0 (kq ≤ k) ∧ Aside0 (wc.heap[gb491]? = some (.cells #[(.slice A0_0 l0_0.length c0_0)] 29 (0, 0))) ∧ Aside0 (Below w.heap.size w wc))
 case first =>
  have H := HC3.out
  clear HC3
  obtain ⟨t492, A5, H⟩ := Sh.ba H
  by_cases c6 : t492 = true
  ·subst c6
   rw [if_pos rfl] at H
   obtain ⟨t493, A7, H⟩ := Sh.ba H
   have H' := am_ H
   clear H
   have hcz8_0 := Sh.bc BK491.out 0
   have hfz8_0 := blk_frozen BK491.out 0
   go_wp2_with (first | ((with_reducible refine Sh.k 27 ?_); refine Sh.gB (some 7) Try.func27 #[.agg #[.slice A0_0 l0_0.length c0_0]] (spec_GoodGraph.calls k _ _ l0_0 true _ (Sh.cB HR0_0.out) HC0_0.out A5.out) fun w9 hb => ?_; replace BK491 := Sh.ab BK491 hb; replace HB := Sh.hb hb; (try clear hb); (try clear hb2); (try clear hk); (try clear hi); have hcz10_0 := Sh.bc BK491.out 0; have hfz10_0 := blk_frozen BK491.out 0) | (go_at_call 35; (with_reducible refine (spec_l11Goals.calls k _ _ l1 (l0_0.length : Int) t493 _ (Sh.cB HR1.out) HC1.out A7.out).mono ?_); rintro e w' ⟨rfl, ⟨nd, rfl⟩⟩))
   go_meet
   case rel => exact ⟨_, (!t493), (Sh.es), H', ⟨Sh.om⟩, ⟨by refine Sh.pl ?_; exact BK491.out⟩, ⟨Sh.bw⟩⟩
  ·replace c6 := Bool.eq_false_iff.mpr c6
   subst c6
   rw [Sh.nf] at H
   have H' := am_ H
   clear H
   have hcz11_0 := Sh.bc BK491.out 0
   have hfz11_0 := blk_frozen BK491.out 0
   go_wp2_with (first | ((with_reducible refine Sh.k 27 ?_); refine Sh.gB (some 7) Try.func27 #[.agg #[.slice A0_0 l0_0.length c0_0]] (spec_GoodGraph.calls k _ _ l0_0 false _ (Sh.cB HR0_0.out) HC0_0.out A5.out) fun w12 hb => ?_; replace BK491 := Sh.ab BK491 hb; replace HB := Sh.hb hb; (try clear hb); (try clear hb2); (try clear hk); (try clear hi)))
   go_meet
   case rel => exact ⟨_, (true), (Sh.es), H', ⟨Sh.om⟩, ⟨by refine Sh.pl ?_; exact BK491.out⟩, ⟨Sh.bw⟩⟩
 case rest =>
  clear HC3
  try clear hcz10_0
  try clear hcz11_0
  try clear hcz8_0
  try clear hfz10_0
  try clear hfz11_0
  try clear hfz8_0
  obtain ⟨kq, x16_2, rfl, HA, HJ2, BK491, HB⟩ := hcut
  cases kq with
  | zero => exact absurd HA.out (by simp [spec_FairPoints.j0])
  | succ kj2 =>
   have H := HA.out
   clear HA
   simp only [spec_FairPoints.j0] at H
   by_cases c13 : x16_2 = true
   ·subst c13
    rw [if_pos rfl] at H
    simp only [Option.some.injEq, Prod.mk.injEq] at H
    obtain ⟨rfl, rfl⟩ := H
    go_wp2
    go_ret2
    exact ⟨_, Sh.eR, by first | exact Kd.R_nil _ _ _ _ _ | exact Kd.N_nil _ _ _ _ _ | exact Kd.V_nil _ _ _ _ _ | exact Kd.Q_nil _ _ _ _ _ | exact Kd.S_nil _ _ _ _ _, Sh.bw⟩
   ·replace c13 := Bool.eq_false_iff.mpr c13
    subst c13
    rw [Sh.nf] at H
    obtain ⟨t494, A14, H⟩ := Sh.ba H
    obtain ⟨t497, A15, H⟩ := Sh.ba H
    obtain ⟨t500, A16, H⟩ := Sh.ba H
    simp only [Option.some.injEq, Prod.mk.injEq] at H
    obtain ⟨rfl, rfl⟩ := H
    try go_wp2
    replace BK491 := am_ (blk_drew BK491.out)
    replace HB := am_ (below_drew1 HB.out)
    refine start_ (n := 10) (S := fun w' => w'.cell? ⟨gb491, 0, none⟩ = some (.slice A0_0 l0_0.length c0_0)) (ds := []) (Sh.nm 10 0) (by kernel_rfl) rfl rfl ((blk_cell BK491.out 0).trans rfl) (fun hHeld => ?_); refine with_tabW spec_FairPoints.tab3 spec_FairPoints.bits3 (fun HT_ HW_ => ?_)
    generalize wc.drew = w17 at BK491 HB hHeld ⊢
    refine Sh.qA 0 ?_; refine Sh.qA 3 ?_; refine Sh.qA 5 ?_; refine Sh.qT 1 hHeld ?_; refine Sh.qT 4 hHeld ?_
    refine Sh.oC 2 Try.func37 #[.slice A0_0 l0_0.length c0_0] fun K hK => ?_
    with_reducible refine (spec_l11Turn.calls kj2 _ _ l0_0 t494 _ (Sh.cB HR0_0.out) HC0_0.out A14.out).mono ?_
    rintro e w18 ⟨v495, rfl, ho0, hb⟩
    refine ⟨_, rfl, ?_⟩
    have HO496 := am_ (Kd.S_lower ho0 (below_size Sh.bw))
    replace BK491 := Sh.ab BK491 hb
    replace HB := Sh.hb hb
    (try clear hb)
    (try clear hb2)
    (try clear hk)
    (try clear hi)
    (try clear ho0)
    refine hK.out _ _ ((blk_cell BK491.out 0).trans rfl) (fun hHeld => ?_)
    clear hK K
    refine norm_ (a' := ?_) ?_ ?_
    rotate_left
    ·show Act.put _ (some 19) _ = _
     simp only [Act.put, List.setIfInBounds_toArray, List.set_cons_zero, List.set_cons_succ, i64_w, i32_w]
     rfl
    refine Sh.oC 6 Try.func38 #[.slice A0_0 l0_0.length c0_0, .slice A1 l1.length c1] fun K hK => ?_
    with_reducible refine (spec_l11Fair.calls kj2 _ _ l0_0 _ _ l1 t497 _ (Sh.cB HR0_0.out) HC0_0.out (Sh.cB HR1.out) HC1.out A15.out).mono ?_
    rintro e w19 ⟨v498, rfl, ho0, hb⟩
    refine ⟨_, rfl, ?_⟩
    replace HO496 := am_ (Kd.S_elder' (by (with_reducible repeat (first | apply Kd.S_alloc | apply Kd.S_drewN | apply Kd.S_drew)); exact HO496.out) (Kd.R_base ho0) hb)
    have HO499 := am_ (Kd.R_lower ho0 (below_size Sh.bw))
    replace BK491 := Sh.ab BK491 hb
    replace HB := Sh.hb hb
    (try clear hb)
    (try clear hb2)
    (try clear hk)
    (try clear hi)
    (try clear ho0)
    obtain ⟨Ao20, co20, eo20⟩ := Kd.S_slice HO496.out
    (first | subst eo20 | (injection eo20 with f1_ f2_ f3_; have f4_ := f1_.symm; have f5_ := f3_.symm; clear f1_ f2_ f3_; subst f4_; subst f5_))
    obtain ⟨Ao21, co21, eo21⟩ := Kd.R_slice HO499.out
    (first | subst eo21 | (injection eo21 with f1_ f2_ f3_; have f4_ := f1_.symm; have f5_ := f3_.symm; clear f1_ f2_ f3_; subst f4_; subst f5_))
    refine hK.out _ _ ((blk_cell BK491.out 0).trans rfl) (fun hHeld => ?_)
    clear hK K
    refine norm_ (a' := ?_) ?_ ?_
    rotate_left
    ·show Act.put _ (some 23) _ = _
     simp only [Act.put, List.setIfInBounds_toArray, List.set_cons_zero, List.set_cons_succ, i64_w, i32_w]
     rfl
    refine Sh.oC 7 Try.func36 #[.slice Ao20 t494.length co20, .slice Ao21 t497.length co21] fun K hK => ?_
    with_reducible refine (spec_l11Reach.calls kj2 _ _ t494 _ _ t497 t500 _ (Sh.cR (Kd.S_reads' HO496.out).2.2) (Kd.S_reads' HO496.out).2.1 (Sh.cR (Kd.R_reads' HO499.out).2.2) (Kd.R_reads' HO499.out).2.1 A16.out).mono ?_
    rintro e w22 ⟨v501, rfl, ho0, hb⟩
    refine ⟨_, rfl, ?_⟩
    replace HO496 := am_ (Kd.S_elder' (by (with_reducible repeat (first | apply Kd.S_alloc | apply Kd.S_drewN | apply Kd.S_drew)); exact HO496.out) (Kd.R_base ho0) hb)
    have HO502 := am_ (Kd.R_lower (Kd.R_new' ho0 (Kd.R_lt (Sh.rl HO499.out))) (below_size Sh.bw))
    replace HO499 := am_ (Kd.R_elder' (Sh.rl HO499.out) (Kd.R_base ho0) hb)
    replace BK491 := Sh.ab BK491 hb
    replace HB := Sh.hb hb
    (try clear hb)
    (try clear hb2)
    (try clear hk)
    (try clear hi)
    (try clear ho0)
    refine hK.out _ _ ((blk_cell BK491.out 0).trans rfl) (fun hHeld => ?_)
    clear hK K
    refine norm_ (a' := ?_) ?_ ?_
    rotate_left
    ·show Act.put _ (some 24) _ = _
     simp only [Act.put, List.setIfInBounds_toArray, List.set_cons_zero, List.set_cons_succ, i64_w, i32_w]
     rfl
    refine Sh.qA 8 ?_; refine Sh.qA 9 ?_
    refine done_ (done_of HT_.out (by kernel_rfl)) ?_
    try go_wp2
    go_ret2
    exact ⟨_, Sh.eR, Sh.rl (Kd.R_mono HO502.out (fun _ hk => trivial)), Sh.bw⟩
theorem slices_IndexFunc_int_int_71.gen (g : Nat) (lb : Array Value) (eg : ∀ args w, (callFunc g args).run Try.prog w = .ok (.enter g args) w) (q : List Int → Option Bool) (A0 : Option Addr) (c0 : Nat) (l0 : List (List Int)) (r : Int) (w : World) (hr0 : Kd.C (Kd.slice 3 (Kd.int .i64)) w A0 l0.length l0) (hc0 : l0.length ≤ c0)
  (hp : ∀ (W : World) (x : List Int) (b : Bool) (A : Option Addr) (c : Nat), Below w.heap.size w W → x ∈ l0 → q x = some b → x.length ≤ c → Kd.C (Kd.int .i64) W A x.length x → Calls Try.prog g (#[.slice A x.length c] ++ lb) W fun e w' => e = .returned (.bool b) ∧ Below W.heap.size W w')
  (h : idxO q l0 0 = some r) : Calls Try.prog 71 #[.slice A0 l0.length c0, .func (.func g) #[] lb] w fun e w' => e = .returned (.int .i64 r) ∧ Below w.heap.size w w' := by
 have HR := am_ hr0
 have HP := am_ hp
 have HH := am_ h
 have hn : l0.length ≤ 9223372036854775807 := hr0.2.1
 clear hr0 hp h
 go_enter Try.func71, Try.ntmps71
 go_wp2
 go_loopg [5, 8] l0.length (fun gg _ s8 wr => ∃ kk : Nat, kk ≤ l0.length ∧ l0.length - kk ≤ gg ∧ s8 = .int .i64 kk ∧ Aside0 (idxO q (l0.drop kk) kk = some r) ∧ Aside0 (Below w.heap.size w wr))
 case atStart => exact ⟨0, Nat.zero_le _, by omega, rfl, HH, ⟨Below.refl _ _⟩⟩
 case round =>
  obtain ⟨kk, hkk, hg, rfl, HA, HB⟩ := hrel
  clear HH
  by_cases hlt : kk < l0.length
  ·have hltz : (kk : Int) < (l0.length : Int) := by omega
   have h0z : 0 ≤ (kk : Int) := by omega
   obtain ⟨ad, A1, c1, e, hx, hl1, hi1⟩ := at_L1 HR.out (kk : Int) h0z hltz
   have er : rd_L1 l0 (kk : Int) = l0.getD kk [] := by simp [rd_L1]
   rw [er] at hx hl1 hi1
   have hA := HA.out
   rw [drop_getD hlt []] at hA
   obtain ⟨b, hb, hA2⟩ := Option.bind_eq_some_iff.mp hA
   have HA2 := am_ hA2
   have hin := getD_in hlt ([] : List Int)
   have hcall := HP.out wr _ b A1 c1 HB.out hin hb hl1 (Kd.C_below hi1 HB.out)
   generalize l0.getD kk [] = y at hx hcall hl1 hi1
   clear HA hA hA2 hb er hin
   clear hl1 hi1
   cases e
   simp only [Int.toNat_natCast] at hx
   replace hx := (HB.out.cell (World.block_lt_of_cell? w _ hx)).trans hx
   cases b with
   | true =>
    go_wp2_with (go_at_fn g; refine hcall.mono ?_; rintro e w' ⟨rfl, hb2⟩)
    go_ret
    have h3 := HA2.out
    simp only [if_true] at h3
    exact ⟨by rw [← Option.some.inj h3]; rfl, below_step HB.out hb2⟩
   | false =>
    go_wp2_with (go_at_fn g; refine hcall.mono ?_; rintro e w' ⟨rfl, hb2⟩)
    go_roundg (l0.length - (kk + 1))
    case measure => omega
    case rel =>
     refine ⟨kk + 1, by omega, by omega, by go_num, ⟨by have h3 := HA2.out; simpa using h3⟩, ⟨below_step HB.out hb2⟩⟩
  ·have hltz : ¬ (kk : Int) < (l0.length : Int) := by omega
   have hA := HA.out
   rw [List.drop_of_length_le (by omega)] at hA
   have h4 : (-1 : Int) = r := Option.some.inj hA
   subst h4
   clear HA hA
   have : kk = l0.length := by omega
   subst this
   go_wp2
   go_ret
   exact ⟨rfl, HB.out⟩
theorem slices_ContainsFunc_int_int.gen (g : Nat) (lb : Array Value) (eg : ∀ args w, (callFunc g args).run Try.prog w = .ok (.enter g args) w) (q : List Int → Option Bool) (A0 : Option Addr) (c0 : Nat) (l0 : List (List Int)) (r : Bool) (w : World) (hr0 : Kd.C (Kd.slice 3 (Kd.int .i64)) w A0 l0.length l0) (hc0 : l0.length ≤ c0)
  (hp : ∀ (W : World) (x : List Int) (b : Bool) (A : Option Addr) (c : Nat), Below w.heap.size w W → x ∈ l0 → q x = some b → x.length ≤ c → Kd.C (Kd.int .i64) W A x.length x → Calls Try.prog g (#[.slice A x.length c] ++ lb) W fun e w' => e = .returned (.bool b) ∧ Below W.heap.size W w')
  (h : anyO q l0 = some r) : Calls Try.prog 52 #[.slice A0 l0.length c0, .func (.func g) #[] lb] w fun e w' => e = .returned (.bool r) ∧ Below w.heap.size w w' := by
 obtain ⟨i, hi, hd⟩ := idxO_of_anyO l0 r 0 (Int.le_refl 0) h
 have HC := am_ (slices_IndexFunc_int_int_71.gen g lb eg q A0 c0 l0 i w hr0 hc0 hp hi)
 have HD := am_ hd
 clear hr0 hp h hi hd
 go_enter Try.func52, Try.ntmps52
 go_wp2_with (go_at_call 71; refine HC.out.mono ?_; rintro e w' ⟨rfl, hb2⟩)
 go_ret
 exact ⟨by rw [← HD.out]; rfl, hb2⟩
def impl_isIncreasing.l0 : Nat → List Int → Int → List Int → Int → Int → Option (Bool)
 | 0, _, _, _, _, _ => none
 | k + 1, x0, x1, x7, x8, x9 => if x9 < x8 then (if 0 ≤ x9 then (if x9 < (x7.length : Int) then (if (rd x7 x9) < 0 then (some false) else (if (rd x7 x9) ≥ x1 then (some false) else (if x9 > 0 then (if 0 ≤ (wrap64 (x9 - 1)) then (if (wrap64 (x9 - 1)) < (x0.length : Int) then (if (rd x0 (wrap64 (x9 - 1))) ≥ (rd x7 x9) then (some false) else (impl_isIncreasing.l0 k x0 x1 x7 x8 (wrap64 (x9 + 1)))) else (none)) else (none)) else (impl_isIncreasing.l0 k x0 x1 x7 x8 (wrap64 (x9 + 1)))))) else (none)) else (none)) else (some true)
def impl_isIncreasing.f (k : Nat) (l0 : List Int) (a1 : Int) : Option (Bool) := impl_isIncreasing.l0 k l0 a1 l0 (l0.length : Int) 0
theorem impl_isIncreasing.mono_l : ∀ k, (∀ y0 y1 y2 y3 y4, LeO (impl_isIncreasing.l0 k y0 y1 y2 y3 y4) (impl_isIncreasing.l0 (k + 1) y0 y1 y2 y3 y4))
 | 0 => fun _ _ _ _ _ r h => by simp [impl_isIncreasing.l0] at h
 | k + 1 => by
  have ih0 := impl_isIncreasing.mono_l k
  ·intro y0 y1 y2 y3 y4
   unfold impl_isIncreasing.l0
   repeat' with_reducible first | apply ih0 | exact LeO.refl _ | exact LeO.none _ | apply LeO.ite | refine LeO.bind ?_ fun _ => ?_
theorem impl_isIncreasing.mono : ∀ a0 a1 k, LeO (impl_isIncreasing.f k a0 a1) (impl_isIncreasing.f (k + 1) a0 a1) := by
 intro a0 a1 k
 have ih0 := impl_isIncreasing.mono_l k
 unfold impl_isIncreasing.f
 repeat' with_reducible first | apply ih0 | exact LeO.refl _ | exact LeO.none _ | apply LeO.ite | refine LeO.bind ?_ fun _ => ?_
theorem impl_isIncreasing.calls (k : Nat) (A0 : Option Addr) (c0 : Nat) (l0 : List Int) (a1 : Int) (r : Bool) (w : World) (hr0 : Kd.C (Kd.int .i64) w A0 l0.length l0) (hc0 : l0.length ≤ c0) (h : impl_isIncreasing.f k l0 a1 = some r) :
  Calls Try.prog 46 #[.slice A0 l0.length c0, .int .i64 a1] w fun e w' => e = .returned (.bool r) ∧ Drawn0 w w' := by
 have HR0 := am_ hr0
 have HC0 := am_ hc0
 clear hr0 hc0
 have H := h
 clear h
 unfold impl_isIncreasing.f at H
 have H' := am_ H
 clear H
 go_enter Try.func46, Try.ntmps46
 go_wp2
 go_loopg [9] k (fun kq v9 w' => ∃ (x9_1 : Int), v9 = .int .i64 x9_1 ∧ Aside0 (impl_isIncreasing.l0 kq l0 a1 l0 (l0.length : Int) x9_1 = some r) ∧ Aside0 (kq ≤ k) ∧ Drawn0 w w')
 case atStart => exact ⟨(0), (Sh.es), H', ⟨Nat.le_refl _⟩, Sh.dr⟩
 case round =>
  clear H'
  obtain ⟨x9_1, rfl, HA, HK1, ⟨m1, rfl⟩⟩ := hrel
  cases gk with
  | zero => exact absurd HA.out (by simp [impl_isIncreasing.l0])
  | succ k1 =>
   have H := HA.out
   clear HA
   simp only [impl_isIncreasing.l0] at H
   by_cases c3 : x9_1 < (l0.length : Int)
   ·rw [if_pos c3] at H
    have c3b0 := decide_eq_true c3
    clear c3
    by_cases c4 : 0 ≤ x9_1
    ·rw [if_pos c4] at H
     have c4b0 := decide_eq_true c4
     clear c4
     by_cases c5 : x9_1 < (l0.length : Int)
     ·rw [if_pos c5] at H
      have c5b0 := decide_eq_true c5
      clear c5
      by_cases c6 : (rd l0 x9_1) < 0
      ·rw [if_pos c6] at H
       have c6b0 := decide_eq_true c6
       clear c6
       obtain rfl := Option.some.inj H
       have p326 : 0 ≤ (x9_1 : Int) := Sh.od
       have q326 : x9_1 < (l0.length : Int) := Sh.od
       obtain ⟨ad326, e326, hx326_0⟩ := Kd.at_int HR0.out x9_1 p326 q326
       cases e326
       replace p326 := eq_true p326
       replace q326 := eq_true q326
       go_wp2
       go_ret
       exact ⟨Sh.es, Sh.dr⟩
      ·rw [if_neg c6] at H
       have c6b0 := decide_eq_false c6
       clear c6
       by_cases c7 : (rd l0 x9_1) ≥ a1
       ·rw [if_pos c7] at H
        have c7b0 : decide (a1 ≤ (rd l0 x9_1)) = true := decide_eq_true c7
        clear c7
        obtain rfl := Option.some.inj H
        have p326 : 0 ≤ (x9_1 : Int) := Sh.od
        have q326 : x9_1 < (l0.length : Int) := Sh.od
        obtain ⟨ad326, e326, hx326_0⟩ := Kd.at_int HR0.out x9_1 p326 q326
        cases e326
        replace p326 := eq_true p326
        replace q326 := eq_true q326
        go_wp2
        go_ret
        exact ⟨Sh.es, Sh.dr⟩
       ·rw [if_neg c7] at H
        have c7b0 : decide (a1 ≤ (rd l0 x9_1)) = false := decide_eq_false c7
        clear c7
        by_cases c8 : x9_1 > 0
        ·rw [if_pos c8] at H
         have c8b0 : decide (0 < x9_1) = true := decide_eq_true c8
         clear c8
         obtain ⟨ji9, hj1⟩ : ∃ j_ : Int, (wrap64 (x9_1 - 1)) = j_ := ⟨_, rfl⟩
         replace H : (if 0 ≤ (ji9) then (if (ji9) < (l0.length : Int) then (if (rd l0 (ji9)) ≥ (rd l0 x9_1) then (some false) else (impl_isIncreasing.l0 k1 l0 a1 l0 (l0.length : Int) (wrap64 (x9_1 + 1)))) else (none)) else (none)) = some r := by first | (rw [hj1] at H; exact H) | (simp only [hj1] at H ⊢; exact H)
         have hji9w : (IntKind.i64.wrap (x9_1 - 1)) = ji9 := (i64_w _).trans hj1
         by_cases c10 : 0 ≤ (ji9)
         ·rw [if_pos c10] at H
          have c10b0 := decide_eq_true c10
          clear c10
          by_cases c11 : (ji9) < (l0.length : Int)
          ·rw [if_pos c11] at H
           have c11b0 := decide_eq_true c11
           clear c11
           by_cases c12 : (rd l0 (ji9)) ≥ (rd l0 x9_1)
           ·rw [if_pos c12] at H
            have c12b0 : decide ((rd l0 x9_1) ≤ (rd l0 (ji9))) = true := decide_eq_true c12
            clear c12
            obtain rfl := Option.some.inj H
            have p326 : 0 ≤ (x9_1 : Int) := Sh.od
            have q326 : x9_1 < (l0.length : Int) := Sh.od
            obtain ⟨ad326, e326, hx326_0⟩ := Kd.at_int HR0.out x9_1 p326 q326
            cases e326
            replace p326 := eq_true p326
            replace q326 := eq_true q326
            have p327 : 0 ≤ ((ji9) : Int) := Sh.od
            have q327 : (ji9) < (l0.length : Int) := Sh.od
            obtain ⟨ad327, e327, hx327_0⟩ := Kd.at_int HR0.out (ji9) p327 q327
            obtain rfl : ad326 = ad327 := (by injection e327)
            replace p327 := eq_true p327
            replace q327 := eq_true q327
            go_wp2
            go_ret
            exact ⟨by first | rfl | (simp; done) | (simp only [← hj1] <;> (first | rfl | simp)) | (simp [*]; done), Sh.dr⟩
           ·rw [if_neg c12] at H
            have c12b0 : decide ((rd l0 x9_1) ≤ (rd l0 (ji9))) = false := decide_eq_false c12
            clear c12
            have H' := am_ H
            clear H
            have p326 : 0 ≤ (x9_1 : Int) := Sh.od
            have q326 : x9_1 < (l0.length : Int) := Sh.od
            obtain ⟨ad326, e326, hx326_0⟩ := Kd.at_int HR0.out x9_1 p326 q326
            cases e326
            replace p326 := eq_true p326
            replace q326 := eq_true q326
            have p327 : 0 ≤ ((ji9) : Int) := Sh.od
            have q327 : (ji9) < (l0.length : Int) := Sh.od
            obtain ⟨ad327, e327, hx327_0⟩ := Kd.at_int HR0.out (ji9) p327 q327
            obtain rfl : ad326 = ad327 := (by injection e327)
            replace p327 := eq_true p327
            replace q327 := eq_true q327
            go_wp2
            go_roundg k1
            case measure => have := HK1.out; omega
            case rel => exact ⟨(wrap64 (x9_1 + 1)), (Sh.es), H', ⟨by have := HK1.out; omega⟩, Sh.dr⟩
          ·rw [if_neg c11] at H
           exact absurd H (by simp)
         ·rw [if_neg c10] at H
          exact absurd H (by simp)
        ·rw [if_neg c8] at H
         have c8b0 : decide (0 < x9_1) = false := decide_eq_false c8
         clear c8
         have H' := am_ H
         clear H
         have p326 : 0 ≤ (x9_1 : Int) := Sh.od
         have q326 : x9_1 < (l0.length : Int) := Sh.od
         obtain ⟨ad326, e326, hx326_0⟩ := Kd.at_int HR0.out x9_1 p326 q326
         cases e326
         replace p326 := eq_true p326
         replace q326 := eq_true q326
         go_wp2
         go_roundg k1
         case measure => have := HK1.out; omega
         case rel => exact ⟨(wrap64 (x9_1 + 1)), (Sh.es), H', ⟨by have := HK1.out; omega⟩, Sh.dr⟩
     ·rw [if_neg c5] at H
      exact absurd H (by simp)
    ·rw [if_neg c4] at H
     exact absurd H (by simp)
   ·rw [if_neg c3] at H
    have c3b0 := decide_eq_false c3
    clear c3
    obtain rfl := Option.some.inj H
    go_wp2
    go_ret
    exact ⟨Sh.es, Sh.dr⟩
def impl_areGoals_1.f (k : Nat) (l0 : List Int) (a1_0 : Int) : Option (Bool) := (impl_isIncreasing.f k l0 a1_0).bind fun t328 => (some (!t328))
theorem impl_areGoals_1.mono : ∀ a0 a1 k, LeO (impl_areGoals_1.f k a0 a1) (impl_areGoals_1.f (k + 1) a0 a1) := by
 intro a0 a1 k
 unfold impl_areGoals_1.f
 repeat' with_reducible first | apply impl_isIncreasing.mono | exact LeO.refl _ | exact LeO.none _ | apply LeO.ite | refine LeO.bind ?_ fun _ => ?_
theorem impl_areGoals_1.calls (k : Nat) (A0 : Option Addr) (c0 : Nat) (l0 : List Int) (bp1 : Nat) (a1_0 : Int) (r : Bool) (w : World) (hr0 : Kd.C (Kd.int .i64) w A0 l0.length l0) (hc0 : l0.length ≤ c0) (hb1 : w.heap[bp1]? = some (.cells #[.int .i64 a1_0] 3 (0, 0))) (h : impl_areGoals_1.f k l0 a1_0 = some r) :
  Calls Try.prog 53 #[.slice A0 l0.length c0, .pointer (some ⟨bp1, 0, none⟩)] w fun e w' => e = .returned (.bool r) ∧ Drawn0 w w' := by
 have HR0 := am_ hr0
 have HC0 := am_ hc0
 clear hr0 hc0
 have HX1 := am_ hb1
 clear hb1
 have H := h
 clear h
 unfold impl_areGoals_1.f at H
 obtain ⟨t328, A3, H⟩ := Sh.ba H
 obtain rfl := Option.some.inj H
 have hcz4_0 : w.cell? ⟨bp1, 0, none⟩ = some (.int .i64 a1_0) := (blk_cell HX1.out 0).trans rfl
 have hfz4_0 := blk_frozen HX1.out 0
 go_enter Try.func53, Try.ntmps53
 go_wp2_with (first | ((with_reducible refine Sh.k 46 ?_); refine Sh.gL (some 6) Try.func46 #[.slice A0 l0.length c0, .int .i64 a1_0] (h := ?_); (with_reducible refine (impl_isIncreasing.calls k _ _ l0 a1_0 t328 _ ?side1 ?side2 A3.out).mono ?_); (case side1 => repeat (first | exact HR0.out | (with_reducible first | refine Kd.C_alloc ?_ _ | refine Kd.C_drewN ?_ _ | refine Kd.C_drew ?_))); (case side2 => exact HC0.out); rintro e w' ⟨rfl, ⟨nd, rfl⟩⟩; refine ⟨_, rfl, ?_⟩))
 go_ret
 exact ⟨Sh.es, Sh.dr⟩
def slices_ContainsFunc_int_int_by_impl_areGoals_1.f (k : Nat) (l0 : List (List Int)) (a1_0 : Int) : Option (Bool) := anyO (fun x_ => impl_areGoals_1.f k x_ a1_0) l0
theorem slices_ContainsFunc_int_int_by_impl_areGoals_1.mono : ∀ a0 a1 k, LeO (slices_ContainsFunc_int_int_by_impl_areGoals_1.f k a0 a1) (slices_ContainsFunc_int_int_by_impl_areGoals_1.f (k + 1) a0 a1) := by
 intro a0 a1 k
 unfold slices_ContainsFunc_int_int_by_impl_areGoals_1.f
 with_reducible exact anyO_mono (fun x_ => impl_areGoals_1.mono x_ a1 k) a0
theorem slices_ContainsFunc_int_int_by_impl_areGoals_1.calls (k : Nat) (A0 : Option Addr) (c0 : Nat) (l0 : List (List Int)) (bp1 : Nat) (a1_0 : Int) (r : Bool) (w : World) (hr0 : Kd.C (Kd.slice 3 (Kd.int .i64)) w A0 l0.length l0) (hc0 : l0.length ≤ c0) (hb1 : w.heap[bp1]? = some (.cells #[.int .i64 a1_0] 3 (0, 0))) (h : slices_ContainsFunc_int_int_by_impl_areGoals_1.f k l0 a1_0 = some r) :
  Calls Try.prog 52 #[.slice A0 l0.length c0, .func (.func 53) #[] #[.pointer (some ⟨bp1, 0, none⟩)]] w fun e w' => e = .returned (.bool r) ∧ Below w.heap.size w w' := by
 refine slices_ContainsFunc_int_int.gen 53 #[.pointer (some ⟨bp1, 0, none⟩)] (enters_of Try.func53 (by kernel_rfl) rfl) _ A0 c0 l0 r w hr0 hc0 ?_ h
 intro W x b A c hB_ hin_ hq_ hl_ hC_
 refine (impl_areGoals_1.calls k _ _ x bp1 a1_0 b W hC_ hl_ ((hB_.block _ (blk_lt hb1)).trans hb1) hq_).mono ?_
 rintro e w' ⟨rfl, hd_⟩
 exact ⟨rfl, hd_.below⟩
def impl_areGoals.f (k : Nat) (l0 : List (List Int)) (a1 : Int) : Option (Bool) := if (l0.length : Int) ≤ 6 then ((slices_ContainsFunc_int_int_by_impl_areGoals_1.f k l0 a1).bind fun t330 => (some (!t330))) else (some false)
theorem impl_areGoals.mono : ∀ a0 a1 k, LeO (impl_areGoals.f k a0 a1) (impl_areGoals.f (k + 1) a0 a1) := by
 intro a0 a1 k
 unfold impl_areGoals.f
 repeat' with_reducible first | apply slices_ContainsFunc_int_int_by_impl_areGoals_1.mono | exact LeO.refl _ | exact LeO.none _ | apply LeO.ite | refine LeO.bind ?_ fun _ => ?_
theorem impl_areGoals.calls (k : Nat) (A0 : Option Addr) (c0 : Nat) (l0 : List (List Int)) (a1 : Int) (r : Bool) (w : World) (hr0 : Kd.C (Kd.slice 3 (Kd.int .i64)) w A0 l0.length l0) (hc0 : l0.length ≤ c0) (h : impl_areGoals.f k l0 a1 = some r) :
  Calls Try.prog 39 #[.slice A0 l0.length c0, .int .i64 a1] w fun e w' => e = .returned (.bool r) ∧ Below w.heap.size w w' := by
 have HR0 := am_ hr0
 have HC0 := am_ hc0
 clear hr0 hc0
 have HB := am_ (Below.refl w.heap.size w)
 have H := h
 clear h
 unfold impl_areGoals.f at H
 by_cases c3 : (l0.length : Int) ≤ 6
 ·rw [if_pos c3] at H
  have c3b0 := decide_eq_true c3
  have c3b1 : decide (l0.length ≤ 6) = true := decide_eq_true (by omega)
  clear c3
  obtain ⟨t330, A4, H⟩ := Sh.ba H
  obtain rfl := Option.some.inj H
  go_enter Try.func39, Try.ntmps39
  go_wp2_with (first | ((with_reducible refine Sh.d 3 ?_); refine Sh.bz w (N := 3) (cs := #[.int .i64 a1]) (t := 3) (h := ?_); clear HB; intro gb329 w5 BK329 GE329 HB) | (go_at_call 52; (with_reducible refine (slices_ContainsFunc_int_int_by_impl_areGoals_1.calls k _ _ l0 gb329 a1 t330 _ (Sh.cB HR0.out) HC0.out ?side3 A4.out).mono ?_); (case side3 => refine Sh.pl ?_; exact BK329.out); rintro e w6 ⟨rfl, hb⟩; replace BK329 := Sh.ab BK329 hb; replace HB := Sh.hb hb; (try clear hb); (try clear hb2); (try clear hk); (try clear hi)))
  go_ret
  exact ⟨Sh.eR, Sh.bw⟩
 ·rw [if_neg c3] at H
  have c3b0 := decide_eq_false c3
  have c3b1 : decide (l0.length ≤ 6) = false := decide_eq_false (by omega)
  clear c3
  obtain rfl := Option.some.inj H
  go_enter Try.func39, Try.ntmps39
  go_wp2_with (first | ((with_reducible refine Sh.d 3 ?_); refine Sh.bz w (N := 3) (cs := #[.int .i64 a1]) (t := 3) (h := ?_); clear HB; intro gb329 w7 BK329 GE329 HB))
  go_ret
  exact ⟨Sh.eR, Sh.bw⟩
def impl_GoodGraph.l0 : Nat → Int → List (List Int) → Int → Int → List (List Int) → Option (Bool)
 | 0, _, _, _, _, _ => none
 | k + 1, x3, x11, x12, x13, x332000 => if x13 < x12 then (if 0 ≤ x13 then (if x13 < (x11.length : Int) then ((impl_isIncreasing.f k (rd_L1 x11 x13) (x332000.length : Int)).bind fun t333 => (if t333 = true then (impl_GoodGraph.l0 k (wrap64 (x3 + ((rd_L1 x11 x13).length : Int))) x11 x12 (wrap64 (x13 + 1)) x332000) else (some false))) else (none)) else (none)) else (some (decide (x3 ≤ 20000)))
def impl_GoodGraph.f (k : Nat) (l0_0 : List (List Int)) : Option (Bool) := if (l0_0.length : Int) > 1200 then (some false) else (impl_GoodGraph.l0 k 0 l0_0 (l0_0.length : Int) 0 l0_0)
theorem impl_GoodGraph.mono_l : ∀ k, (∀ y0 y1 y2 y3 y4, LeO (impl_GoodGraph.l0 k y0 y1 y2 y3 y4) (impl_GoodGraph.l0 (k + 1) y0 y1 y2 y3 y4))
 | 0 => fun _ _ _ _ _ r h => by simp [impl_GoodGraph.l0] at h
 | k + 1 => by
  have ih0 := impl_GoodGraph.mono_l k
  ·intro y0 y1 y2 y3 y4
   unfold impl_GoodGraph.l0
   repeat' with_reducible first | apply ih0 | apply impl_isIncreasing.mono | exact LeO.refl _ | exact LeO.none _ | apply LeO.ite | refine LeO.bind ?_ fun _ => ?_
theorem impl_GoodGraph.mono : ∀ a0 k, LeO (impl_GoodGraph.f k a0) (impl_GoodGraph.f (k + 1) a0) := by
 intro a0 k
 have ih0 := impl_GoodGraph.mono_l k
 unfold impl_GoodGraph.f
 repeat' with_reducible first | apply ih0 | apply impl_isIncreasing.mono | exact LeO.refl _ | exact LeO.none _ | apply LeO.ite | refine LeO.bind ?_ fun _ => ?_
theorem impl_GoodGraph.calls (k : Nat) (A0_0 : Option Addr) (c0_0 : Nat) (l0_0 : List (List Int)) (r : Bool) (w : World) (hr0_0 : Kd.C (Kd.slice 3 (Kd.int .i64)) w A0_0 l0_0.length l0_0) (hc0_0 : l0_0.length ≤ c0_0) (h : impl_GoodGraph.f k l0_0 = some r) :
  Calls Try.prog 29 #[.agg #[.slice A0_0 l0_0.length c0_0]] w fun e w' => e = .returned (.bool r) ∧ Below w.heap.size w w' := by
 have hu29 := Try.underlying29
 have HR0_0 := am_ hr0_0
 have HC0_0 := am_ hc0_0
 clear hr0_0 hc0_0
 have HB := am_ (Below.refl w.heap.size w)
 have H := h
 clear h
 unfold impl_GoodGraph.f at H
 by_cases c2 : (l0_0.length : Int) > 1200
 ·rw [if_pos c2] at H
  have c2b0 : decide (1200 < (l0_0.length : Int)) = true := decide_eq_true c2
  have c2b1 : decide (1200 < l0_0.length) = true := decide_eq_true (by omega)
  clear c2
  obtain rfl := Option.some.inj H
  go_enter Try.func29, Try.ntmps29
  go_wp2_with (first | ((with_reducible refine Sh.d 1 ?_); refine Sh.bz w (N := 1) (cs := #[.slice A0_0 l0_0.length c0_0]) (t := 29) (h := ?_); clear HB; intro gb331 w3 BK331 GE331 HB; have hcz4_0 := Sh.bc BK331.out 0; have hfz4_0 := blk_frozen BK331.out 0))
  go_ret
  exact ⟨Sh.eR, Sh.bw⟩
 ·rw [if_neg c2] at H
  have c2b0 : decide (1200 < (l0_0.length : Int)) = false := decide_eq_false c2
  have c2b1 : decide (1200 < l0_0.length) = false := decide_eq_false (by omega)
  clear c2
  have H' := am_ H
  clear H
  go_enter Try.func29, Try.ntmps29
  go_wp2_with (first | ((with_reducible refine Sh.d 1 ?_); refine Sh.bz w (N := 1) (cs := #[.slice A0_0 l0_0.length c0_0]) (t := 29) (h := ?_); clear HB; intro gb331 w5 BK331 GE331 HB; have hcz6_0 := Sh.bc BK331.out 0; have hfz6_0 := blk_frozen BK331.out 0))
  go_loopg [3, 13] k (fun kq v3 v13 w' => ∃ (x3_1 : Int) (x13_1 : Int), v3 = .int .i64 x3_1 ∧ v13 = .int .i64 x13_1 ∧ Aside0 (impl_GoodGraph.l0 kq x3_1 l0_0 (l0_0.length : Int) x13_1 l0_0 = some r) ∧ Aside0 (kq ≤ k) ∧ Aside0 (w'.heap[gb331]? = some (.cells #[(.slice A0_0 l0_0.length c0_0)] 29 (0, 0))) ∧ Aside0 (Below w.heap.size w w'))
  case atStart => exact ⟨(0), (0), (Sh.es), (Sh.es), H', ⟨Nat.le_refl _⟩, ⟨by refine Sh.pl ?_; exact BK331.out⟩, ⟨Sh.bw⟩⟩
  case round =>
   clear H'
   try clear hcz4_0
   try clear hcz6_0
   try clear hfz4_0
   try clear hfz6_0
   obtain ⟨x3_1, x13_1, rfl, rfl, HA, HK1, BK331, HB⟩ := hrel
   cases gk with
   | zero => exact absurd HA.out (by simp [impl_GoodGraph.l0])
   | succ k1 =>
    have H := HA.out
    clear HA
    simp only [impl_GoodGraph.l0] at H
    by_cases c7 : x13_1 < (l0_0.length : Int)
    ·rw [if_pos c7] at H
     have c7b0 := decide_eq_true c7
     clear c7
     by_cases c8 : 0 ≤ x13_1
     ·rw [if_pos c8] at H
      have c8b0 := decide_eq_true c8
      clear c8
      by_cases c9 : x13_1 < (l0_0.length : Int)
      ·rw [if_pos c9] at H
       have c9b0 := decide_eq_true c9
       clear c9
       obtain ⟨t333, A10, H⟩ := Sh.ba H
       by_cases c11 : t333 = true
       ·subst c11
        rw [if_pos rfl] at H
        have H' := am_ H
        clear H
        have p332 : 0 ≤ (x13_1 : Int) := Sh.od
        have q332 : x13_1 < (l0_0.length : Int) := Sh.od
        obtain ⟨ad332, A332_0, c332_0, e332, hx332_0, hl332_0, hi332_0⟩ := at_L1 HR0_0.out x13_1 p332 q332
        cases e332
        try replace hx332_0 := Sh.cw hx332_0
        have HR332_0 := am_ hi332_0
        have HC332_0 := am_ hl332_0
        clear hi332_0 hl332_0
        replace p332 := eq_true p332
        replace q332 := eq_true q332
        have hcz12_0 := Sh.bc BK331.out 0
        have hfz12_0 := blk_frozen BK331.out 0
        go_wp2_with (first | ((with_reducible refine Sh.k 46 ?_); refine Sh.gD (some 21) Try.func46 #[.slice A332_0 (rd_L1 l0_0 x13_1).length c332_0, .int .i64 (l0_0.length : Int)] (impl_isIncreasing.calls k1 _ _ (rd_L1 l0_0 x13_1) (l0_0.length : Int) true _ (Sh.cB HR332_0.out) HC332_0.out A10.out) fun nd => ?_))
        go_roundg k1
        case measure => have := HK1.out; omega
        case rel => exact ⟨(wrap64 (x3_1 + ((rd_L1 l0_0 x13_1).length : Int))), (wrap64 (x13_1 + 1)), (Sh.es), (Sh.es), H', ⟨by have := HK1.out; omega⟩, ⟨by refine Sh.pl ?_; exact BK331.out⟩, ⟨Sh.bw⟩⟩
       ·replace c11 := Bool.eq_false_iff.mpr c11
        subst c11
        rw [Sh.nf] at H
        obtain rfl := Option.some.inj H
        have p332 : 0 ≤ (x13_1 : Int) := Sh.od
        have q332 : x13_1 < (l0_0.length : Int) := Sh.od
        obtain ⟨ad332, A332_0, c332_0, e332, hx332_0, hl332_0, hi332_0⟩ := at_L1 HR0_0.out x13_1 p332 q332
        cases e332
        try replace hx332_0 := Sh.cw hx332_0
        have HR332_0 := am_ hi332_0
        have HC332_0 := am_ hl332_0
        clear hi332_0 hl332_0
        replace p332 := eq_true p332
        replace q332 := eq_true q332
        have hcz13_0 := Sh.bc BK331.out 0
        have hfz13_0 := blk_frozen BK331.out 0
        go_wp2_with (first | ((with_reducible refine Sh.k 46 ?_); refine Sh.gD (some 21) Try.func46 #[.slice A332_0 (rd_L1 l0_0 x13_1).length c332_0, .int .i64 (l0_0.length : Int)] (impl_isIncreasing.calls k1 _ _ (rd_L1 l0_0 x13_1) (l0_0.length : Int) false _ (Sh.cB HR332_0.out) HC332_0.out A10.out) fun nd => ?_))
        go_ret
        exact ⟨Sh.eR, Sh.bw⟩
      ·rw [if_neg c9] at H
       exact absurd H (by simp)
     ·rw [if_neg c8] at H
      exact absurd H (by simp)
    ·rw [if_neg c7] at H
     have c7b0 := decide_eq_false c7
     clear c7
     obtain rfl := Option.some.inj H
     go_wp2
     go_ret
     exact ⟨Sh.eR, Sh.bw⟩
mutual
def impl_fairVertices.l0 : Nat → List (List Int) → List Int → Int → List Bool → List Bool → List (List Int) → Int → Int → Option (List Bool)
 | 0, _, _, _, _, _, _, _, _ => none
 | k + 1, x1, x5, x6, x7, x8, x28, x29, x30 => if x30 < x29 then (if 0 ≤ x30 then (if x30 < (x28.length : Int) then (impl_fairVertices.l1 k x1 x5 x6 x7 x8 x30 x28 x29 x30 (rd_L1 x28 x30) ((rd_L1 x28 x30).length : Int) 0) else (none)) else (none)) else (impl_fairVertices.l2 k x5 x6 x7 x8 x1 (x1.length : Int) 0)
def impl_fairVertices.l1 : Nat → List (List Int) → List Int → Int → List Bool → List Bool → Int → List (List Int) → Int → Int → List Int → Int → Int → Option (List Bool)
 | 0, _, _, _, _, _, _, _, _, _, _, _, _ => none
 | k + 1, x1, x5, x6, x7, x8, x9, x28, x29, x30, x35, x36, x37 => if x37 < x36 then (if 0 ≤ x37 then (if x37 < (x35.length : Int) then (if 0 ≤ x9 then (if x9 < (x5.length : Int) then (if 0 ≤ (rd x5 x9) then (if (rd x5 x9) < (x7.length : Int) then (if rdOf false x7 (rd x5 x9) = true then (impl_fairVertices.l1 k x1 x5 x6 (x7.set ((rd x5 x9) : Int).toNat true) x8 x9 x28 x29 x30 x35 x36 (wrap64 (x37 + 1))) else (if 0 ≤ (rd x35 x37) then (if (rd x35 x37) < (x5.length : Int) then (impl_fairVertices.l1 k x1 x5 x6 (x7.set ((rd x5 x9) : Int).toNat ((rd x5 (rd x35 x37)) == (rd x5 x9))) x8 x9 x28 x29 x30 x35 x36 (wrap64 (x37 + 1))) else (none)) else (none))) else (none)) else (none)) else (none)) else (none)) else (none)) else (none)) else (impl_fairVertices.l0 k x1 x5 x6 x7 x8 x28 x29 (wrap64 (x30 + 1)))
def impl_fairVertices.l2 : Nat → List Int → Int → List Bool → List Bool → List (List Int) → Int → Int → Option (List Bool)
 | 0, _, _, _, _, _, _, _ => none
 | k + 1, x5, x6, x7, x8, x67, x68, x69 => if x69 < x68 then (if 0 ≤ x69 then (if x69 < (x67.length : Int) then (if 0 ≤ x6 then (if (x6 : Int).toNat ≤ 281474976710656 then (impl_fairVertices.l3 k x5 x6 x7 x8 (List.replicate (x6 : Int).toNat false) x67 x68 x69 (rd_L1 x67 x69) ((rd_L1 x67 x69).length : Int) 0) else (none)) else (none)) else (none)) else (none)) else (impl_fairVertices.l5 k x5 x7 x8 (x8.length : Int) 0)
def impl_fairVertices.l3 : Nat → List Int → Int → List Bool → List Bool → List Bool → List (List Int) → Int → Int → List Int → Int → Int → Option (List Bool)
 | 0, _, _, _, _, _, _, _, _, _, _, _ => none
 | k + 1, x5, x6, x7, x8, x15, x67, x68, x69, x75, x76, x77 => if x77 < x76 then (if 0 ≤ x77 then (if x77 < (x75.length : Int) then (if 0 ≤ (rd x75 x77) then (if (rd x75 x77) < (x5.length : Int) then (if 0 ≤ (rd x5 (rd x75 x77)) then (if (rd x5 (rd x75 x77)) < (x15.length : Int) then (impl_fairVertices.l3 k x5 x6 x7 x8 (x15.set ((rd x5 (rd x75 x77)) : Int).toNat true) x67 x68 x69 x75 x76 (wrap64 (x77 + 1))) else (none)) else (none)) else (none)) else (none)) else (none)) else (none)) else (impl_fairVertices.l4 k x5 x6 x7 x8 x15 x67 x68 x69 (x7.length : Int) 0)
def impl_fairVertices.l4 : Nat → List Int → Int → List Bool → List Bool → List Bool → List (List Int) → Int → Int → Int → Int → Option (List Bool)
 | 0, _, _, _, _, _, _, _, _, _, _ => none
 | k + 1, x5, x6, x7, x8, x15, x67, x68, x69, x89, x90 => if x90 < x89 then (if 0 ≤ x90 then (if x90 < (x7.length : Int) then (if rdOf false x7 x90 = true then (if x90 < (x15.length : Int) then (impl_fairVertices.l4 k x5 x6 (x7.set (x90 : Int).toNat (rdOf false x15 x90)) x8 x15 x67 x68 x69 x89 (wrap64 (x90 + 1))) else (none)) else (impl_fairVertices.l4 k x5 x6 (x7.set (x90 : Int).toNat false) x8 x15 x67 x68 x69 x89 (wrap64 (x90 + 1)))) else (none)) else (none)) else (impl_fairVertices.l2 k x5 x6 x7 x8 x67 x68 (wrap64 (x69 + 1)))
def impl_fairVertices.l5 : Nat → List Int → List Bool → List Bool → Int → Int → Option (List Bool)
 | 0, _, _, _, _, _ => none
 | k + 1, x5, x7, x8, x109, x110 => if x110 < x109 then (if 0 ≤ x110 then (if x110 < (x5.length : Int) then (if 0 ≤ (rd x5 x110) then (if (rd x5 x110) < (x7.length : Int) then (if x110 < (x8.length : Int) then (impl_fairVertices.l5 k x5 x7 (x8.set (x110 : Int).toNat (rdOf false x7 (rd x5 x110))) x109 (wrap64 (x110 + 1))) else (none)) else (none)) else (none)) else (none)) else (none)) else (some x8)
end
def impl_fairVertices.f (k : Nat) (l0 : List (List Int)) (l1 : List (List Int)) : Option (List Bool) := (impl_parts.f k l0).bind fun t342 => (if 0 ≤ (l0.length : Int) then (if ((l0.length : Int) : Int).toNat ≤ 281474976710656 then (impl_fairVertices.l0 k l1 t342 (l0.length : Int) (List.replicate ((l0.length : Int) : Int).toNat false) (List.replicate ((l0.length : Int) : Int).toNat false) l0 (l0.length : Int) 0) else (none)) else (none))
theorem impl_fairVertices.mono_l : ∀ k, (∀ y0 y1 y2 y3 y4 y5 y6 y7, LeO (impl_fairVertices.l0 k y0 y1 y2 y3 y4 y5 y6 y7) (impl_fairVertices.l0 (k + 1) y0 y1 y2 y3 y4 y5 y6 y7)) ∧ (∀ y0 y1 y2 y3 y4 y5 y6 y7 y8 y9 y10 y11, LeO (impl_fairVertices.l1 k y0 y1 y2 y3 y4 y5 y6 y7 y8 y9 y10 y11) (impl_fairVertices.l1 (k + 1) y0 y1 y2 y3 y4 y5 y6 y7 y8 y9 y10 y11)) ∧ (∀ y0 y1 y2 y3 y4 y5 y6, LeO (impl_fairVertices.l2 k y0 y1 y2 y3 y4 y5 y6) (impl_fairVertices.l2 (k + 1) y0 y1 y2 y3 y4 y5 y6)) ∧ (∀ y0 y1 y2 y3 y4 y5 y6 y7 y8 y9 y10, LeO (impl_fairVertices.l3 k y0 y1 y2 y3 y4 y5 y6 y7 y8 y9 y10) (impl_fairVertices.l3 (k + 1) y0 y1 y2 y3 y4 y5 y6 y7 y8 y9 y10)) ∧ (∀ y0 y1 y2 y3 y4 y5 y6 y7 y8 y9, LeO (impl_fairVertices.l4 k y0 y1 y2 y3 y4 y5 y6 y7 y8 y9) (impl_fairVertices.l4 (k + 1) y0 y1 y2 y3 y4 y5 y6 y7 y8 y9)) ∧ (∀ y0 y1 y2 y3 y4, LeO (impl_fairVertices.l5 k y0 y1 y2 y3 y4) (impl_fairVertices.l5 (k + 1) y0 y1 y2 y3 y4))
 | 0 => ⟨fun _ _ _ _ _ _ _ _ r h => by simp [impl_fairVertices.l0] at h, fun _ _ _ _ _ _ _ _ _ _ _ _ r h => by simp [impl_fairVertices.l1] at h, fun _ _ _ _ _ _ _ r h => by simp [impl_fairVertices.l2] at h, fun _ _ _ _ _ _ _ _ _ _ _ r h => by simp [impl_fairVertices.l3] at h, fun _ _ _ _ _ _ _ _ _ _ r h => by simp [impl_fairVertices.l4] at h, fun _ _ _ _ _ r h => by simp [impl_fairVertices.l5] at h⟩
 | k + 1 => by
  obtain ⟨ih0, ih1, ih2, ih3, ih4, ih5⟩ := impl_fairVertices.mono_l k
  and_intros <;> intros
  all_goals (first | unfold impl_fairVertices.l0 | unfold impl_fairVertices.l1 | unfold impl_fairVertices.l2 | unfold impl_fairVertices.l3 | unfold impl_fairVertices.l4 | unfold impl_fairVertices.l5)
  all_goals repeat' with_reducible first | apply ih0 | apply ih1 | apply ih2 | apply ih3 | apply ih4 | apply ih5 | apply impl_parts.mono | exact LeO.refl _ | exact LeO.none _ | apply LeO.ite | refine LeO.bind ?_ fun _ => ?_
theorem impl_fairVertices.mono : ∀ a0 a1 k, LeO (impl_fairVertices.f k a0 a1) (impl_fairVertices.f (k + 1) a0 a1) := by
 intro a0 a1 k
 obtain ⟨ih0, ih1, ih2, ih3, ih4, ih5⟩ := impl_fairVertices.mono_l k
 unfold impl_fairVertices.f
 repeat' with_reducible first | apply ih0 | apply ih1 | apply ih2 | apply ih3 | apply ih4 | apply ih5 | apply impl_parts.mono | exact LeO.refl _ | exact LeO.none _ | apply LeO.ite | refine LeO.bind ?_ fun _ => ?_
def impl_fairVertices.T9 : Bool × List (List Nat × List Nat) := (true, [([], []), ([], []), ([], []), ([1, 2], [1, 2]), ([3], [3]), ([], []), ([], []), ([], []), ([6, 7], [6, 7]), ([8], [8]), ([5, 9], [5, 9]), ([10], [10]), ([11], [11]), ([12], [12]), ([12], [12]), ([13, 14, 12], [12, 13, 14]), ([15, 12], [12, 15]), ([12], [12]), ([12], [12]), ([17, 18, 12], [12, 17, 18]), ([19, 12], [12, 19]), ([16, 20, 12], [12, 16, 20]), ([12, 21], [12, 21]), ([0, 4, 0, 1, 2, 3, 4, 5, 6, 7, 8, 9, 10, 11, 12, 13, 14, 15, 16, 17, 18, 19, 20, 21, 22], [0, 4]), ([23, 22, 12, 0, 1, 2, 3, 4, 5, 6, 7, 8, 9, 10, 11, 12, 13, 14, 15, 16, 17, 18, 19, 20, 21, 22], [22, 23])])
def impl_fairVertices.B9 : List Nat := [0, 0, 0, 6, 14, 0, 0, 0, 192, 448, 992, 2016, 4064, 8160, 8160, 32736, 65504, 8160, 8160, 401376, 925664, 2097120, 4194272, 8388607, 16777215]
theorem impl_fairVertices.tab9 : rtab .any (opsOf Try.f57 9) = impl_fairVertices.T9 := by kernel_rfl
theorem impl_fairVertices.bits9 : waitsOk impl_fairVertices.T9.2 impl_fairVertices.B9 = true := by kernel_rfl
theorem impl_fairVertices.calls (k : Nat) (A0 : Option Addr) (c0 : Nat) (l0 : List (List Int)) (A1 : Option Addr) (c1 : Nat) (l1 : List (List Int)) (r : List Bool) (w : World) (hr0 : Kd.C (Kd.slice 3 (Kd.int .i64)) w A0 l0.length l0) (hc0 : l0.length ≤ c0) (hr1 : Kd.C (Kd.slice 3 (Kd.int .i64)) w A1 l1.length l1) (hc1 : l1.length ≤ c1) (h : impl_fairVertices.f k l0 l1 = some r) :
  Calls Try.prog 57 #[.slice A0 l0.length c0, .slice A1 l1.length c1] w fun e w' => ∃ v0_ : Value, e = .returned (v0_) ∧ Kd.R Kd.bool 4 w' w.heap.size (fun _ => True) v0_ r ∧ Below w.heap.size w w' := by
 have HR0 := am_ hr0
 have HC0 := am_ hc0
 clear hr0 hc0
 have HR1 := am_ hr1
 have HC1 := am_ hc1
 clear hr1 hc1
 have HB := am_ (Below.refl w.heap.size w)
 have H := h
 clear h
 unfold impl_fairVertices.f at H
 obtain ⟨t342, A3, H⟩ := Sh.ba H
 by_cases c4 : 0 ≤ (l0.length : Int)
 ·rw [if_pos c4] at H
  have c4b0 := eq_true c4
  have c4b1 := decide_eq_true c4
  clear c4
  by_cases c5 : ((l0.length : Int) : Int).toNat ≤ 281474976710656
  ·rw [if_pos c5] at H
   have c5b0 := eq_true c5
   have c5b1 := decide_eq_true c5
   clear c5
   obtain ⟨y345, hy345⟩ : ∃ y_ : List Bool, y_ = (List.replicate ((l0.length : Int) : Int).toNat false) := ⟨_, rfl⟩
   replace H : (impl_fairVertices.l0 k l1 t342 (l0.length : Int) y345 (List.replicate ((l0.length : Int) : Int).toNat false) l0 (l0.length : Int) 0) = some r := by first | (rw [hy345]; with_reducible exact H) | (have H2_ := (Option.bind_some _ _).symm.trans H; rw [hy345]; with_reducible exact H2_) | (have H2_ := (Option.bind_some _ _).symm.trans H; with_reducible exact H2_) | with_reducible exact H | (rw [hy345]; exact H) | exact H
   have Ny345 := am_ hy345
   clear hy345
   obtain ⟨y348, hy348⟩ : ∃ y_ : List Bool, y_ = (List.replicate ((l0.length : Int) : Int).toNat false) := ⟨_, rfl⟩
   replace H : (impl_fairVertices.l0 k l1 t342 (l0.length : Int) y345 y348 l0 (l0.length : Int) 0) = some r := by first | (rw [hy348]; with_reducible exact H) | (have H2_ := (Option.bind_some _ _).symm.trans H; rw [hy348]; with_reducible exact H2_) | (have H2_ := (Option.bind_some _ _).symm.trans H; with_reducible exact H2_) | with_reducible exact H | (rw [hy348]; exact H) | exact H
   have Ny348 := am_ hy348
   clear hy348
   have H' := am_ H
   clear H
   go_enter Try.func57, Try.ntmps57
   try go_wp2_with (first | ((with_reducible refine Sh.k 30 ?_); refine Sh.gL (some 21) Try.func30 #[.slice A0 l0.length c0] (h := ?_); (with_reducible refine (impl_parts.calls k _ _ l0 t342 _ ?side1 ?side2 A3.out).mono ?_); (case side1 => repeat (first | exact HR0.out | (with_reducible first | refine Kd.C_alloc ?_ _ | refine Kd.C_drewN ?_ _ | refine Kd.C_drew ?_))); (case side2 => exact HC0.out); rintro e w6 ⟨v343, rfl, ho0, hb⟩; refine ⟨_, rfl, ?_⟩; have HO344 := am_ (Kd.R_lower ho0 (below_size Sh.bw)); replace HB := Sh.hb hb; (try clear hb); (try clear hb2); (try clear hk); (try clear hi); (try clear ho0)))
   replace HO344 := am_ (Kd.R_drew HO344.out)
   replace HB := am_ (below_drew1 HB.out)
   refine start_ (n := 6) (S := fun w' => True) (ds := []) (Sh.nm 6 0) (by kernel_rfl) rfl rfl trivial (fun hHeld => ?_)
   generalize w6.drew = w7 at HO344 HB hHeld ⊢
   refine Sh.pA 0 24 (Sh.nm 6 1) (by kernel_rfl) ?_
   refine Sh.pA 2 26 (Sh.nm 6 5) (by kernel_rfl) ?_
   refine join_ (σ := Value × Value) 1 (Sh.nm 6 31) (fun s_ => [(25, s_.1), (27, s_.2), (7, s_.1)]) (fun s_ w' => (Kd.R (Kd.int .i64) 3 w' w.heap.size (fun _ => True) v343 t342) ∧ (Kd.R Kd.bool 4 w' w.heap.size (fun k_ => some k_ ≠ (s_.2 : Value).ownBlock) s_.1 y345) ∧ (Kd.R Kd.bool 4 w' w.heap.size (fun k_ => some k_ ≠ (s_.1 : Value).ownBlock) s_.2 y348) ∧ (Below w.heap.size w w')) ?_ ?_
   rotate_left
   ·intro hCont
    refine two_ (i := 1) (j := 3) (Ni := some 25) (Nj := some 27) (Sh.nm 6 7) (Sh.nm 6 13) rfl rfl rfl rfl (by kernel_rfl) (by decide) (by decide) (fun K hK => ?_) (fun K hK => ?_)
    ·skip
     refine Kd.R_make_step Kd.bool _ 4 (by rfl) (N := 25) rfl 56 _ _ rfl (l0.length : Int) rfl rfl Try.underlying56 (.bool false) 1 info4 rfl (by decide) (by omega) false (ok := fun _ => True) (okp := fun _ => True) rfl (fun _ hk => hk) trivial (of_decide_eq_true (by first | (with_reducible assumption) | assumption)) (Nat.le_trans (Nat.mul_le_mul_right _ (of_decide_eq_true (by first | (with_reducible assumption) | assumption) : (l0.length : Int).toNat ≤ 281474976710656)) (by omega)) (Below.refl _ _) (Nat.le_refl _) ?_
     intro v346 w8 ho9 hb hg_ hnew_
     clear hg_ hnew_
     (first | rw [← Ny345.out] at ho9 | (simp only [Int.reduceToNat] at ho9; rw [← Ny345.out] at ho9))
     replace HO344 := am_ (Kd.R_below (Sh.rl HO344.out) hb)
     have HO347 := am_ (Kd.R_lower ho9 (below_size Sh.bw))
     replace HB := Sh.hb hb
     clear hb ho9
     refine hK.out _ _ trivial (fun hHeld => ?_)
     clear hK K
     refine norm_ (a' := ?_) ?_ ?_
     rotate_left
     ·show Act.put _ (some 25) _ = _
      simp only [Act.put, List.setIfInBounds_toArray, List.set_cons_zero, List.set_cons_succ, i64_w, i32_w]
      rfl
     refine Sh.pA 4 7 (Sh.nm 6 23) (by kernel_rfl) ?_
     refine one_ (i := 3) (N := some 27) (Sh.nm 6 31) rfl rfl (by kernel_rfl) (by decide) (fun K hK => ?_)
     refine Kd.R_make_step Kd.bool _ 4 (by rfl) (N := 27) rfl 56 _ _ rfl (l0.length : Int) rfl rfl Try.underlying56 (.bool false) 1 info4 rfl (by decide) (by omega) false (ok := fun _ => True) (okp := fun _ => True) rfl (fun _ hk => hk) trivial (of_decide_eq_true (by first | (with_reducible assumption) | assumption)) (Nat.le_trans (Nat.mul_le_mul_right _ (of_decide_eq_true (by first | (with_reducible assumption) | assumption) : (l0.length : Int).toNat ≤ 281474976710656)) (by omega)) (Below.refl _ _) (Nat.le_refl _) ?_
     intro v349 w10 ho11 hb hg_ hnew_
     clear hg_ hnew_
     (first | rw [← Ny348.out] at ho11 | (simp only [Int.reduceToNat] at ho11; rw [← Ny348.out] at ho11))
     replace HO344 := am_ (Kd.R_below (Sh.rl HO344.out) hb)
     have HO350 := am_ (Kd.R_lower (Kd.R_new' ho11 (Kd.R_lt (Sh.rl HO347.out))) (below_size Sh.bw))
     replace HO347 := am_ (Kd.R_elder' (Sh.rl HO347.out) (Kd.R_base ho11) hb)
     replace HB := Sh.hb hb
     clear hb ho11
     refine hK.out _ _ trivial (fun hHeld => ?_)
     clear hK K
     refine norm_ (a' := ?_) ?_ ?_
     rotate_left
     ·show Act.put _ (some 27) _ = _
      simp only [Act.put, List.setIfInBounds_toArray, List.set_cons_zero, List.set_cons_succ, i64_w, i32_w]
      rfl
     exact norm_ (by simp only [putAll, Act.put, List.setIfInBounds_toArray, List.set_cons_zero, List.set_cons_succ]) (hCont (v346, v349) _ ⟨(Sh.rl HO344.out), (Sh.rl (Kd.R_mono HO347.out (fun _ hk => hk.2))), (Sh.rl (Kd.R_mono HO350.out (fun _ hk => hk.2))), Sh.bw⟩)
    ·skip
     refine Kd.R_make_step Kd.bool _ 4 (by rfl) (N := 27) rfl 56 _ _ rfl (l0.length : Int) rfl rfl Try.underlying56 (.bool false) 1 info4 rfl (by decide) (by omega) false (ok := fun _ => True) (okp := fun _ => True) rfl (fun _ hk => hk) trivial (of_decide_eq_true (by first | (with_reducible assumption) | assumption)) (Nat.le_trans (Nat.mul_le_mul_right _ (of_decide_eq_true (by first | (with_reducible assumption) | assumption) : (l0.length : Int).toNat ≤ 281474976710656)) (by omega)) (Below.refl _ _) (Nat.le_refl _) ?_
     intro v349 w8 ho9 hb hg_ hnew_
     clear hg_ hnew_
     (first | rw [← Ny348.out] at ho9 | (simp only [Int.reduceToNat] at ho9; rw [← Ny348.out] at ho9))
     replace HO344 := am_ (Kd.R_below (Sh.rl HO344.out) hb)
     have HO350 := am_ (Kd.R_lower ho9 (below_size Sh.bw))
     replace HB := Sh.hb hb
     clear hb ho9
     refine hK.out _ _ trivial (fun hHeld => ?_)
     clear hK K
     refine norm_ (a' := ?_) ?_ ?_
     rotate_left
     ·show Act.put _ (some 27) _ = _
      simp only [Act.put, List.setIfInBounds_toArray, List.set_cons_zero, List.set_cons_succ, i64_w, i32_w]
      rfl
     refine one_ (i := 1) (N := some 25) (Sh.nm 6 15) rfl rfl (by kernel_rfl) (by decide) (fun K hK => ?_)
     refine Kd.R_make_step Kd.bool _ 4 (by rfl) (N := 25) rfl 56 _ _ rfl (l0.length : Int) rfl rfl Try.underlying56 (.bool false) 1 info4 rfl (by decide) (by omega) false (ok := fun _ => True) (okp := fun _ => True) rfl (fun _ hk => hk) trivial (of_decide_eq_true (by first | (with_reducible assumption) | assumption)) (Nat.le_trans (Nat.mul_le_mul_right _ (of_decide_eq_true (by first | (with_reducible assumption) | assumption) : (l0.length : Int).toNat ≤ 281474976710656)) (by omega)) (Below.refl _ _) (Nat.le_refl _) ?_
     intro v346 w10 ho11 hb hg_ hnew_
     clear hg_ hnew_
     (first | rw [← Ny345.out] at ho11 | (simp only [Int.reduceToNat] at ho11; rw [← Ny345.out] at ho11))
     replace HO344 := am_ (Kd.R_below (Sh.rl HO344.out) hb)
     have HO347 := am_ (Kd.R_lower (Kd.R_new' ho11 (Kd.R_lt (Sh.rl HO350.out))) (below_size Sh.bw))
     replace HO350 := am_ (Kd.R_elder' (Sh.rl HO350.out) (Kd.R_base ho11) hb)
     replace HB := Sh.hb hb
     clear hb ho11
     refine hK.out _ _ trivial (fun hHeld => ?_)
     clear hK K
     refine norm_ (a' := ?_) ?_ ?_
     rotate_left
     ·show Act.put _ (some 25) _ = _
      simp only [Act.put, List.setIfInBounds_toArray, List.set_cons_zero, List.set_cons_succ, i64_w, i32_w]
      rfl
     refine Sh.pA 4 7 (Sh.nm 6 31) (by kernel_rfl) ?_
     exact norm_ (by simp only [putAll, Act.put, List.setIfInBounds_toArray, List.set_cons_zero, List.set_cons_succ]) (hCont (v346, v349) _ ⟨(Sh.rl HO344.out), (Sh.rl (Kd.R_mono HO347.out (fun _ hk => hk.2))), (Sh.rl (Kd.R_mono HO350.out (fun _ hk => hk.2))), Sh.bw⟩)
   rintro ⟨v346, v349⟩ w12 ⟨h0_, h1_, h2_, h3_⟩
   have n0_ : Aside0 (Kd.R (Kd.int .i64) 3 w12 w.heap.size (fun _ => True) v343 t342) := ⟨h0_⟩
   have n1_ : Aside0 (Kd.R Kd.bool 4 w12 w.heap.size (fun k_ => some k_ ≠ (v349 : Value).ownBlock) v346 y345) := ⟨h1_⟩
   have n2_ : Aside0 (Kd.R Kd.bool 4 w12 w.heap.size (fun k_ => some k_ ≠ (v346 : Value).ownBlock) v349 y348) := ⟨h2_⟩
   have n3_ : Aside0 (Below w.heap.size w w12) := ⟨h3_⟩
   clear HO344
   clear HB
   clear h0_ h1_ h2_ h3_
   have HO344 := n0_
   have HO347 := n1_
   have HO350 := n2_
   have HB := n3_
   clear n0_ n1_ n2_ n3_
   have hHeld := trivial
   refine norm_ (a' := ?_) ?_ ?_
   rotate_left
   ·simp only [putAll, Act.put, List.setIfInBounds_toArray, List.set_cons_zero, List.set_cons_succ]
    rfl
   refine Sh.pA 5 8 (Sh.nm 6 63) (by kernel_rfl) ?_
   refine done_ (by kernel_rfl) ?_
   try go_wp2
   go_loopg [30] k (fun kq v30 w' => ∃ (x7_1 : List Bool) (x30_1 : Int), v30 = .int .i64 x30_1 ∧ Aside0 (impl_fairVertices.l0 kq l1 t342 (l0.length : Int) x7_1 y348 l0 (l0.length : Int) x30_1 = some r) ∧ Aside0 (kq ≤ k) ∧ Aside0 (Kd.R (Kd.int .i64) 3 w' w.heap.size (fun _ => True) v343 t342) ∧ Aside0 (Kd.R Kd.bool 4 w' w.heap.size (fun k_ => some k_ ≠ (v349 : Value).ownBlock) v346 x7_1) ∧ Aside0 (Kd.R Kd.bool 4 w' w.heap.size (fun k_ => some k_ ≠ (v346 : Value).ownBlock) v349 y348) ∧ Aside0 (Below w.heap.size w w'))
   case atStart => exact ⟨(y345), (0), (Sh.es), H', ⟨Nat.le_refl _⟩, ⟨Sh.rl HO344.out⟩, ⟨Sh.rl HO347.out⟩, ⟨Sh.rl HO350.out⟩, ⟨Sh.bw⟩⟩
   case round =>
    clear H'
    obtain ⟨x7_1, x30_1, rfl, HA, HK1, HO_5, HO_7, HO_8, HB⟩ := hrel
    cases gk with
    | zero => exact absurd HA.out (by simp [impl_fairVertices.l0])
    | succ k1 =>
     have H := HA.out
     clear HA
     simp only [impl_fairVertices.l0] at H
     by_cases c13 : x30_1 < (l0.length : Int)
     ·rw [if_pos c13] at H
      have c13b0 := decide_eq_true c13
      clear c13
      by_cases c14 : 0 ≤ x30_1
      ·rw [if_pos c14] at H
       have c14b0 := decide_eq_true c14
       clear c14
       by_cases c15 : x30_1 < (l0.length : Int)
       ·rw [if_pos c15] at H
        have c15b0 := decide_eq_true c15
        clear c15
        have H' := am_ H
        clear H
        have p351 : 0 ≤ (x30_1 : Int) := Sh.od
        have q351 : x30_1 < (l0.length : Int) := Sh.od
        obtain ⟨ad351, A351_0, c351_0, e351, hx351_0, hl351_0, hi351_0⟩ := at_L1 HR0.out x30_1 p351 q351
        cases e351
        try replace hx351_0 := Sh.cw hx351_0
        have HR351_0 := am_ hi351_0
        have HC351_0 := am_ hl351_0
        clear hi351_0 hl351_0
        replace p351 := eq_true p351
        replace q351 := eq_true q351
        go_wp2
        go_loopg [37] k1 (fun kq v37 w' => ∃ (x7_2 : List Bool) (x37_2 : Int), v37 = .int .i64 x37_2 ∧ Aside0 (impl_fairVertices.l1 kq l1 t342 (l0.length : Int) x7_2 y348 x30_1 l0 (l0.length : Int) x30_1 (rd_L1 l0 x30_1) ((rd_L1 l0 x30_1).length : Int) x37_2 = some r) ∧ Aside0 (kq ≤ k1) ∧ Aside0 (Kd.R (Kd.int .i64) 3 w' w.heap.size (fun _ => True) v343 t342) ∧ Aside0 (Kd.R Kd.bool 4 w' w.heap.size (fun k_ => some k_ ≠ (v349 : Value).ownBlock) v346 x7_2) ∧ Aside0 (Kd.R Kd.bool 4 w' w.heap.size (fun k_ => some k_ ≠ (v346 : Value).ownBlock) v349 y348) ∧ Aside0 (Below w.heap.size w w'))
        case atStart => exact ⟨(x7_1), (0), (Sh.es), H', ⟨Nat.le_refl _⟩, ⟨Sh.rl HO_5.out⟩, ⟨Sh.rl HO_7.out⟩, ⟨Sh.rl HO_8.out⟩, ⟨Sh.bw⟩⟩
        case round =>
         clear H'
         try clear hx3
         try clear hx351_0
         obtain ⟨x7_2, x37_2, rfl, HA, HK2, HO_5, HO_7, HO_8, HB⟩ := hrel
         cases gk with
         | zero => exact absurd HA.out (by simp [impl_fairVertices.l1])
         | succ k2 =>
          have H := HA.out
          clear HA
          simp only [impl_fairVertices.l1] at H
          by_cases c16 : x37_2 < ((rd_L1 l0 x30_1).length : Int)
          ·rw [if_pos c16] at H
           have c16b0 := decide_eq_true c16
           clear c16
           by_cases c17 : 0 ≤ x37_2
           ·rw [if_pos c17] at H
            have c17b0 := decide_eq_true c17
            clear c17
            by_cases c18 : x37_2 < ((rd_L1 l0 x30_1).length : Int)
            ·rw [if_pos c18] at H
             have c18b0 := decide_eq_true c18
             clear c18
             by_cases c19 : 0 ≤ x30_1
             ·rw [if_pos c19] at H
              have c19b0 := decide_eq_true c19
              clear c19
              by_cases c20 : x30_1 < (t342.length : Int)
              ·rw [if_pos c20] at H
               have c20b0 := decide_eq_true c20
               clear c20
               by_cases c21 : 0 ≤ (rd t342 x30_1)
               ·rw [if_pos c21] at H
                have c21b0 := decide_eq_true c21
                clear c21
                by_cases c22 : (rd t342 x30_1) < (x7_2.length : Int)
                ·rw [if_pos c22] at H
                 have c22b0 := decide_eq_true c22
                 clear c22
                 obtain ⟨bq23, hbq23⟩ : ∃ b_ : Bool, b_ = (rdOf false x7_2 (rd t342 x30_1)) := ⟨_, rfl⟩
                 replace H : (if bq23 = true then (impl_fairVertices.l1 k2 l1 t342 (l0.length : Int) (x7_2.set ((rd t342 x30_1) : Int).toNat true) y348 x30_1 l0 (l0.length : Int) x30_1 (rd_L1 l0 x30_1) ((rd_L1 l0 x30_1).length : Int) (wrap64 (x37_2 + 1))) else (if 0 ≤ (rd (rd_L1 l0 x30_1) x37_2) then (if (rd (rd_L1 l0 x30_1) x37_2) < (t342.length : Int) then (impl_fairVertices.l1 k2 l1 t342 (l0.length : Int) (x7_2.set ((rd t342 x30_1) : Int).toNat ((rd t342 (rd (rd_L1 l0 x30_1) x37_2)) == (rd t342 x30_1))) y348 x30_1 l0 (l0.length : Int) x30_1 (rd_L1 l0 x30_1) ((rd_L1 l0 x30_1).length : Int) (wrap64 (x37_2 + 1))) else (none)) else (none))) = some r := by rw [← hbq23] at H; exact H
                 have Nbq23 := am_ hbq23
                 clear hbq23
                 by_cases c24 : bq23 = true
                 ·subst c24
                  rw [if_pos rfl] at H
                  obtain ⟨y356, hy356⟩ : ∃ y_ : List Bool, y_ = (x7_2.set ((rd t342 x30_1) : Int).toNat true) := ⟨_, rfl⟩
                  replace H : (impl_fairVertices.l1 k2 l1 t342 (l0.length : Int) y356 y348 x30_1 l0 (l0.length : Int) x30_1 (rd_L1 l0 x30_1) ((rd_L1 l0 x30_1).length : Int) (wrap64 (x37_2 + 1))) = some r := by first | (rw [hy356]; with_reducible exact H) | (have H2_ := (Option.bind_some _ _).symm.trans H; rw [hy356]; with_reducible exact H2_) | (have H2_ := (Option.bind_some _ _).symm.trans H; with_reducible exact H2_) | with_reducible exact H | (rw [hy356]; exact H) | exact H
                  have Ny356 := am_ hy356
                  clear hy356
                  have H' := am_ H
                  clear H
                  have p352 : 0 ≤ (x37_2 : Int) := Sh.od
                  have q352 : x37_2 < ((rd_L1 l0 x30_1).length : Int) := Sh.od
                  obtain ⟨ad352, e352, hx352_0⟩ := Kd.at_int HR351_0.out x37_2 p352 q352
                  cases e352
                  try replace hx352_0 := Sh.cw hx352_0
                  replace p352 := eq_true p352
                  replace q352 := eq_true q352
                  try go_wp2
                  replace HO_5 := am_ (Kd.R_drew HO_5.out)
                  replace HO_7 := am_ (Kd.R_drew HO_7.out)
                  replace HO_8 := am_ (Kd.R_drew HO_8.out)
                  replace HB := am_ (below_drew1 HB.out)
                  obtain ⟨Ao27, co27, eo27⟩ := Kd.R_slice HO_5.out
                  (first | subst eo27 | (injection eo27 with f1_ f2_ f3_; have f4_ := f1_.symm; have f5_ := f3_.symm; clear f1_ f2_ f3_; subst f4_; subst f5_))
                  have p353 : 0 ≤ (x30_1 : Int) := Sh.od
                  have q353 : x30_1 < (t342.length : Int) := Sh.od
                  obtain ⟨ad353, e353, hx353_0⟩ := Kd.at_int (Kd.R_reads' HO_5.out).2.2 x30_1 p353 q353
                  cases e353
                  replace p353 := eq_true p353
                  replace q353 := eq_true q353
                  have p354 : 0 ≤ (x30_1 : Int) := Sh.od
                  have q354 : x30_1 < (t342.length : Int) := Sh.od
                  obtain ⟨ad354, e354, hx354_0⟩ := Kd.at_int (Kd.R_reads' HO_5.out).2.2 x30_1 p354 q354
                  obtain rfl : ad353 = ad354 := (by injection e354)
                  replace p354 := eq_true p354
                  replace q354 := eq_true q354
                  obtain ⟨Ao28, co28, eo28⟩ := Kd.R_slice HO_7.out
                  (first | subst eo28 | (injection eo28 with f1_ f2_ f3_; have f4_ := f1_.symm; have f5_ := f3_.symm; clear f1_ f2_ f3_; subst f4_; subst f5_))
                  have p355 : 0 ≤ ((rd t342 x30_1) : Int) := Sh.od
                  have q355 : (rd t342 x30_1) < (x7_2.length : Int) := Sh.od
                  obtain ⟨ad355, e355, hx355_0⟩ := Kd.at_bool (Kd.R_reads' HO_7.out).2.2 (rd t342 x30_1) p355 q355
                  (try rw [← Nbq23.out] at hx355_0)
                  cases e355
                  replace p355 := eq_true p355
                  replace q355 := eq_true q355
                  have p25 : 0 ≤ ((rd t342 x30_1) : Int) := Sh.od
                  have q25 : ((rd t342 x30_1) : Int) < ((x7_2.length : Int) : Int) := Sh.od
                  obtain ⟨go25, co25, eo25, gb25, gl25, cl25, HG25⟩ := Kd.R_form HO_7.out (by omega)
                  (first | cases eo25 | (injection eo25 with ea_ en_ ec_; (first | subst ea_ | (injection ea_ with ea_; subst ea_)); subst ec_; clear en_))
                  have GB25 := am_ gb25
                  have GG25 := am_ HG25
                  clear gb25 gl25 HG25
                  (first | simp only [add_plain] at hx355_0 | skip)
                  obtain ⟨hx25_0, hf25_0⟩ := Kd.R_celln false HO_7.out ((rd t342 x30_1) : Int) p25 q25
                  replace p25 := eq_true p25
                  replace q25 := eq_true q25
                  have HP29 := Kd.R_putn HO_7.out ((rd t342 x30_1) : Int) true
                  rw [← Ny356.out] at HP29
                  have HQ29 := am_ HP29
                  clear HP29
                  refine start_ (n := 25) (S := fun w' => w'.cell? (ad353.add (x30_1).toNat) = some (.int .i64 (rd t342 x30_1)) ∧ w'.cell? (ad353.add (x30_1).toNat) = some (.int .i64 (rd t342 x30_1)) ∧ w'.cell? ⟨go25, ((rd t342 x30_1)).toNat, none⟩ = some (.bool true)) (ds := [24]) (Sh.nm 25 0) (by kernel_rfl) rfl rfl ⟨hx353_0, hx354_0, hx355_0⟩ (fun hHeld => ?_); refine with_tabW impl_fairVertices.tab9 impl_fairVertices.bits9 (fun HT_ HW_ => ?_)
                  generalize wr.drew = w26 at HO_5 HO_7 HO_8 HB GG25 HQ29 hf25_0 hx25_0 hx353_0 hx354_0 hx355_0 hHeld ⊢
                  refine Sh.qA 0 ?_; refine Sh.qA 1 ?_; refine Sh.qA 2 ?_; refine Sh.qA 3 ?_; refine Sh.qA 5 ?_; refine Sh.qA 6 ?_; refine Sh.qA 7 ?_; refine Sh.qA 8 ?_; refine Sh.qT 4 hHeld ?_; refine Sh.qT 9 hHeld ?_; refine Sh.qA 10 ?_; refine Sh.qT 11 hHeld ?_; refine Sh.qA 12 ?_; refine Sh.qU 13 ?_; refine Sh.qU 14 ?_; refine Sh.qU 15 ?_; refine Sh.qU 16 ?_; refine Sh.qU 17 ?_; refine Sh.qU 18 ?_; refine Sh.qU 19 ?_; refine Sh.qU 20 ?_; refine Sh.qU 21 ?_; refine Sh.qA 22 ?_; refine Sh.qA 23 ?_
                  refine last_ (i := 24) (N := none) (Sh.nm 25 33554431) rfl rfl (one_of HT_.out (by kernel_rfl)) (by decide) (fun K hK => ?_)
                  refine skip_ (w1 := ?_) (by rfl) rfl ?_ ?_
                  rotate_left
                  ·go_simp
                   rfl
                  refine hK.out _ _ ?_
                  clear hK K
                  refine done_ (done_of HT_.out (by kernel_rfl)) ?_
                  try go_wp2
                  go_roundg k2
                  case measure => have := HK1.out; have := HK2.out; omega
                  case rel => exact ⟨(y356), (wrap64 (x37_2 + 1)), (Sh.es), H', ⟨by have := HK1.out; have := HK2.out; omega⟩, ⟨Sh.rl (Kd.R_mono (Kd.R_far (p := ⟨go25, ((rd t342 x30_1) : Int).toNat, none⟩) (Kd.R_types HO_5.out GG25.out (by decide)) (fun _ hk => hk.2) (.bool true)) (fun _ hk => trivial))⟩, ⟨by (with_reducible repeat (first | apply Kd.R_alloc | apply Kd.R_drewN | apply Kd.R_drew)); exact HQ29.out⟩, ⟨Sh.rl (Kd.R_mono (Kd.R_far (p := ⟨go25, ((rd t342 x30_1) : Int).toNat, none⟩) (Kd.R_mono HO_8.out (fun k_ hk => (⟨hk, fun e_ => hk (by rw [e_]; rfl)⟩ : _ ∧ k_ ≠ go25))) (fun _ hk => hk.2) (.bool true)) (fun _ hk => hk.1))⟩, ⟨Sh.bw⟩⟩
                 ·replace c24 := Bool.eq_false_iff.mpr c24
                  subst c24
                  rw [Sh.nf] at H
                  by_cases c30 : 0 ≤ (rd (rd_L1 l0 x30_1) x37_2)
                  ·rw [if_pos c30] at H
                   have c30b0 := decide_eq_true c30
                   clear c30
                   by_cases c31 : (rd (rd_L1 l0 x30_1) x37_2) < (t342.length : Int)
                   ·rw [if_pos c31] at H
                    have c31b0 := decide_eq_true c31
                    clear c31
                    obtain ⟨y359, hy359⟩ : ∃ y_ : List Bool, y_ = (x7_2.set ((rd t342 x30_1) : Int).toNat ((rd t342 (rd (rd_L1 l0 x30_1) x37_2)) == (rd t342 x30_1))) := ⟨_, rfl⟩
                    replace H : (impl_fairVertices.l1 k2 l1 t342 (l0.length : Int) y359 y348 x30_1 l0 (l0.length : Int) x30_1 (rd_L1 l0 x30_1) ((rd_L1 l0 x30_1).length : Int) (wrap64 (x37_2 + 1))) = some r := by first | (rw [hy359]; with_reducible exact H) | (have H2_ := (Option.bind_some _ _).symm.trans H; rw [hy359]; with_reducible exact H2_) | (have H2_ := (Option.bind_some _ _).symm.trans H; with_reducible exact H2_) | with_reducible exact H | (rw [hy359]; exact H) | exact H
                    have Ny359 := am_ hy359
                    clear hy359
                    have H' := am_ H
                    clear H
                    have p352 : 0 ≤ (x37_2 : Int) := Sh.od
                    have q352 : x37_2 < ((rd_L1 l0 x30_1).length : Int) := Sh.od
                    obtain ⟨ad352, e352, hx352_0⟩ := Kd.at_int HR351_0.out x37_2 p352 q352
                    cases e352
                    try replace hx352_0 := Sh.cw hx352_0
                    replace p352 := eq_true p352
                    replace q352 := eq_true q352
                    try go_wp2
                    replace HO_5 := am_ (Kd.R_drew HO_5.out)
                    replace HO_7 := am_ (Kd.R_drew HO_7.out)
                    replace HO_8 := am_ (Kd.R_drew HO_8.out)
                    replace HB := am_ (below_drew1 HB.out)
                    obtain ⟨Ao34, co34, eo34⟩ := Kd.R_slice HO_5.out
                    (first | subst eo34 | (injection eo34 with f1_ f2_ f3_; have f4_ := f1_.symm; have f5_ := f3_.symm; clear f1_ f2_ f3_; subst f4_; subst f5_))
                    have p353 : 0 ≤ (x30_1 : Int) := Sh.od
                    have q353 : x30_1 < (t342.length : Int) := Sh.od
                    obtain ⟨ad353, e353, hx353_0⟩ := Kd.at_int (Kd.R_reads' HO_5.out).2.2 x30_1 p353 q353
                    cases e353
                    replace p353 := eq_true p353
                    replace q353 := eq_true q353
                    have p354 : 0 ≤ (x30_1 : Int) := Sh.od
                    have q354 : x30_1 < (t342.length : Int) := Sh.od
                    obtain ⟨ad354, e354, hx354_0⟩ := Kd.at_int (Kd.R_reads' HO_5.out).2.2 x30_1 p354 q354
                    obtain rfl : ad353 = ad354 := (by injection e354)
                    replace p354 := eq_true p354
                    replace q354 := eq_true q354
                    obtain ⟨Ao35, co35, eo35⟩ := Kd.R_slice HO_7.out
                    (first | subst eo35 | (injection eo35 with f1_ f2_ f3_; have f4_ := f1_.symm; have f5_ := f3_.symm; clear f1_ f2_ f3_; subst f4_; subst f5_))
                    have p355 : 0 ≤ ((rd t342 x30_1) : Int) := Sh.od
                    have q355 : (rd t342 x30_1) < (x7_2.length : Int) := Sh.od
                    obtain ⟨ad355, e355, hx355_0⟩ := Kd.at_bool (Kd.R_reads' HO_7.out).2.2 (rd t342 x30_1) p355 q355
                    (try rw [← Nbq23.out] at hx355_0)
                    cases e355
                    replace p355 := eq_true p355
                    replace q355 := eq_true q355
                    have p357 : 0 ≤ ((rd (rd_L1 l0 x30_1) x37_2) : Int) := Sh.od
                    have q357 : (rd (rd_L1 l0 x30_1) x37_2) < (t342.length : Int) := Sh.od
                    obtain ⟨ad357, e357, hx357_0⟩ := Kd.at_int (Kd.R_reads' HO_5.out).2.2 (rd (rd_L1 l0 x30_1) x37_2) p357 q357
                    obtain rfl : ad353 = ad357 := (by injection e357)
                    replace p357 := eq_true p357
                    replace q357 := eq_true q357
                    have p358 : 0 ≤ (x30_1 : Int) := Sh.od
                    have q358 : x30_1 < (t342.length : Int) := Sh.od
                    obtain ⟨ad358, e358, hx358_0⟩ := Kd.at_int (Kd.R_reads' HO_5.out).2.2 x30_1 p358 q358
                    obtain rfl : ad353 = ad358 := (by injection e358)
                    replace p358 := eq_true p358
                    replace q358 := eq_true q358
                    have p32 : 0 ≤ ((rd t342 x30_1) : Int) := Sh.od
                    have q32 : ((rd t342 x30_1) : Int) < ((x7_2.length : Int) : Int) := Sh.od
                    obtain ⟨go32, co32, eo32, gb32, gl32, cl32, HG32⟩ := Kd.R_form HO_7.out (by omega)
                    (first | cases eo32 | (injection eo32 with ea_ en_ ec_; (first | subst ea_ | (injection ea_ with ea_; subst ea_)); subst ec_; clear en_))
                    have GB32 := am_ gb32
                    have GG32 := am_ HG32
                    clear gb32 gl32 HG32
                    (first | simp only [add_plain] at hx355_0 | skip)
                    obtain ⟨hx32_0, hf32_0⟩ := Kd.R_celln false HO_7.out ((rd t342 x30_1) : Int) p32 q32
                    replace p32 := eq_true p32
                    replace q32 := eq_true q32
                    have HP36 := Kd.R_putn HO_7.out ((rd t342 x30_1) : Int) ((rd t342 (rd (rd_L1 l0 x30_1) x37_2)) == (rd t342 x30_1))
                    rw [← Ny359.out] at HP36
                    have HQ36 := am_ HP36
                    clear HP36
                    refine start_ (n := 25) (S := fun w' => w'.cell? (ad353.add (x30_1).toNat) = some (.int .i64 (rd t342 x30_1)) ∧ w'.cell? (ad353.add (x30_1).toNat) = some (.int .i64 (rd t342 x30_1)) ∧ w'.cell? ⟨go32, ((rd t342 x30_1)).toNat, none⟩ = some (.bool false) ∧ w'.cell? (ad353.add ((rd (rd_L1 l0 x30_1) x37_2)).toNat) = some (.int .i64 (rd t342 (rd (rd_L1 l0 x30_1) x37_2))) ∧ w'.cell? (ad353.add (x30_1).toNat) = some (.int .i64 (rd t342 x30_1))) (ds := [24]) (Sh.nm 25 0) (by kernel_rfl) rfl rfl ⟨hx353_0, hx354_0, hx355_0, hx357_0, hx358_0⟩ (fun hHeld => ?_); refine with_tabW impl_fairVertices.tab9 impl_fairVertices.bits9 (fun HT_ HW_ => ?_)
                    generalize wr.drew = w33 at HO_5 HO_7 HO_8 HB GG32 HQ36 hf32_0 hx32_0 hx353_0 hx354_0 hx355_0 hx357_0 hx358_0 hHeld ⊢
                    refine Sh.qA 0 ?_; refine Sh.qA 1 ?_; refine Sh.qA 2 ?_; refine Sh.qA 3 ?_; refine Sh.qA 5 ?_; refine Sh.qA 6 ?_; refine Sh.qA 7 ?_; refine Sh.qA 8 ?_; refine Sh.qT 4 hHeld ?_; refine Sh.qT 9 hHeld ?_; refine Sh.qA 10 ?_; refine Sh.qT 11 hHeld ?_; refine Sh.qA 12 ?_; refine Sh.qA 13 ?_; refine Sh.qA 14 ?_; refine Sh.qA 15 ?_; refine Sh.qA 17 ?_; refine Sh.qA 18 ?_; refine Sh.qA 19 ?_; refine Sh.qT 16 hHeld ?_; refine Sh.qT 20 hHeld ?_; refine Sh.qA 21 ?_; refine Sh.qA 22 ?_; refine Sh.qA 23 ?_
                    refine last_ (i := 24) (N := none) (Sh.nm 25 33554431) rfl rfl (one_of HT_.out (by kernel_rfl)) (by decide) (fun K hK => ?_)
                    refine skip_ (w1 := ?_) (by rfl) rfl ?_ ?_
                    rotate_left
                    ·go_simp
                     rfl
                    refine hK.out _ _ ?_
                    clear hK K
                    refine done_ (done_of HT_.out (by kernel_rfl)) ?_
                    try go_wp2
                    go_roundg k2
                    case measure => have := HK1.out; have := HK2.out; omega
                    case rel => exact ⟨(y359), (wrap64 (x37_2 + 1)), (Sh.es), H', ⟨by have := HK1.out; have := HK2.out; omega⟩, ⟨Sh.rl (Kd.R_mono (Kd.R_far (p := ⟨go32, ((rd t342 x30_1) : Int).toNat, none⟩) (Kd.R_types HO_5.out GG32.out (by decide)) (fun _ hk => hk.2) (.bool ((rd t342 (rd (rd_L1 l0 x30_1) x37_2)) == (rd t342 x30_1)))) (fun _ hk => trivial))⟩, ⟨by (with_reducible repeat (first | apply Kd.R_alloc | apply Kd.R_drewN | apply Kd.R_drew)); exact HQ36.out⟩, ⟨Sh.rl (Kd.R_mono (Kd.R_far (p := ⟨go32, ((rd t342 x30_1) : Int).toNat, none⟩) (Kd.R_mono HO_8.out (fun k_ hk => (⟨hk, fun e_ => hk (by rw [e_]; rfl)⟩ : _ ∧ k_ ≠ go32))) (fun _ hk => hk.2) (.bool ((rd t342 (rd (rd_L1 l0 x30_1) x37_2)) == (rd t342 x30_1)))) (fun _ hk => hk.1))⟩, ⟨Sh.bw⟩⟩
                   ·rw [if_neg c31] at H
                    exact absurd H (by simp)
                  ·rw [if_neg c30] at H
                   exact absurd H (by simp)
                ·rw [if_neg c22] at H
                 exact absurd H (by simp)
               ·rw [if_neg c21] at H
                exact absurd H (by simp)
              ·rw [if_neg c20] at H
               exact absurd H (by simp)
             ·rw [if_neg c19] at H
              exact absurd H (by simp)
            ·rw [if_neg c18] at H
             exact absurd H (by simp)
           ·rw [if_neg c17] at H
            exact absurd H (by simp)
          ·rw [if_neg c16] at H
           have c16b0 := decide_eq_false c16
           clear c16
           have H' := am_ H
           clear H
           go_wp2
           go_roundg k2
           case measure => have := HK1.out; have := HK2.out; omega
           case rel => exact ⟨(x7_2), (wrap64 (x30_1 + 1)), (Sh.es), H', ⟨by have := HK1.out; have := HK2.out; omega⟩, ⟨Sh.rl HO_5.out⟩, ⟨Sh.rl HO_7.out⟩, ⟨Sh.rl HO_8.out⟩, ⟨Sh.bw⟩⟩
       ·rw [if_neg c15] at H
        exact absurd H (by simp)
      ·rw [if_neg c14] at H
       exact absurd H (by simp)
     ·rw [if_neg c13] at H
      have c13b0 := decide_eq_false c13
      clear c13
      have H' := am_ H
      clear H
      go_wp2
      go_loopg [69] k1 (fun kq v69 w' => ∃ (x7_2 : List Bool) (x8_2 : List Bool) (x69_2 : Int), v69 = .int .i64 x69_2 ∧ Aside0 (impl_fairVertices.l2 kq t342 (l0.length : Int) x7_2 x8_2 l1 (l1.length : Int) x69_2 = some r) ∧ Aside0 (kq ≤ k1) ∧ Aside0 (Kd.R (Kd.int .i64) 3 w' w.heap.size (fun _ => True) v343 t342) ∧ Aside0 (Kd.R Kd.bool 4 w' w.heap.size (fun k_ => some k_ ≠ (v349 : Value).ownBlock) v346 x7_2) ∧ Aside0 (Kd.R Kd.bool 4 w' w.heap.size (fun k_ => some k_ ≠ (v346 : Value).ownBlock) v349 x8_2) ∧ Aside0 (Below w.heap.size w w'))
      case atStart => exact ⟨(x7_1), (y348), (0), (Sh.es), H', ⟨Nat.le_refl _⟩, ⟨Sh.rl HO_5.out⟩, ⟨Sh.rl HO_7.out⟩, ⟨Sh.rl HO_8.out⟩, ⟨Sh.bw⟩⟩
      case round =>
       clear H'
       try clear hx2
       try clear hf2
       try clear hx3
       try clear hf3
       try clear hx25
       try clear hf25
       try clear hx32
       try clear hf32
       try clear hx35
       try clear hx25_0
       try clear hx32_0
       try clear hx352_0
       try clear hx353_0
       try clear hx354_0
       try clear hx355_0
       try clear hx357_0
       try clear hx358_0
       obtain ⟨x7_2, x8_2, x69_2, rfl, HA, HK2, HO_5, HO_7, HO_8, HB⟩ := hrel
       cases gk with
       | zero => exact absurd HA.out (by simp [impl_fairVertices.l2])
       | succ k2 =>
        have H := HA.out
        clear HA
        simp only [impl_fairVertices.l2] at H
        by_cases c37 : x69_2 < (l1.length : Int)
        ·rw [if_pos c37] at H
         have c37b0 := decide_eq_true c37
         clear c37
         by_cases c38 : 0 ≤ x69_2
         ·rw [if_pos c38] at H
          have c38b0 := decide_eq_true c38
          clear c38
          by_cases c39 : x69_2 < (l1.length : Int)
          ·rw [if_pos c39] at H
           have c39b0 := decide_eq_true c39
           clear c39
           by_cases c40 : 0 ≤ (l0.length : Int)
           ·rw [if_pos c40] at H
            have c40b0 := eq_true c40
            have c40b1 := decide_eq_true c40
            clear c40
            by_cases c41 : ((l0.length : Int) : Int).toNat ≤ 281474976710656
            ·rw [if_pos c41] at H
             have c41b0 := eq_true c41
             have c41b1 := decide_eq_true c41
             clear c41
             obtain ⟨y361, hy361⟩ : ∃ y_ : List Bool, y_ = (List.replicate ((l0.length : Int) : Int).toNat false) := ⟨_, rfl⟩
             replace H : (impl_fairVertices.l3 k2 t342 (l0.length : Int) x7_2 x8_2 y361 l1 (l1.length : Int) x69_2 (rd_L1 l1 x69_2) ((rd_L1 l1 x69_2).length : Int) 0) = some r := by first | (rw [hy361]; with_reducible exact H) | (have H2_ := (Option.bind_some _ _).symm.trans H; rw [hy361]; with_reducible exact H2_) | (have H2_ := (Option.bind_some _ _).symm.trans H; with_reducible exact H2_) | with_reducible exact H | (rw [hy361]; exact H) | exact H
             have Ny361 := am_ hy361
             clear hy361
             have H' := am_ H
             clear H
             have p360 : 0 ≤ (x69_2 : Int) := Sh.od
             have q360 : x69_2 < (l1.length : Int) := Sh.od
             obtain ⟨ad360, A360_0, c360_0, e360, hx360_0, hl360_0, hi360_0⟩ := at_L1 HR1.out x69_2 p360 q360
             cases e360
             try replace hx360_0 := Sh.cw hx360_0
             have HR360_0 := am_ hi360_0
             have HC360_0 := am_ hl360_0
             clear hi360_0 hl360_0
             replace p360 := eq_true p360
             replace q360 := eq_true q360
             go_wp2_with (first | ((with_reducible refine Sh.d 74 ?_); refine Kd.R_make Kd.bool _ 4 rfl (N := 74) rfl 56 _ _ rfl (l0.length : Int) rfl rfl Try.underlying56 (.bool false) 1 info4 rfl (by decide) (by omega) false (ok := fun _ => True) (okp := fun _ => True) rfl (fun _ hk => hk) trivial (of_decide_eq_true (by first | (with_reducible assumption) | assumption)) (Nat.le_trans (Nat.mul_le_mul_right _ (of_decide_eq_true (by first | (with_reducible assumption) | assumption) : (l0.length : Int).toNat ≤ 281474976710656)) (by omega)) (Below.refl _ _) (Nat.le_refl _) ?_; intro v362 w42 ho43 hb hg_ hnew_; clear hg_ hnew_; (first | rw [← Ny361.out] at ho43 | (simp only [Int.reduceToNat] at ho43; rw [← Ny361.out] at ho43)); replace HO_5 := am_ (Kd.R_below (Sh.rl HO_5.out) hb); have HO363 := am_ (Kd.R_lower (Kd.R_new' (Kd.R_new' ho43 (Kd.R_lt (Sh.rl HO_7.out))) (Kd.R_lt (Sh.rl HO_8.out))) (below_size Sh.bw)); replace HO_7 := am_ (Kd.R_elder' (Sh.rl HO_7.out) (Kd.R_base ho43) hb); replace HO_8 := am_ (Kd.R_elder' (Sh.rl HO_8.out) (Kd.R_base ho43) hb); replace HB := Sh.hb hb; clear hb ho43))
             go_loopg [77] k2 (fun kq v77 w' => ∃ (x15_3 : List Bool) (x77_3 : Int), v77 = .int .i64 x77_3 ∧ Aside0 (impl_fairVertices.l3 kq t342 (l0.length : Int) x7_2 x8_2 x15_3 l1 (l1.length : Int) x69_2 (rd_L1 l1 x69_2) ((rd_L1 l1 x69_2).length : Int) x77_3 = some r) ∧ Aside0 (kq ≤ k2) ∧ Aside0 (Kd.R (Kd.int .i64) 3 w' w.heap.size (fun _ => True) v343 t342) ∧ Aside0 (Kd.R Kd.bool 4 w' w.heap.size (fun k_ => some k_ ≠ (v349 : Value).ownBlock ∧ some k_ ≠ (v362 : Value).ownBlock) v346 x7_2) ∧ Aside0 (Kd.R Kd.bool 4 w' w.heap.size (fun k_ => some k_ ≠ (v346 : Value).ownBlock ∧ some k_ ≠ (v362 : Value).ownBlock) v349 x8_2) ∧ Aside0 (Kd.R Kd.bool 4 w' w.heap.size (fun k_ => some k_ ≠ (v346 : Value).ownBlock ∧ some k_ ≠ (v349 : Value).ownBlock) v362 x15_3) ∧ Aside0 (Below w.heap.size w w'))
             case atStart => exact ⟨(y361), (0), (Sh.es), H', ⟨Nat.le_refl _⟩, ⟨Sh.rl HO_5.out⟩, ⟨Sh.rl HO_7.out⟩, ⟨Sh.rl HO_8.out⟩, ⟨Sh.rl (Kd.R_mono HO363.out (fun _ h => ⟨h.1.2, h.2⟩))⟩, ⟨Sh.bw⟩⟩
             case round =>
              clear H'
              try clear hx2
              try clear hf2
              try clear hx3
              try clear hf3
              try clear hx25
              try clear hf25
              try clear hx32
              try clear hf32
              try clear hx35
              try clear hx36
              try clear hx25_0
              try clear hx32_0
              try clear hx352_0
              try clear hx353_0
              try clear hx354_0
              try clear hx355_0
              try clear hx357_0
              try clear hx358_0
              try clear hx360_0
              obtain ⟨x15_3, x77_3, rfl, HA, HK3, HO_5, HO_7, HO_8, HO_15, HB⟩ := hrel
              cases gk with
              | zero => exact absurd HA.out (by simp [impl_fairVertices.l3])
              | succ k3 =>
               have H := HA.out
               clear HA
               simp only [impl_fairVertices.l3] at H
               by_cases c44 : x77_3 < ((rd_L1 l1 x69_2).length : Int)
               ·rw [if_pos c44] at H
                have c44b0 := decide_eq_true c44
                clear c44
                by_cases c45 : 0 ≤ x77_3
                ·rw [if_pos c45] at H
                 have c45b0 := decide_eq_true c45
                 clear c45
                 by_cases c46 : x77_3 < ((rd_L1 l1 x69_2).length : Int)
                 ·rw [if_pos c46] at H
                  have c46b0 := decide_eq_true c46
                  clear c46
                  by_cases c47 : 0 ≤ (rd (rd_L1 l1 x69_2) x77_3)
                  ·rw [if_pos c47] at H
                   have c47b0 := decide_eq_true c47
                   clear c47
                   by_cases c48 : (rd (rd_L1 l1 x69_2) x77_3) < (t342.length : Int)
                   ·rw [if_pos c48] at H
                    have c48b0 := decide_eq_true c48
                    clear c48
                    by_cases c49 : 0 ≤ (rd t342 (rd (rd_L1 l1 x69_2) x77_3))
                    ·rw [if_pos c49] at H
                     have c49b0 := decide_eq_true c49
                     clear c49
                     by_cases c50 : (rd t342 (rd (rd_L1 l1 x69_2) x77_3)) < (x15_3.length : Int)
                     ·rw [if_pos c50] at H
                      have c50b0 := decide_eq_true c50
                      clear c50
                      obtain ⟨y366, hy366⟩ : ∃ y_ : List Bool, y_ = (x15_3.set ((rd t342 (rd (rd_L1 l1 x69_2) x77_3)) : Int).toNat true) := ⟨_, rfl⟩
                      replace H : (impl_fairVertices.l3 k3 t342 (l0.length : Int) x7_2 x8_2 y366 l1 (l1.length : Int) x69_2 (rd_L1 l1 x69_2) ((rd_L1 l1 x69_2).length : Int) (wrap64 (x77_3 + 1))) = some r := by first | (rw [hy366]; with_reducible exact H) | (have H2_ := (Option.bind_some _ _).symm.trans H; rw [hy366]; with_reducible exact H2_) | (have H2_ := (Option.bind_some _ _).symm.trans H; with_reducible exact H2_) | with_reducible exact H | (rw [hy366]; exact H) | exact H
                      have Ny366 := am_ hy366
                      clear hy366
                      have H' := am_ H
                      clear H
                      have p364 : 0 ≤ (x77_3 : Int) := Sh.od
                      have q364 : x77_3 < ((rd_L1 l1 x69_2).length : Int) := Sh.od
                      obtain ⟨ad364, e364, hx364_0⟩ := Kd.at_int HR360_0.out x77_3 p364 q364
                      cases e364
                      try replace hx364_0 := Sh.cw hx364_0
                      replace p364 := eq_true p364
                      replace q364 := eq_true q364
                      obtain ⟨Ao52, co52, eo52⟩ := Kd.R_slice HO_5.out
                      subst eo52
                      have p365 : 0 ≤ ((rd (rd_L1 l1 x69_2) x77_3) : Int) := Sh.od
                      have q365 : (rd (rd_L1 l1 x69_2) x77_3) < (t342.length : Int) := Sh.od
                      obtain ⟨ad365, e365, hx365_0⟩ := Kd.at_int (Kd.R_reads' HO_5.out).2.2 (rd (rd_L1 l1 x69_2) x77_3) p365 q365
                      cases e365
                      replace p365 := eq_true p365
                      replace q365 := eq_true q365
                      have p51 : 0 ≤ ((rd t342 (rd (rd_L1 l1 x69_2) x77_3)) : Int) := Sh.od
                      have q51 : ((rd t342 (rd (rd_L1 l1 x69_2) x77_3)) : Int) < ((x15_3.length : Int) : Int) := Sh.od
                      obtain ⟨go51, co51, eo51, gb51, gl51, cl51, HG51⟩ := Kd.R_form HO_15.out (by omega)
                      (first | cases eo51 | (injection eo51 with ea_ en_ ec_; (first | subst ea_ | (injection ea_ with ea_; subst ea_)); subst ec_; clear en_))
                      have GB51 := am_ gb51
                      have GG51 := am_ HG51
                      clear gb51 gl51 HG51
                      obtain ⟨hx51_0, hf51_0⟩ := Kd.R_celln false HO_15.out ((rd t342 (rd (rd_L1 l1 x69_2) x77_3)) : Int) p51 q51
                      replace p51 := eq_true p51
                      replace q51 := eq_true q51
                      have HP53 := Kd.R_putg HO_15.out ((rd t342 (rd (rd_L1 l1 x69_2) x77_3)) : Int) true
                      go_wp2_with (first | ((with_reducible refine gate_store (t := 4) (p := 86) rfl ?_); refine store_event (t := 4) (p := 86) (v := ?vo_w54) (w1 := (wr.setCell ⟨go51, ((rd t342 (rd (rd_L1 l1 x69_2) x77_3)) : Int).toNat, none⟩ (.bool true))) ?hg ?ho ?hn ?hr ?_; (case ho => rfl); (case hg => rfl); (case hn => rfl); (case hr => first | (go_simp; done) | (go_simp; rfl)); intro w54 hw; have hg : wr.grownBy w54 (some go51) := (by rw [hw]; exact HP53.2); have hp_ : Kd.R Kd.bool 4 w54 w.heap.size (fun k_ => some k_ ≠ (v346 : Value).ownBlock ∧ some k_ ≠ (v349 : Value).ownBlock) (.slice (some ⟨go51, 0, none⟩) x15_3.length co51) y366 := (by rw [hw, Ny366.out]; exact HP53.1); clear HP53; replace HO_5 := am_ (Kd.R_over' (v := (.slice (some ⟨go51, 0, none⟩) x15_3.length co51)) (Sh.rl HO_5.out) (Kd.R_typed HO_15.out) (by decide) hg); replace HO_7 := am_ (Kd.R_after (v := (.slice (some ⟨go51, 0, none⟩) x15_3.length co51)) (v1 := (.slice (some ⟨go51, 0, none⟩) x15_3.length co51)) (ok := (fun k_ => some k_ ≠ (v349 : Value).ownBlock)) (Sh.rl HO_7.out) hg (.inl rfl)); replace HO_8 := am_ (Kd.R_after (v := (.slice (some ⟨go51, 0, none⟩) x15_3.length co51)) (v1 := (.slice (some ⟨go51, 0, none⟩) x15_3.length co51)) (ok := (fun k_ => some k_ ≠ (v346 : Value).ownBlock)) (Sh.rl HO_8.out) hg (.inl rfl)); replace HO_15 := am_ hp_; replace HB := am_ ((by rw [hw]; exact below_set (HB.out) GB51.out : Below w.heap.size w w54)); clear hg hw hp_))
                      go_roundg k3
                      case measure => have := HK1.out; have := HK2.out; have := HK3.out; omega
                      case rel => exact ⟨(y366), (wrap64 (x77_3 + 1)), (Sh.es), H', ⟨by have := HK1.out; have := HK2.out; have := HK3.out; omega⟩, ⟨Sh.rl HO_5.out⟩, ⟨Sh.rl HO_7.out⟩, ⟨Sh.rl HO_8.out⟩, ⟨Sh.rl HO_15.out⟩, ⟨Sh.bw⟩⟩
                     ·rw [if_neg c50] at H
                      exact absurd H (by simp)
                    ·rw [if_neg c49] at H
                     exact absurd H (by simp)
                   ·rw [if_neg c48] at H
                    exact absurd H (by simp)
                  ·rw [if_neg c47] at H
                   exact absurd H (by simp)
                 ·rw [if_neg c46] at H
                  exact absurd H (by simp)
                ·rw [if_neg c45] at H
                 exact absurd H (by simp)
               ·rw [if_neg c44] at H
                have c44b0 := decide_eq_false c44
                clear c44
                have H' := am_ H
                clear H
                obtain ⟨Ao55, co55, eo55⟩ := Kd.R_slice HO_7.out
                subst eo55
                go_wp2
                go_loopg [90] k3 (fun kq v90 w' => ∃ (x7_4 : List Bool) (x90_4 : Int), v90 = .int .i64 x90_4 ∧ Aside0 (impl_fairVertices.l4 kq t342 (l0.length : Int) x7_4 x8_2 x15_3 l1 (l1.length : Int) x69_2 (x7_2.length : Int) x90_4 = some r) ∧ Aside0 (kq ≤ k3) ∧ Aside0 (Kd.R (Kd.int .i64) 3 w' w.heap.size (fun _ => True) v343 t342) ∧ Aside0 (Kd.R Kd.bool 4 w' w.heap.size (fun k_ => some k_ ≠ (v349 : Value).ownBlock ∧ some k_ ≠ (v362 : Value).ownBlock) (.slice Ao55 x7_2.length co55) x7_4) ∧ Aside0 (Kd.R Kd.bool 4 w' w.heap.size (fun k_ => some k_ ≠ ((.slice Ao55 x7_2.length co55) : Value).ownBlock ∧ some k_ ≠ (v362 : Value).ownBlock) v349 x8_2) ∧ Aside0 (Kd.R Kd.bool 4 w' w.heap.size (fun k_ => some k_ ≠ ((.slice Ao55 x7_2.length co55) : Value).ownBlock ∧ some k_ ≠ (v349 : Value).ownBlock) v362 x15_3) ∧ Aside0 (Below w.heap.size w w'))
                case atStart => exact ⟨(x7_2), (0), (Sh.es), H', ⟨Nat.le_refl _⟩, ⟨Sh.rl HO_5.out⟩, ⟨Sh.rl HO_7.out⟩, ⟨Sh.rl HO_8.out⟩, ⟨Sh.rl HO_15.out⟩, ⟨Sh.bw⟩⟩
                case round =>
                 clear H'
                 try clear hx2
                 try clear hf2
                 try clear hx3
                 try clear hf3
                 try clear hx5
                 try clear hf5
                 try clear hx25
                 try clear hf25
                 try clear hx32
                 try clear hf32
                 try clear hx35
                 try clear hx36
                 try clear hx51
                 try clear hf51
                 try clear hx25_0
                 try clear hx32_0
                 try clear hx352_0
                 try clear hx353_0
                 try clear hx354_0
                 try clear hx355_0
                 try clear hx357_0
                 try clear hx358_0
                 try clear hx360_0
                 try clear hx364_0
                 try clear hx365_0
                 try clear hx51_0
                 obtain ⟨x7_4, x90_4, rfl, HA, HK4, HO_5, HO_7, HO_8, HO_15, HB⟩ := hrel
                 have hl7_4 := (Kd.R_reads' HO_7.out).1
                 rw [hl7_4] at HO_7
                 (try simp only [hl7_4])
                 (try simp only [hl7_4] at HO_5)
                 (try simp only [hl7_4] at HO_8)
                 (try simp only [hl7_4] at HO_15)
                 cases gk with
                 | zero => exact absurd HA.out (by simp [impl_fairVertices.l4])
                 | succ k4 =>
                  have H := HA.out
                  clear HA
                  simp only [impl_fairVertices.l4] at H
                  by_cases c56 : x90_4 < (x7_2.length : Int)
                  ·rw [if_pos c56] at H
                   have c56b0 := decide_eq_true c56
                   clear c56
                   by_cases c57 : 0 ≤ x90_4
                   ·rw [if_pos c57] at H
                    have c57b0 := decide_eq_true c57
                    clear c57
                    by_cases c58 : x90_4 < (x7_4.length : Int)
                    ·rw [if_pos c58] at H
                     have c58b0 := decide_eq_true c58
                     clear c58
                     obtain ⟨bq59, hbq59⟩ : ∃ b_ : Bool, b_ = (rdOf false x7_4 x90_4) := ⟨_, rfl⟩
                     replace H : (if bq59 = true then (if x90_4 < (x15_3.length : Int) then (impl_fairVertices.l4 k4 t342 (l0.length : Int) (x7_4.set (x90_4 : Int).toNat (rdOf false x15_3 x90_4)) x8_2 x15_3 l1 (l1.length : Int) x69_2 (x7_2.length : Int) (wrap64 (x90_4 + 1))) else (none)) else (impl_fairVertices.l4 k4 t342 (l0.length : Int) (x7_4.set (x90_4 : Int).toNat false) x8_2 x15_3 l1 (l1.length : Int) x69_2 (x7_2.length : Int) (wrap64 (x90_4 + 1)))) = some r := by rw [← hbq59] at H; exact H
                     have Nbq59 := am_ hbq59
                     clear hbq59
                     by_cases c60 : bq59 = true
                     ·subst c60
                      rw [if_pos rfl] at H
                      by_cases c61 : x90_4 < (x15_3.length : Int)
                      ·rw [if_pos c61] at H
                       have c61b0 := decide_eq_true c61
                       clear c61
                       obtain ⟨y369, hy369⟩ : ∃ y_ : List Bool, y_ = (x7_4.set (x90_4 : Int).toNat (rdOf false x15_3 x90_4)) := ⟨_, rfl⟩
                       replace H : (impl_fairVertices.l4 k4 t342 (l0.length : Int) y369 x8_2 x15_3 l1 (l1.length : Int) x69_2 (x7_2.length : Int) (wrap64 (x90_4 + 1))) = some r := by first | (rw [hy369]; with_reducible exact H) | (have H2_ := (Option.bind_some _ _).symm.trans H; rw [hy369]; with_reducible exact H2_) | (have H2_ := (Option.bind_some _ _).symm.trans H; with_reducible exact H2_) | with_reducible exact H | (rw [hy369]; exact H) | exact H
                       have Ny369 := am_ hy369
                       clear hy369
                       have H' := am_ H
                       clear H
                       have p367 : 0 ≤ (x90_4 : Int) := Sh.od
                       have q367 : x90_4 < (x7_4.length : Int) := Sh.od
                       obtain ⟨ad367, e367, hx367_0⟩ := Kd.at_bool (Kd.R_reads' HO_7.out).2.2 x90_4 p367 q367
                       (try rw [← Nbq59.out] at hx367_0)
                       cases e367
                       replace p367 := eq_true p367
                       replace q367 := eq_true q367
                       obtain ⟨Ao63, co63, eo63⟩ := Kd.R_slice HO_15.out
                       subst eo63
                       have p368 : 0 ≤ (x90_4 : Int) := Sh.od
                       have q368 : x90_4 < (x15_3.length : Int) := Sh.od
                       obtain ⟨ad368, e368, hx368_0⟩ := Kd.at_bool (Kd.R_reads' HO_15.out).2.2 x90_4 p368 q368
                       (try rw [← Nbq59.out] at hx368_0)
                       cases e368
                       replace p368 := eq_true p368
                       replace q368 := eq_true q368
                       have p62 : 0 ≤ (x90_4 : Int) := Sh.od
                       have q62 : (x90_4 : Int) < ((x7_4.length : Int) : Int) := Sh.od
                       obtain ⟨go62, co62, eo62, gb62, gl62, cl62, HG62⟩ := Kd.R_form HO_7.out (by omega)
                       (first | cases eo62 | (injection eo62 with ea_ en_ ec_; (first | subst ea_ | (injection ea_ with ea_; subst ea_)); subst ec_; clear en_))
                       have GB62 := am_ gb62
                       have GG62 := am_ HG62
                       clear gb62 gl62 HG62
                       (first | simp only [add_plain] at hx367_0 | skip)
                       obtain ⟨hx62_0, hf62_0⟩ := Kd.R_celln false HO_7.out (x90_4 : Int) p62 q62
                       replace p62 := eq_true p62
                       replace q62 := eq_true q62
                       have HP64 := Kd.R_putg HO_7.out (x90_4 : Int) (rdOf false x15_3 x90_4)
                       go_wp2_with (first | ((with_reducible refine gate_store (t := 4) (p := 105) rfl ?_); refine store_event (t := 4) (p := 105) (v := ?vo_w65) (w1 := (wr.setCell ⟨go62, (x90_4 : Int).toNat, none⟩ (.bool (rdOf false x15_3 x90_4)))) ?hg ?ho ?hn ?hr ?_; (case ho => rfl); (case hg => rfl); (case hn => rfl); (case hr => first | (go_simp; done) | (go_simp; rfl)); intro w65 hw; have hg : wr.grownBy w65 (some go62) := (by rw [hw]; exact HP64.2); have hp_ : Kd.R Kd.bool 4 w65 w.heap.size (fun k_ => some k_ ≠ (v349 : Value).ownBlock ∧ some k_ ≠ (.slice (some ad368) x15_3.length co63 : Value).ownBlock) (.slice (some ⟨go62, 0, none⟩) x7_4.length co55) y369 := (by rw [hw, Ny369.out]; exact HP64.1); clear HP64; replace HO_5 := am_ (Kd.R_over' (v := (.slice (some ⟨go62, 0, none⟩) x7_4.length co55)) (Sh.rl HO_5.out) (Kd.R_typed HO_7.out) (by decide) hg); replace HO_7 := am_ hp_; replace HO_8 := am_ (Kd.R_after (v := (.slice (some ⟨go62, 0, none⟩) x7_4.length co55)) (v1 := (.slice (some ⟨go62, 0, none⟩) x7_4.length co55)) (ok := (fun k_ => some k_ ≠ (.slice (some ad368) x15_3.length co63 : Value).ownBlock)) (Sh.rl (Kd.R_mono HO_8.out (fun _ h => ⟨h.2, h.1⟩))) hg (.inl rfl)); replace HO_15 := am_ (Kd.R_after (v := (.slice (some ⟨go62, 0, none⟩) x7_4.length co55)) (v1 := (.slice (some ⟨go62, 0, none⟩) x7_4.length co55)) (ok := (fun k_ => some k_ ≠ (v349 : Value).ownBlock)) (Sh.rl (Kd.R_mono HO_15.out (fun _ h => ⟨h.2, h.1⟩))) hg (.inl rfl)); replace HB := am_ ((by rw [hw]; exact below_set (HB.out) GB62.out : Below w.heap.size w w65)); clear hg hw hp_))
                       (try simp only [← hl7_4])
                       go_roundg k4
                       case measure => have := HK1.out; have := HK2.out; have := HK3.out; have := HK4.out; omega
                       case rel => exact ⟨(y369), (wrap64 (x90_4 + 1)), (Sh.es), H', ⟨by have := HK1.out; have := HK2.out; have := HK3.out; have := HK4.out; omega⟩, ⟨by (try simp only [hl7_4]); (with_reducible repeat (first | apply Kd.R_alloc | apply Kd.R_drewN | apply Kd.R_drew)); exact HO_5.out⟩, ⟨by (try simp only [hl7_4]); (with_reducible repeat (first | apply Kd.R_alloc | apply Kd.R_drewN | apply Kd.R_drew)); exact HO_7.out⟩, ⟨by (try simp only [hl7_4]); (with_reducible repeat (first | apply Kd.R_alloc | apply Kd.R_drewN | apply Kd.R_drew)); exact Kd.R_mono HO_8.out (fun _ h => ⟨h.2, h.1⟩)⟩, ⟨by (try simp only [hl7_4]); (with_reducible repeat (first | apply Kd.R_alloc | apply Kd.R_drewN | apply Kd.R_drew)); exact Kd.R_mono HO_15.out (fun _ h => ⟨h.2, h.1⟩)⟩, ⟨Sh.bw⟩⟩
                      ·rw [if_neg c61] at H
                       exact absurd H (by simp)
                     ·replace c60 := Bool.eq_false_iff.mpr c60
                      subst c60
                      rw [Sh.nf] at H
                      obtain ⟨y370, hy370⟩ : ∃ y_ : List Bool, y_ = (x7_4.set (x90_4 : Int).toNat false) := ⟨_, rfl⟩
                      replace H : (impl_fairVertices.l4 k4 t342 (l0.length : Int) y370 x8_2 x15_3 l1 (l1.length : Int) x69_2 (x7_2.length : Int) (wrap64 (x90_4 + 1))) = some r := by first | (rw [hy370]; with_reducible exact H) | (have H2_ := (Option.bind_some _ _).symm.trans H; rw [hy370]; with_reducible exact H2_) | (have H2_ := (Option.bind_some _ _).symm.trans H; with_reducible exact H2_) | with_reducible exact H | (rw [hy370]; exact H) | exact H
                      have Ny370 := am_ hy370
                      clear hy370
                      have H' := am_ H
                      clear H
                      have p367 : 0 ≤ (x90_4 : Int) := Sh.od
                      have q367 : x90_4 < (x7_4.length : Int) := Sh.od
                      obtain ⟨ad367, e367, hx367_0⟩ := Kd.at_bool (Kd.R_reads' HO_7.out).2.2 x90_4 p367 q367
                      (try rw [← Nbq59.out] at hx367_0)
                      cases e367
                      replace p367 := eq_true p367
                      replace q367 := eq_true q367
                      have p66 : 0 ≤ (x90_4 : Int) := Sh.od
                      have q66 : (x90_4 : Int) < ((x7_4.length : Int) : Int) := Sh.od
                      obtain ⟨go66, co66, eo66, gb66, gl66, cl66, HG66⟩ := Kd.R_form HO_7.out (by omega)
                      (first | cases eo66 | (injection eo66 with ea_ en_ ec_; (first | subst ea_ | (injection ea_ with ea_; subst ea_)); subst ec_; clear en_))
                      have GB66 := am_ gb66
                      have GG66 := am_ HG66
                      clear gb66 gl66 HG66
                      (first | simp only [add_plain] at hx367_0 | skip)
                      obtain ⟨hx66_0, hf66_0⟩ := Kd.R_celln false HO_7.out (x90_4 : Int) p66 q66
                      replace p66 := eq_true p66
                      replace q66 := eq_true q66
                      have HP67 := Kd.R_putg HO_7.out (x90_4 : Int) false
                      go_wp2_with (first | ((with_reducible refine gate_store (t := 4) (p := 105) rfl ?_); refine store_event (t := 4) (p := 105) (v := ?vo_w68) (w1 := (wr.setCell ⟨go66, (x90_4 : Int).toNat, none⟩ (.bool false))) ?hg ?ho ?hn ?hr ?_; (case ho => rfl); (case hg => rfl); (case hn => rfl); (case hr => first | (go_simp; done) | (go_simp; rfl)); intro w68 hw; have hg : wr.grownBy w68 (some go66) := (by rw [hw]; exact HP67.2); have hp_ : Kd.R Kd.bool 4 w68 w.heap.size (fun k_ => some k_ ≠ (v349 : Value).ownBlock ∧ some k_ ≠ (v362 : Value).ownBlock) (.slice (some ⟨go66, 0, none⟩) x7_4.length co55) y370 := (by rw [hw, Ny370.out]; exact HP67.1); clear HP67; replace HO_5 := am_ (Kd.R_over' (v := (.slice (some ⟨go66, 0, none⟩) x7_4.length co55)) (Sh.rl HO_5.out) (Kd.R_typed HO_7.out) (by decide) hg); replace HO_7 := am_ hp_; replace HO_8 := am_ (Kd.R_after (v := (.slice (some ⟨go66, 0, none⟩) x7_4.length co55)) (v1 := (.slice (some ⟨go66, 0, none⟩) x7_4.length co55)) (ok := (fun k_ => some k_ ≠ (v362 : Value).ownBlock)) (Sh.rl (Kd.R_mono HO_8.out (fun _ h => ⟨h.2, h.1⟩))) hg (.inl rfl)); replace HO_15 := am_ (Kd.R_after (v := (.slice (some ⟨go66, 0, none⟩) x7_4.length co55)) (v1 := (.slice (some ⟨go66, 0, none⟩) x7_4.length co55)) (ok := (fun k_ => some k_ ≠ (v349 : Value).ownBlock)) (Sh.rl (Kd.R_mono HO_15.out (fun _ h => ⟨h.2, h.1⟩))) hg (.inl rfl)); replace HB := am_ ((by rw [hw]; exact below_set (HB.out) GB66.out : Below w.heap.size w w68)); clear hg hw hp_))
                      (try simp only [← hl7_4])
                      go_roundg k4
                      case measure => have := HK1.out; have := HK2.out; have := HK3.out; have := HK4.out; omega
                      case rel => exact ⟨(y370), (wrap64 (x90_4 + 1)), (Sh.es), H', ⟨by have := HK1.out; have := HK2.out; have := HK3.out; have := HK4.out; omega⟩, ⟨by (try simp only [hl7_4]); (with_reducible repeat (first | apply Kd.R_alloc | apply Kd.R_drewN | apply Kd.R_drew)); exact HO_5.out⟩, ⟨by (try simp only [hl7_4]); (with_reducible repeat (first | apply Kd.R_alloc | apply Kd.R_drewN | apply Kd.R_drew)); exact HO_7.out⟩, ⟨by (try simp only [hl7_4]); (with_reducible repeat (first | apply Kd.R_alloc | apply Kd.R_drewN | apply Kd.R_drew)); exact Kd.R_mono HO_8.out (fun _ h => ⟨h.2, h.1⟩)⟩, ⟨by (try simp only [hl7_4]); (with_reducible repeat (first | apply Kd.R_alloc | apply Kd.R_drewN | apply Kd.R_drew)); exact Kd.R_mono HO_15.out (fun _ h => ⟨h.2, h.1⟩)⟩, ⟨Sh.bw⟩⟩
                    ·rw [if_neg c58] at H
                     exact absurd H (by simp)
                   ·rw [if_neg c57] at H
                    exact absurd H (by simp)
                  ·rw [if_neg c56] at H
                   have c56b0 := decide_eq_false c56
                   (try simp only [hl7_4] at c56b0)
                   clear c56
                   have H' := am_ H
                   clear H
                   go_wp2
                   (try simp only [← hl7_4])
                   go_roundg k4
                   case measure => have := HK1.out; have := HK2.out; have := HK3.out; have := HK4.out; omega
                   case rel => exact ⟨(x7_4), (x8_2), (wrap64 (x69_2 + 1)), (Sh.es), H', ⟨by have := HK1.out; have := HK2.out; have := HK3.out; have := HK4.out; omega⟩, ⟨by (try simp only [hl7_4]); (with_reducible repeat (first | apply Kd.R_alloc | apply Kd.R_drewN | apply Kd.R_drew)); exact HO_5.out⟩, ⟨by (try simp only [hl7_4]); (with_reducible repeat (first | apply Kd.R_alloc | apply Kd.R_drewN | apply Kd.R_drew)); exact Kd.R_mono HO_7.out (fun _ hk => hk.1)⟩, ⟨by (try simp only [hl7_4]); (with_reducible repeat (first | apply Kd.R_alloc | apply Kd.R_drewN | apply Kd.R_drew)); exact Kd.R_mono HO_8.out (fun _ hk => hk.1)⟩, ⟨Sh.bw⟩⟩
            ·rw [if_neg c41] at H
             exact absurd H (by simp)
           ·rw [if_neg c40] at H
            exact absurd H (by simp)
          ·rw [if_neg c39] at H
           exact absurd H (by simp)
         ·rw [if_neg c38] at H
          exact absurd H (by simp)
        ·rw [if_neg c37] at H
         have c37b0 := decide_eq_false c37
         clear c37
         have H' := am_ H
         clear H
         obtain ⟨Ao69, co69, eo69⟩ := Kd.R_slice HO_8.out
         subst eo69
         go_wp2
         go_loopg [110] k2 (fun kq v110 w' => ∃ (x8_3 : List Bool) (x110_3 : Int), v110 = .int .i64 x110_3 ∧ Aside0 (impl_fairVertices.l5 kq t342 x7_2 x8_3 (x8_2.length : Int) x110_3 = some r) ∧ Aside0 (kq ≤ k2) ∧ Aside0 (Kd.R (Kd.int .i64) 3 w' w.heap.size (fun _ => True) v343 t342) ∧ Aside0 (Kd.R Kd.bool 4 w' w.heap.size (fun k_ => some k_ ≠ ((.slice Ao69 x8_2.length co69) : Value).ownBlock) v346 x7_2) ∧ Aside0 (Kd.R Kd.bool 4 w' w.heap.size (fun k_ => some k_ ≠ (v346 : Value).ownBlock) (.slice Ao69 x8_2.length co69) x8_3) ∧ Aside0 (Below w.heap.size w w'))
         case atStart => exact ⟨(x8_2), (0), (Sh.es), H', ⟨Nat.le_refl _⟩, ⟨Sh.rl HO_5.out⟩, ⟨Sh.rl HO_7.out⟩, ⟨Sh.rl HO_8.out⟩, ⟨Sh.bw⟩⟩
         case round =>
          clear H'
          try clear hx2
          try clear hf2
          try clear hx3
          try clear hf3
          try clear hx5
          try clear hf5
          try clear hx6
          try clear hf6
          try clear hx25
          try clear hf25
          try clear hx32
          try clear hf32
          try clear hx35
          try clear hx36
          try clear hx51
          try clear hf51
          try clear hx62
          try clear hf62
          try clear hx66
          try clear hf66
          try clear hx25_0
          try clear hx32_0
          try clear hx352_0
          try clear hx353_0
          try clear hx354_0
          try clear hx355_0
          try clear hx357_0
          try clear hx358_0
          try clear hx360_0
          try clear hx364_0
          try clear hx365_0
          try clear hx367_0
          try clear hx368_0
          try clear hx51_0
          try clear hx62_0
          try clear hx66_0
          obtain ⟨x8_3, x110_3, rfl, HA, HK3, HO_5, HO_7, HO_8, HB⟩ := hrel
          have hl8_3 := (Kd.R_reads' HO_8.out).1
          rw [hl8_3] at HO_8
          (try simp only [hl8_3])
          (try simp only [hl8_3] at HO_5)
          (try simp only [hl8_3] at HO_7)
          cases gk with
          | zero => exact absurd HA.out (by simp [impl_fairVertices.l5])
          | succ k3 =>
           have H := HA.out
           clear HA
           simp only [impl_fairVertices.l5] at H
           by_cases c70 : x110_3 < (x8_2.length : Int)
           ·rw [if_pos c70] at H
            have c70b0 := decide_eq_true c70
            clear c70
            by_cases c71 : 0 ≤ x110_3
            ·rw [if_pos c71] at H
             have c71b0 := decide_eq_true c71
             clear c71
             by_cases c72 : x110_3 < (t342.length : Int)
             ·rw [if_pos c72] at H
              have c72b0 := decide_eq_true c72
              clear c72
              by_cases c73 : 0 ≤ (rd t342 x110_3)
              ·rw [if_pos c73] at H
               have c73b0 := decide_eq_true c73
               clear c73
               by_cases c74 : (rd t342 x110_3) < (x7_2.length : Int)
               ·rw [if_pos c74] at H
                have c74b0 := decide_eq_true c74
                clear c74
                by_cases c75 : x110_3 < (x8_3.length : Int)
                ·rw [if_pos c75] at H
                 have c75b0 := decide_eq_true c75
                 clear c75
                 obtain ⟨y373, hy373⟩ : ∃ y_ : List Bool, y_ = (x8_3.set (x110_3 : Int).toNat (rdOf false x7_2 (rd t342 x110_3))) := ⟨_, rfl⟩
                 replace H : (impl_fairVertices.l5 k3 t342 x7_2 y373 (x8_2.length : Int) (wrap64 (x110_3 + 1))) = some r := by first | (rw [hy373]; with_reducible exact H) | (have H2_ := (Option.bind_some _ _).symm.trans H; rw [hy373]; with_reducible exact H2_) | (have H2_ := (Option.bind_some _ _).symm.trans H; with_reducible exact H2_) | with_reducible exact H | (rw [hy373]; exact H) | exact H
                 have Ny373 := am_ hy373
                 clear hy373
                 have H' := am_ H
                 clear H
                 obtain ⟨Ao77, co77, eo77⟩ := Kd.R_slice HO_5.out
                 subst eo77
                 have p371 : 0 ≤ (x110_3 : Int) := Sh.od
                 have q371 : x110_3 < (t342.length : Int) := Sh.od
                 obtain ⟨ad371, e371, hx371_0⟩ := Kd.at_int (Kd.R_reads' HO_5.out).2.2 x110_3 p371 q371
                 cases e371
                 replace p371 := eq_true p371
                 replace q371 := eq_true q371
                 obtain ⟨Ao78, co78, eo78⟩ := Kd.R_slice HO_7.out
                 subst eo78
                 have p372 : 0 ≤ ((rd t342 x110_3) : Int) := Sh.od
                 have q372 : (rd t342 x110_3) < (x7_2.length : Int) := Sh.od
                 obtain ⟨ad372, e372, hx372_0⟩ := Kd.at_bool (Kd.R_reads' HO_7.out).2.2 (rd t342 x110_3) p372 q372
                 cases e372
                 replace p372 := eq_true p372
                 replace q372 := eq_true q372
                 have p76 : 0 ≤ (x110_3 : Int) := Sh.od
                 have q76 : (x110_3 : Int) < ((x8_3.length : Int) : Int) := Sh.od
                 obtain ⟨go76, co76, eo76, gb76, gl76, cl76, HG76⟩ := Kd.R_form HO_8.out (by omega)
                 (first | cases eo76 | (injection eo76 with ea_ en_ ec_; (first | subst ea_ | (injection ea_ with ea_; subst ea_)); subst ec_; clear en_))
                 have GB76 := am_ gb76
                 have GG76 := am_ HG76
                 clear gb76 gl76 HG76
                 obtain ⟨hx76_0, hf76_0⟩ := Kd.R_celln false HO_8.out (x110_3 : Int) p76 q76
                 replace p76 := eq_true p76
                 replace q76 := eq_true q76
                 have HP79 := Kd.R_putg HO_8.out (x110_3 : Int) (rdOf false x7_2 (rd t342 x110_3))
                 go_wp2_with (first | ((with_reducible refine gate_store (t := 4) (p := 122) rfl ?_); refine store_event (t := 4) (p := 122) (v := ?vo_w80) (w1 := (wr.setCell ⟨go76, (x110_3 : Int).toNat, none⟩ (.bool (rdOf false x7_2 (rd t342 x110_3))))) ?hg ?ho ?hn ?hr ?_; (case ho => rfl); (case hg => rfl); (case hn => rfl); (case hr => first | (go_simp; done) | (go_simp; rfl)); intro w80 hw; have hg : wr.grownBy w80 (some go76) := (by rw [hw]; exact HP79.2); have hp_ : Kd.R Kd.bool 4 w80 w.heap.size (fun k_ => some k_ ≠ (.slice (some ad372) x7_2.length co78 : Value).ownBlock) (.slice (some ⟨go76, 0, none⟩) x8_3.length co69) y373 := (by rw [hw, Ny373.out]; exact HP79.1); clear HP79; replace HO_5 := am_ (Kd.R_over' (v := (.slice (some ⟨go76, 0, none⟩) x8_3.length co69)) (Sh.rl HO_5.out) (Kd.R_typed HO_8.out) (by decide) hg); replace HO_7 := am_ (Kd.R_after (v := (.slice (some ⟨go76, 0, none⟩) x8_3.length co69)) (v1 := (.slice (some ⟨go76, 0, none⟩) x8_3.length co69)) (ok := (fun _ => True)) (Sh.rl (Kd.R_mono HO_7.out (fun _ hk => ⟨trivial, hk⟩))) hg (.inl rfl)); replace HO_8 := am_ hp_; replace HB := am_ ((by rw [hw]; exact below_set (HB.out) GB76.out : Below w.heap.size w w80)); clear hg hw hp_))
                 (try simp only [← hl8_3])
                 go_roundg k3
                 case measure => have := HK1.out; have := HK2.out; have := HK3.out; omega
                 case rel => exact ⟨(y373), (wrap64 (x110_3 + 1)), (Sh.es), H', ⟨by have := HK1.out; have := HK2.out; have := HK3.out; omega⟩, ⟨by (try simp only [hl8_3]); (with_reducible repeat (first | apply Kd.R_alloc | apply Kd.R_drewN | apply Kd.R_drew)); exact HO_5.out⟩, ⟨by (try simp only [hl8_3]); (with_reducible repeat (first | apply Kd.R_alloc | apply Kd.R_drewN | apply Kd.R_drew)); exact Kd.R_mono HO_7.out (fun _ hk => hk.2)⟩, ⟨by (try simp only [hl8_3]); (with_reducible repeat (first | apply Kd.R_alloc | apply Kd.R_drewN | apply Kd.R_drew)); exact HO_8.out⟩, ⟨Sh.bw⟩⟩
                ·rw [if_neg c75] at H
                 exact absurd H (by simp)
               ·rw [if_neg c74] at H
                exact absurd H (by simp)
              ·rw [if_neg c73] at H
               exact absurd H (by simp)
             ·rw [if_neg c72] at H
              exact absurd H (by simp)
            ·rw [if_neg c71] at H
             exact absurd H (by simp)
           ·rw [if_neg c70] at H
            have c70b0 := decide_eq_false c70
            (try simp only [hl8_3] at c70b0)
            clear c70
            obtain rfl := Option.some.inj H
            go_wp2
            go_ret
            exact ⟨_, Sh.eR, Sh.rl (Kd.R_mono HO_8.out (fun _ hk => trivial)), Sh.bw⟩
  ·rw [if_neg c5] at H
   exact absurd H (by simp)
 ·rw [if_neg c4] at H
  exact absurd H (by simp)
end Go.Proofs.Ytnfpolhpanpeiaa.P
