/- Go functions of this seat as Lean functions, and the proofs that the calls come to what these say; printed by a program of this session. No condition. -/
import Derived.Test.YtnfpolhpanpeiaaP0
import Derived.Test.YtnfpolhpanpeiaaMFnExactFairLasso3
set_option linter.unusedVariables false
set_option linter.unusedSimpArgs false
set_option maxHeartbeats 40000000
set_option maxRecDepth 100000
namespace Go.Proofs.Ytnfpolhpanpeiaa.P
open Go.RowKit Go.Proofs.YtnfpolhpanpeiaaW.PrintWords Go.Proofs.YtnfpolhpanpeiaaW.PrintLast Go.Proofs.YtnfpolhpanpeiaaW.PrintMore Go.Proofs.Ytnfpolhpanpeiaa.Hof
attribute [local go_sem] max2_int min2_int max_two min_two max_three min_three max_four min_four
mutual
def impl_fairVertices.l0 : Nat → List (List Int) → List Int → Int → List Bool → List Bool → List (List Int) → Int → Int → Option (List Bool)
 | 0, _, _, _, _, _, _, _, _ => none
 | k + 1, x1, x5, x6, x7, x8, x28, x29, x30 => if x30 < x29 then (if 0 ≤ x30 then (if x30 < (x28.length : Int) then (impl_fairVertices.l1 k x1 x5 x6 x7 x8 x30 x28 x29 x30 (rd_L1 x28 x30) ((rd_L1 x28 x30).length : Int) 0) else (none)) else (none)) else (impl_fairVertices.l2 k x5 x6 x7 x8 x1 (x1.length : Int) 0)
def impl_fairVertices.l1 : Nat → List (List Int) → List Int → Int → List Bool → List Bool → Int → List (List Int) → Int → Int → List Int → Int → Int → Option (List Bool)
 | 0, _, _, _, _, _, _, _, _, _, _, _, _ => none
 | k + 1, x1, x5, x6, x7, x8, x9, x28, x29, x30, x35, x36, x37 => if x37 < x36 then (if 0 ≤ x37 then (if x37 < (x35.length : Int) then (if 0 ≤ x9 then (if x9 < (x5.length : Int) then (if 0 ≤ (rd x5 x9) then (if (rd x5 x9) < (x7.length : Int) then (if rdOf false x7 (rd x5 x9) = true then (impl_fairVertices.l1 k x1 x5 x6 (x7.set ((rd x5 x9) : Int).toNat true) x8 x9 x28 x29 x30 x35 x36 (wrap64 (x37 + 1))) else (if 0 ≤ (rd x35 x37) then (if (rd x35 x37) < (x5.length : Int) then (impl_fairVertices.l1 k x1 x5 x6 (x7.set ((rd x5 x9) : Int).toNat ((rd x5 (rd x35 x37)) == (rd x5 x9))) x8 x9 x28 x29 x30 x35 x36 (wrap64 (x37 + 1))) else (none)) else (none))) else (none)) else (none)) else (none)) else (none)) else (none)) else (none)) else (impl_fairVertices.l0 k x1 x5 x6 x7 x8 x28 x29 (wrap64 (x30 + 1)))
def impl_fairVertices.l2 : Nat → List Int → Int → List Bool → List Bool → List (List Int) → Int → Int → Option (List Bool)
 | 0, _, _, _, _, _, _, _ => none
 | k + 1, x5, x6, x7, x8, x67, x68, x69 => if x69 < x68 then (if 0 ≤ x69 then (if x69 < (x67.length : Int) then (if 0 ≤ x6 then (if (x6 : Int).toNat ≤ 281474976710656 then (impl_fairVertices.l3 k x5 x6 x7 x8 (List.replicate (x6 : Int).toNat false) x67 x68 x69 (rd_L1 x67 x69) ((rd_L1 x67 x69).length : Int) 0) else (none)) else (none)) else (none)) else (none)) else (impl_fairVertices.l5 k x5 x7 x8 (x8.length : Int) 0)
def impl_fairVertices.l3 : Nat → List Int → Int → List Bool → List Bool → List Bool → List (List Int) → Int → Int → List Int → Int → Int → Option (List Bool)
 | 0, _, _, _, _, _, _, _, _, _, _, _ => none
 | k + 1, x5, x6, x7, x8, x15, x67, x68, x69, x75, x76, x77 => if x77 < x76 then (if 0 ≤ x77 then (if x77 < (x75.length : Int) then (if 0 ≤ (rd x75 x77) then (if (rd x75 x77) < (x5.length : Int) then (if 0 ≤ (rd x5 (rd x75 x77)) then (if (rd x5 (rd x75 x77)) < (x15.length : Int) then (impl_fairVertices.l3 k x5 x6 x7 x8 (x15.set ((rd x5 (rd x75 x77)) : Int).toNat true) x67 x68 x69 x75 x76 (wrap64 (x77 + 1))) else (none)) else (none)) else (none)) else (none)) else (none)) else (none)) else (impl_fairVertices.l4 k x5 x6 x7 x8 x15 x67 x68 x69 (x7.length : Int) 0)
def impl_fairVertices.l4 : Nat → List Int → Int → List Bool → List Bool → List Bool → List (List Int) → Int → Int → Int → Int → Option (List Bool)
 | 0, _, _, _, _, _, _, _, _, _, _ => none
 | k + 1, x5, x6, x7, x8, x15, x67, x68, x69, x89, x90 => if x90 < x89 then (if 0 ≤ x90 then (if x90 < (x7.length : Int) then (if rdOf false x7 x90 = true then (if x90 < (x15.length : Int) then (impl_fairVertices.l4 k x5 x6 (x7.set (x90 : Int).toNat (rdOf false x15 x90)) x8 x15 x67 x68 x69 x89 (wrap64 (x90 + 1))) else (none)) else (impl_fairVertices.l4 k x5 x6 (x7.set (x90 : Int).toNat false) x8 x15 x67 x68 x69 x89 (wrap64 (x90 + 1)))) else (none)) else (none)) else (impl_fairVertices.l2 k x5 x6 x7 x8 x67 x68 (wrap64 (x69 + 1)))
def impl_fairVertices.l5 : Nat → List Int → List Bool → List Bool → Int → Int → Option (List Bool)
 | 0, _, _, _, _, _ => none
 | k + 1, x5, x7, x8, x109, x110 => if x110 < x109 then (if 0 ≤ x110 then (if x110 < (x5.length : Int) then (if 0 ≤ (rd x5 x110) then (if (rd x5 x110) < (x7.length : Int) then (if x110 < (x8.length : Int) then (impl_fairVertices.l5 k x5 x7 (x8.set (x110 : Int).toNat (rdOf false x7 (rd x5 x110))) x109 (wrap64 (x110 + 1))) else (none)) else (none)) else (none)) else (none)) else (none)) else (some x8)
end
def impl_fairVertices.f (k : Nat) (l0 : List (List Int)) (l1 : List (List Int)) : Option (List Bool) := (impl_parts.f k l0).bind fun t342 => (if 0 ≤ (l0.length : Int) then (if ((l0.length : Int) : Int).toNat ≤ 281474976710656 then (impl_fairVertices.l0 k l1 t342 (l0.length : Int) (List.replicate ((l0.length : Int) : Int).toNat false) (List.replicate ((l0.length : Int) : Int).toNat false) l0 (l0.length : Int) 0) else (none)) else (none))
theorem impl_fairVertices.mono_l : ∀ k, (∀ y0 y1 y2 y3 y4 y5 y6 y7, LeO (impl_fairVertices.l0 k y0 y1 y2 y3 y4 y5 y6 y7) (impl_fairVertices.l0 (k + 1) y0 y1 y2 y3 y4 y5 y6 y7)) ∧ (∀ y0 y1 y2 y3 y4 y5 y6 y7 y8 y9 y10 y11, LeO (impl_fairVertices.l1 k y0 y1 y2 y3 y4 y5 y6 y7 y8 y9 y10 y11) (impl_fairVertices.l1 (k + 1) y0 y1 y2 y3 y4 y5 y6 y7 y8 y9 y10 y11)) ∧ (∀ y0 y1 y2 y3 y4 y5 y6, LeO (impl_fairVertices.l2 k y0 y1 y2 y3 y4 y5 y6) (impl_fairVertices.l2 (k + 1) y0 y1 y2 y3 y4 y5 y6)) ∧ (∀ y0 y1 y2 y3 y4 y5 y6 y7 y8 y9 y10, LeO (impl_fairVertices.l3 k y0 y1 y2 y3 y4 y5 y6 y7 y8 y9 y10) (impl_fairVertices.l3 (k + 1) y0 y1 y2 y3 y4 y5 y6 y7 y8 y9 y10)) ∧ (∀ y0 y1 y2 y3 y4 y5 y6 y7 y8 y9, LeO (impl_fairVertices.l4 k y0 y1 y2 y3 y4 y5 y6 y7 y8 y9) (impl_fairVertices.l4 (k + 1) y0 y1 y2 y3 y4 y5 y6 y7 y8 y9)) ∧ (∀ y0 y1 y2 y3 y4, LeO (impl_fairVertices.l5 k y0 y1 y2 y3 y4) (impl_fairVertices.l5 (k + 1) y0 y1 y2 y3 y4))
 | 0 => ⟨fun _ _ _ _ _ _ _ _ r h => by simp [impl_fairVertices.l0] at h, fun _ _ _ _ _ _ _ _ _ _ _ _ r h => by simp [impl_fairVertices.l1] at h, fun _ _ _ _ _ _ _ r h => by simp [impl_fairVertices.l2] at h, fun _ _ _ _ _ _ _ _ _ _ _ r h => by simp [impl_fairVertices.l3] at h, fun _ _ _ _ _ _ _ _ _ _ r h => by simp [impl_fairVertices.l4] at h, fun _ _ _ _ _ r h => by simp [impl_fairVertices.l5] at h⟩
 | k + 1 => by
  obtain ⟨ih0, ih1, ih2, ih3, ih4, ih5⟩ := impl_fairVertices.mono_l k
  and_intros <;> intros
  all_goals (first | unfold impl_fairVertices.l0 | unfold impl_fairVertices.l1 | unfold impl_fairVertices.l2 | unfold impl_fairVertices.l3 | unfold impl_fairVertices.l4 | unfold impl_fairVertices.l5)
  all_goals repeat' with_reducible first | apply ih0 | apply ih1 | apply ih2 | apply ih3 | apply ih4 | apply ih5 | apply impl_parts.mono | exact LeO.refl _ | exact LeO.none _ | apply LeO.ite | refine LeO.bind ?_ fun _ => ?_
theorem impl_fairVertices.mono : ∀ a0 a1 k, LeO (impl_fairVertices.f k a0 a1) (impl_fairVertices.f (k + 1) a0 a1) := by
 intro a0 a1 k
 obtain ⟨ih0, ih1, ih2, ih3, ih4, ih5⟩ := impl_fairVertices.mono_l k
 unfold impl_fairVertices.f
 repeat' with_reducible first | apply ih0 | apply ih1 | apply ih2 | apply ih3 | apply ih4 | apply ih5 | apply impl_parts.mono | exact LeO.refl _ | exact LeO.none _ | apply LeO.ite | refine LeO.bind ?_ fun _ => ?_
def impl_fairVertices.T9 : Bool × List (List Nat × List Nat) := (true, [([], []), ([], []), ([], []), ([1, 2], [1, 2]), ([3], [3]), ([], []), ([], []), ([], []), ([6, 7], [6, 7]), ([8], [8]), ([5, 9], [5, 9]), ([10], [10]), ([11], [11]), ([12], [12]), ([12], [12]), ([13, 14, 12], [12, 13, 14]), ([15, 12], [12, 15]), ([12], [12]), ([12], [12]), ([17, 18, 12], [12, 17, 18]), ([19, 12], [12, 19]), ([16, 20, 12], [12, 16, 20]), ([12, 21], [12, 21]), ([0, 4, 0, 1, 2, 3, 4, 5, 6, 7, 8, 9, 10, 11, 12, 13, 14, 15, 16, 17, 18, 19, 20, 21, 22], [0, 4]), ([23, 22, 12, 0, 1, 2, 3, 4, 5, 6, 7, 8, 9, 10, 11, 12, 13, 14, 15, 16, 17, 18, 19, 20, 21, 22], [22, 23])])
def impl_fairVertices.B9 : List Nat := [0, 0, 0, 6, 14, 0, 0, 0, 192, 448, 992, 2016, 4064, 8160, 8160, 32736, 65504, 8160, 8160, 401376, 925664, 2097120, 4194272, 8388607, 16777215]
theorem impl_fairVertices.tab9 : rtab .any (opsOf Try.f57 9) = impl_fairVertices.T9 := by kernel_rfl
theorem impl_fairVertices.bits9 : waitsOk impl_fairVertices.T9.2 impl_fairVertices.B9 = true := by kernel_rfl
theorem impl_fairVertices.calls (k : Nat) (A0 : Option Addr) (c0 : Nat) (l0 : List (List Int)) (A1 : Option Addr) (c1 : Nat) (l1 : List (List Int)) (r : List Bool) (w : World) (hr0 : Kd.C (Kd.slice 3 (Kd.int .i64)) w A0 l0.length l0) (hc0 : l0.length ≤ c0) (hr1 : Kd.C (Kd.slice 3 (Kd.int .i64)) w A1 l1.length l1) (hc1 : l1.length ≤ c1) (h : impl_fairVertices.f k l0 l1 = some r) :
  Calls Try.prog 57 #[.slice A0 l0.length c0, .slice A1 l1.length c1] w fun e w' => ∃ v0_ : Value, e = .returned (v0_) ∧ Kd.R Kd.bool 4 w' w.heap.size (fun _ => True) v0_ r ∧ Below w.heap.size w w' := by
 have HR0 := am_ hr0
 have HC0 := am_ hc0
 clear hr0 hc0
 have HR1 := am_ hr1
 have HC1 := am_ hc1
 clear hr1 hc1
 have HB := am_ (Below.refl w.heap.size w)
 have H := h
 clear h
 unfold impl_fairVertices.f at H
 obtain ⟨t342, A3, H⟩ := Sh.ba H
 by_cases c4 : 0 ≤ (l0.length : Int)
 ·rw [if_pos c4] at H
  have c4b0 := eq_true c4
  have c4b1 := decide_eq_true c4
  clear c4
  by_cases c5 : ((l0.length : Int) : Int).toNat ≤ 281474976710656
  ·rw [if_pos c5] at H
   have c5b0 := eq_true c5
   have c5b1 := decide_eq_true c5
   clear c5
   obtain ⟨y345, hy345⟩ : ∃ y_ : List Bool, y_ = (List.replicate ((l0.length : Int) : Int).toNat false) := ⟨_, rfl⟩
   replace H : (impl_fairVertices.l0 k l1 t342 (l0.length : Int) y345 (List.replicate ((l0.length : Int) : Int).toNat false) l0 (l0.length : Int) 0) = some r := by first | (rw [hy345]; with_reducible exact H) | (have H2_ := (Option.bind_some _ _).symm.trans H; rw [hy345]; with_reducible exact H2_) | (have H2_ := (Option.bind_some _ _).symm.trans H; with_reducible exact H2_) | with_reducible exact H | (rw [hy345]; exact H) | exact H
   have Ny345 := am_ hy345
   clear hy345
   obtain ⟨y348, hy348⟩ : ∃ y_ : List Bool, y_ = (List.replicate ((l0.length : Int) : Int).toNat false) := ⟨_, rfl⟩
   replace H : (impl_fairVertices.l0 k l1 t342 (l0.length : Int) y345 y348 l0 (l0.length : Int) 0) = some r := by first | (rw [hy348]; with_reducible exact H) | (have H2_ := (Option.bind_some _ _).symm.trans H; rw [hy348]; with_reducible exact H2_) | (have H2_ := (Option.bind_some _ _).symm.trans H; with_reducible exact H2_) | with_reducible exact H | (rw [hy348]; exact H) | exact H
   have Ny348 := am_ hy348
   clear hy348
   have H' := am_ H
   clear H
   go_enter Try.func57, Try.ntmps57
   try go_wp2_with (first | ((with_reducible refine Sh.k 30 ?_); refine Sh.gL (some 21) Try.func30 #[.slice A0 l0.length c0] (h := ?_); (with_reducible refine (impl_parts.calls k _ _ l0 t342 _ ?side1 ?side2 A3.out).mono ?_); (case side1 => repeat (first | exact HR0.out | (with_reducible first | refine Kd.C_alloc ?_ _ | refine Kd.C_drewN ?_ _ | refine Kd.C_drew ?_))); (case side2 => exact HC0.out); rintro e w6 ⟨v343, rfl, ho0, hb⟩; refine ⟨_, rfl, ?_⟩; have HO344 := am_ (Kd.R_lower ho0 (below_size Sh.bw)); replace HB := Sh.hb hb; (try clear hb); (try clear ho0)))
   replace HO344 := am_ (Kd.R_drew HO344.out)
   replace HB := am_ (below_drew1 HB.out)
   refine start_ (n := 6) (S := fun w' => True) (ds := []) (Sh.nm 6 0) (by kernel_rfl) rfl rfl trivial (fun hHeld => ?_)
   generalize w6.drew = w7 at HO344 HB hHeld ⊢
   refine Sh.pA 0 24 (Sh.nm 6 1) (by kernel_rfl) ?_
   refine Sh.pA 2 26 (Sh.nm 6 5) (by kernel_rfl) ?_
   refine join_ (σ := Value × Value) 1 (Sh.nm 6 31) (fun s_ => [(25, s_.1), (27, s_.2), (7, s_.1)]) (fun s_ w' => (Kd.R (Kd.int .i64) 3 w' w.heap.size (fun _ => True) v343 t342) ∧ (Kd.R Kd.bool 4 w' w.heap.size (fun k_ => some k_ ≠ (s_.2 : Value).ownBlock) s_.1 y345) ∧ (Kd.R Kd.bool 4 w' w.heap.size (fun k_ => some k_ ≠ (s_.1 : Value).ownBlock) s_.2 y348) ∧ (Below w.heap.size w w')) ?_ ?_
   rotate_left
   ·intro hCont
    refine two_ (i := 1) (j := 3) (Ni := some 25) (Nj := some 27) (Sh.nm 6 7) (Sh.nm 6 13) rfl rfl rfl rfl (by kernel_rfl) (by decide) (by decide) (fun K hK => ?_) (fun K hK => ?_)
    ·skip
     refine Kd.R_make_step Kd.bool _ 4 (by rfl) (N := 25) rfl 56 _ _ rfl (l0.length : Int) rfl rfl Try.underlying56 (.bool false) 1 info4 rfl (by decide) (by omega) false (ok := fun _ => True) (okp := fun _ => True) rfl (fun _ hk => hk) trivial (of_decide_eq_true (by first | (with_reducible assumption) | assumption)) (Nat.le_trans (Nat.mul_le_mul_right _ (of_decide_eq_true (by first | (with_reducible assumption) | assumption) : (l0.length : Int).toNat ≤ 281474976710656)) (by omega)) (Below.refl _ _) (Nat.le_refl _) ?_
     intro v346 w8 ho9 hb hg_ hnew_
     clear hg_ hnew_
     (first | rw [← Ny345.out] at ho9 | (simp only [Int.reduceToNat] at ho9; rw [← Ny345.out] at ho9))
     replace HO344 := am_ (Kd.R_below (Sh.rl HO344.out) hb)
     have HO347 := am_ (Kd.R_lower ho9 (below_size Sh.bw))
     replace HB := Sh.hb hb
     clear hb ho9
     refine hK.out _ _ trivial (fun hHeld => ?_)
     clear hK K
     refine norm_ (a' := ?_) ?_ ?_
     rotate_left
     ·show Act.put _ (some 25) _ = _
      simp only [Act.put, List.setIfInBounds_toArray, List.set_cons_zero, List.set_cons_succ, i64_w, i32_w]
      rfl
     refine Sh.pA 4 7 (Sh.nm 6 23) (by kernel_rfl) ?_
     refine one_ (i := 3) (N := some 27) (Sh.nm 6 31) rfl rfl (by kernel_rfl) (by decide) (fun K hK => ?_)
     refine Kd.R_make_step Kd.bool _ 4 (by rfl) (N := 27) rfl 56 _ _ rfl (l0.length : Int) rfl rfl Try.underlying56 (.bool false) 1 info4 rfl (by decide) (by omega) false (ok := fun _ => True) (okp := fun _ => True) rfl (fun _ hk => hk) trivial (of_decide_eq_true (by first | (with_reducible assumption) | assumption)) (Nat.le_trans (Nat.mul_le_mul_right _ (of_decide_eq_true (by first | (with_reducible assumption) | assumption) : (l0.length : Int).toNat ≤ 281474976710656)) (by omega)) (Below.refl _ _) (Nat.le_refl _) ?_
     intro v349 w10 ho11 hb hg_ hnew_
     clear hg_ hnew_
     (first | rw [← Ny348.out] at ho11 | (simp only [Int.reduceToNat] at ho11; rw [← Ny348.out] at ho11))
     replace HO344 := am_ (Kd.R_below (Sh.rl HO344.out) hb)
     have HO350 := am_ (Kd.R_lower (Kd.R_new' ho11 (Kd.R_lt (Sh.rl HO347.out))) (below_size Sh.bw))
     replace HO347 := am_ (Kd.R_elder' (Sh.rl HO347.out) (Kd.R_base ho11) hb)
     replace HB := Sh.hb hb
     clear hb ho11
     refine hK.out _ _ trivial (fun hHeld => ?_)
     clear hK K
     refine norm_ (a' := ?_) ?_ ?_
     rotate_left
     ·show Act.put _ (some 27) _ = _
      simp only [Act.put, List.setIfInBounds_toArray, List.set_cons_zero, List.set_cons_succ, i64_w, i32_w]
      rfl
     exact norm_ (by simp only [putAll, Act.put, List.setIfInBounds_toArray, List.set_cons_zero, List.set_cons_succ]) (hCont (v346, v349) _ ⟨(Sh.rl HO344.out), (Sh.rl (Kd.R_mono HO347.out (fun _ hk => hk.2))), (Sh.rl (Kd.R_mono HO350.out (fun _ hk => hk.2))), Sh.bw⟩)
    ·skip
     refine Kd.R_make_step Kd.bool _ 4 (by rfl) (N := 27) rfl 56 _ _ rfl (l0.length : Int) rfl rfl Try.underlying56 (.bool false) 1 info4 rfl (by decide) (by omega) false (ok := fun _ => True) (okp := fun _ => True) rfl (fun _ hk => hk) trivial (of_decide_eq_true (by first | (with_reducible assumption) | assumption)) (Nat.le_trans (Nat.mul_le_mul_right _ (of_decide_eq_true (by first | (with_reducible assumption) | assumption) : (l0.length : Int).toNat ≤ 281474976710656)) (by omega)) (Below.refl _ _) (Nat.le_refl _) ?_
     intro v349 w8 ho9 hb hg_ hnew_
     clear hg_ hnew_
     (first | rw [← Ny348.out] at ho9 | (simp only [Int.reduceToNat] at ho9; rw [← Ny348.out] at ho9))
     replace HO344 := am_ (Kd.R_below (Sh.rl HO344.out) hb)
     have HO350 := am_ (Kd.R_lower ho9 (below_size Sh.bw))
     replace HB := Sh.hb hb
     clear hb ho9
     refine hK.out _ _ trivial (fun hHeld => ?_)
     clear hK K
     refine norm_ (a' := ?_) ?_ ?_
     rotate_left
     ·show Act.put _ (some 27) _ = _
      simp only [Act.put, List.setIfInBounds_toArray, List.set_cons_zero, List.set_cons_succ, i64_w, i32_w]
      rfl
     refine one_ (i := 1) (N := some 25) (Sh.nm 6 15) rfl rfl (by kernel_rfl) (by decide) (fun K hK => ?_)
     refine Kd.R_make_step Kd.bool _ 4 (by rfl) (N := 25) rfl 56 _ _ rfl (l0.length : Int) rfl rfl Try.underlying56 (.bool false) 1 info4 rfl (by decide) (by omega) false (ok := fun _ => True) (okp := fun _ => True) rfl (fun _ hk => hk) trivial (of_decide_eq_true (by first | (with_reducible assumption) | assumption)) (Nat.le_trans (Nat.mul_le_mul_right _ (of_decide_eq_true (by first | (with_reducible assumption) | assumption) : (l0.length : Int).toNat ≤ 281474976710656)) (by omega)) (Below.refl _ _) (Nat.le_refl _) ?_
     intro v346 w10 ho11 hb hg_ hnew_
     clear hg_ hnew_
     (first | rw [← Ny345.out] at ho11 | (simp only [Int.reduceToNat] at ho11; rw [← Ny345.out] at ho11))
     replace HO344 := am_ (Kd.R_below (Sh.rl HO344.out) hb)
     have HO347 := am_ (Kd.R_lower (Kd.R_new' ho11 (Kd.R_lt (Sh.rl HO350.out))) (below_size Sh.bw))
     replace HO350 := am_ (Kd.R_elder' (Sh.rl HO350.out) (Kd.R_base ho11) hb)
     replace HB := Sh.hb hb
     clear hb ho11
     refine hK.out _ _ trivial (fun hHeld => ?_)
     clear hK K
     refine norm_ (a' := ?_) ?_ ?_
     rotate_left
     ·show Act.put _ (some 25) _ = _
      simp only [Act.put, List.setIfInBounds_toArray, List.set_cons_zero, List.set_cons_succ, i64_w, i32_w]
      rfl
     refine Sh.pA 4 7 (Sh.nm 6 31) (by kernel_rfl) ?_
     exact norm_ (by simp only [putAll, Act.put, List.setIfInBounds_toArray, List.set_cons_zero, List.set_cons_succ]) (hCont (v346, v349) _ ⟨(Sh.rl HO344.out), (Sh.rl (Kd.R_mono HO347.out (fun _ hk => hk.2))), (Sh.rl (Kd.R_mono HO350.out (fun _ hk => hk.2))), Sh.bw⟩)
   rintro ⟨v346, v349⟩ w12 ⟨h0_, h1_, h2_, h3_⟩
   have n0_ : Aside0 (Kd.R (Kd.int .i64) 3 w12 w.heap.size (fun _ => True) v343 t342) := ⟨h0_⟩
   have n1_ : Aside0 (Kd.R Kd.bool 4 w12 w.heap.size (fun k_ => some k_ ≠ (v349 : Value).ownBlock) v346 y345) := ⟨h1_⟩
   have n2_ : Aside0 (Kd.R Kd.bool 4 w12 w.heap.size (fun k_ => some k_ ≠ (v346 : Value).ownBlock) v349 y348) := ⟨h2_⟩
   have n3_ : Aside0 (Below w.heap.size w w12) := ⟨h3_⟩
   clear HO344
   clear HB
   clear h0_ h1_ h2_ h3_
   have HO344 := n0_
   have HO347 := n1_
   have HO350 := n2_
   have HB := n3_
   clear n0_ n1_ n2_ n3_
   have hHeld := trivial
   refine norm_ (a' := ?_) ?_ ?_
   rotate_left
   ·simp only [putAll, Act.put, List.setIfInBounds_toArray, List.set_cons_zero, List.set_cons_succ]
    rfl
   refine Sh.pA 5 8 (Sh.nm 6 63) (by kernel_rfl) ?_
   refine done_ (by kernel_rfl) ?_
   try go_wp2
   go_loopg [30] k (fun kq v30 w' => ∃ (x7_1 : List Bool) (x30_1 : Int), v30 = .int .i64 x30_1 ∧ Aside0 (impl_fairVertices.l0 kq l1 t342 (l0.length : Int) x7_1 y348 l0 (l0.length : Int) x30_1 = some r) ∧ Aside0 (kq ≤ k) ∧ Aside0 (Kd.R (Kd.int .i64) 3 w' w.heap.size (fun _ => True) v343 t342) ∧ Aside0 (Kd.R Kd.bool 4 w' w.heap.size (fun k_ => some k_ ≠ (v349 : Value).ownBlock) v346 x7_1) ∧ Aside0 (Kd.R Kd.bool 4 w' w.heap.size (fun k_ => some k_ ≠ (v346 : Value).ownBlock) v349 y348) ∧ Aside0 (Below w.heap.size w w'))
   case atStart => exact ⟨(y345), (0), (Sh.es), H', ⟨Nat.le_refl _⟩, ⟨Sh.rl HO344.out⟩, ⟨Sh.rl HO347.out⟩, ⟨Sh.rl HO350.out⟩, ⟨Sh.bw⟩⟩
   case round =>
    clear H'
    obtain ⟨x7_1, x30_1, rfl, HA, HK1, HO_5, HO_7, HO_8, HB⟩ := hrel
    cases gk with
    | zero => exact absurd HA.out (by simp [impl_fairVertices.l0])
    | succ k1 =>
     have H := HA.out
     clear HA
     simp only [impl_fairVertices.l0] at H
     by_cases c13 : x30_1 < (l0.length : Int)
     ·rw [if_pos c13] at H
      replace c13 := decide_eq_true c13
      by_cases c14 : 0 ≤ x30_1
      ·rw [if_pos c14] at H
       replace c14 := decide_eq_true c14
       by_cases c15 : x30_1 < (l0.length : Int)
       ·rw [if_pos c15] at H
        replace c15 := decide_eq_true c15
        have H' := am_ H
        clear H
        have p351 : 0 ≤ (x30_1 : Int) := Sh.od
        have q351 : x30_1 < (l0.length : Int) := Sh.od
        obtain ⟨ad351, A351_0, c351_0, e351, hx351_0, hl351_0, hi351_0⟩ := at_L1 HR0.out x30_1 p351 q351
        cases e351
        try replace hx351_0 := Sh.cw hx351_0
        have HR351_0 := am_ hi351_0
        have HC351_0 := am_ hl351_0
        clear hi351_0 hl351_0
        replace p351 := eq_true p351
        replace q351 := eq_true q351
        go_wp2
        go_loopg [37] k1 (fun kq v37 w' => ∃ (x7_2 : List Bool) (x37_2 : Int), v37 = .int .i64 x37_2 ∧ Aside0 (impl_fairVertices.l1 kq l1 t342 (l0.length : Int) x7_2 y348 x30_1 l0 (l0.length : Int) x30_1 (rd_L1 l0 x30_1) ((rd_L1 l0 x30_1).length : Int) x37_2 = some r) ∧ Aside0 (kq ≤ k1) ∧ Aside0 (Kd.R (Kd.int .i64) 3 w' w.heap.size (fun _ => True) v343 t342) ∧ Aside0 (Kd.R Kd.bool 4 w' w.heap.size (fun k_ => some k_ ≠ (v349 : Value).ownBlock) v346 x7_2) ∧ Aside0 (Kd.R Kd.bool 4 w' w.heap.size (fun k_ => some k_ ≠ (v346 : Value).ownBlock) v349 y348) ∧ Aside0 (Below w.heap.size w w'))
        case atStart => exact ⟨(x7_1), (0), (Sh.es), H', ⟨Nat.le_refl _⟩, ⟨Sh.rl HO_5.out⟩, ⟨Sh.rl HO_7.out⟩, ⟨Sh.rl HO_8.out⟩, ⟨Sh.bw⟩⟩
        case round =>
         clear H'
         try clear hx3
         try clear hx351_0
         obtain ⟨x7_2, x37_2, rfl, HA, HK2, HO_5, HO_7, HO_8, HB⟩ := hrel
         cases gk with
         | zero => exact absurd HA.out (by simp [impl_fairVertices.l1])
         | succ k2 =>
          have H := HA.out
          clear HA
          simp only [impl_fairVertices.l1] at H
          by_cases c16 : x37_2 < ((rd_L1 l0 x30_1).length : Int)
          ·rw [if_pos c16] at H
           replace c16 := decide_eq_true c16
           by_cases c17 : 0 ≤ x37_2
           ·rw [if_pos c17] at H
            replace c17 := decide_eq_true c17
            by_cases c18 : x37_2 < ((rd_L1 l0 x30_1).length : Int)
            ·rw [if_pos c18] at H
             replace c18 := decide_eq_true c18
             by_cases c19 : 0 ≤ x30_1
             ·rw [if_pos c19] at H
              replace c19 := decide_eq_true c19
              by_cases c20 : x30_1 < (t342.length : Int)
              ·rw [if_pos c20] at H
               replace c20 := decide_eq_true c20
               by_cases c21 : 0 ≤ (rd t342 x30_1)
               ·rw [if_pos c21] at H
                replace c21 := decide_eq_true c21
                by_cases c22 : (rd t342 x30_1) < (x7_2.length : Int)
                ·rw [if_pos c22] at H
                 replace c22 := decide_eq_true c22
                 obtain ⟨bq23, hbq23⟩ : ∃ b_ : Bool, b_ = (rdOf false x7_2 (rd t342 x30_1)) := ⟨_, rfl⟩
                 replace H : (if bq23 = true then (impl_fairVertices.l1 k2 l1 t342 (l0.length : Int) (x7_2.set ((rd t342 x30_1) : Int).toNat true) y348 x30_1 l0 (l0.length : Int) x30_1 (rd_L1 l0 x30_1) ((rd_L1 l0 x30_1).length : Int) (wrap64 (x37_2 + 1))) else (if 0 ≤ (rd (rd_L1 l0 x30_1) x37_2) then (if (rd (rd_L1 l0 x30_1) x37_2) < (t342.length : Int) then (impl_fairVertices.l1 k2 l1 t342 (l0.length : Int) (x7_2.set ((rd t342 x30_1) : Int).toNat ((rd t342 (rd (rd_L1 l0 x30_1) x37_2)) == (rd t342 x30_1))) y348 x30_1 l0 (l0.length : Int) x30_1 (rd_L1 l0 x30_1) ((rd_L1 l0 x30_1).length : Int) (wrap64 (x37_2 + 1))) else (none)) else (none))) = some r := by rw [← hbq23] at H; exact H
                 have Nbq23 := am_ hbq23
                 clear hbq23
                 by_cases c24 : bq23 = true
                 ·subst c24
                  rw [if_pos rfl] at H
                  obtain ⟨y356, hy356⟩ : ∃ y_ : List Bool, y_ = (x7_2.set ((rd t342 x30_1) : Int).toNat true) := ⟨_, rfl⟩
                  replace H : (impl_fairVertices.l1 k2 l1 t342 (l0.length : Int) y356 y348 x30_1 l0 (l0.length : Int) x30_1 (rd_L1 l0 x30_1) ((rd_L1 l0 x30_1).length : Int) (wrap64 (x37_2 + 1))) = some r := by first | (rw [hy356]; with_reducible exact H) | (have H2_ := (Option.bind_some _ _).symm.trans H; rw [hy356]; with_reducible exact H2_) | (have H2_ := (Option.bind_some _ _).symm.trans H; with_reducible exact H2_) | with_reducible exact H | (rw [hy356]; exact H) | exact H
                  have Ny356 := am_ hy356
                  clear hy356
                  have H' := am_ H
                  clear H
                  have p352 : 0 ≤ (x37_2 : Int) := Sh.od
                  have q352 : x37_2 < ((rd_L1 l0 x30_1).length : Int) := Sh.od
                  obtain ⟨ad352, e352, hx352_0⟩ := Kd.at_int HR351_0.out x37_2 p352 q352
                  cases e352
                  try replace hx352_0 := Sh.cw hx352_0
                  replace p352 := eq_true p352
                  replace q352 := eq_true q352
                  try go_wp2
                  replace HO_5 := am_ (Kd.R_drew HO_5.out)
                  replace HO_7 := am_ (Kd.R_drew HO_7.out)
                  replace HO_8 := am_ (Kd.R_drew HO_8.out)
                  replace HB := am_ (below_drew1 HB.out)
                  obtain ⟨Ao27, co27, eo27⟩ := Kd.R_slice HO_5.out
                  (first | subst eo27 | (injection eo27 with f1_ f2_ f3_; have f4_ := f1_.symm; have f5_ := f3_.symm; clear f1_ f2_ f3_; subst f4_; subst f5_))
                  have p353 : 0 ≤ (x30_1 : Int) := Sh.od
                  have q353 : x30_1 < (t342.length : Int) := Sh.od
                  obtain ⟨ad353, e353, hx353_0⟩ := Kd.at_int (Kd.R_reads' HO_5.out).2.2 x30_1 p353 q353
                  cases e353
                  replace p353 := eq_true p353
                  replace q353 := eq_true q353
                  have p354 : 0 ≤ (x30_1 : Int) := Sh.od
                  have q354 : x30_1 < (t342.length : Int) := Sh.od
                  obtain ⟨ad354, e354, hx354_0⟩ := Kd.at_int (Kd.R_reads' HO_5.out).2.2 x30_1 p354 q354
                  obtain rfl : ad353 = ad354 := (by injection e354)
                  replace p354 := eq_true p354
                  replace q354 := eq_true q354
                  obtain ⟨Ao28, co28, eo28⟩ := Kd.R_slice HO_7.out
                  (first | subst eo28 | (injection eo28 with f1_ f2_ f3_; have f4_ := f1_.symm; have f5_ := f3_.symm; clear f1_ f2_ f3_; subst f4_; subst f5_))
                  have p355 : 0 ≤ ((rd t342 x30_1) : Int) := Sh.od
                  have q355 : (rd t342 x30_1) < (x7_2.length : Int) := Sh.od
                  obtain ⟨ad355, e355, hx355_0⟩ := Kd.at_bool (Kd.R_reads' HO_7.out).2.2 (rd t342 x30_1) p355 q355
                  (try rw [← Nbq23.out] at hx355_0)
                  cases e355
                  replace p355 := eq_true p355
                  replace q355 := eq_true q355
                  have p25 : 0 ≤ ((rd t342 x30_1) : Int) := Sh.od
                  have q25 : ((rd t342 x30_1) : Int) < ((x7_2.length : Int) : Int) := Sh.od
                  obtain ⟨go25, co25, eo25, gb25, gl25, cl25, HG25⟩ := Kd.R_form HO_7.out (by omega)
                  (first | cases eo25 | (injection eo25 with ea_ en_ ec_; (first | subst ea_ | (injection ea_ with ea_; subst ea_)); subst ec_; clear en_))
                  have GB25 := am_ gb25
                  have GG25 := am_ HG25
                  clear gb25 gl25 HG25
                  (first | simp only [add_plain] at hx355_0 | skip)
                  obtain ⟨hx25_0, hf25_0⟩ := Kd.R_celln false HO_7.out ((rd t342 x30_1) : Int) p25 q25
                  replace p25 := eq_true p25
                  replace q25 := eq_true q25
                  have HP29 := Kd.R_putn HO_7.out ((rd t342 x30_1) : Int) true
                  rw [← Ny356.out] at HP29
                  have HQ29 := am_ HP29
                  clear HP29
                  refine start_ (n := 25) (S := fun w' => w'.cell? (ad353.add (x30_1).toNat) = some (.int .i64 (rd t342 x30_1)) ∧ w'.cell? (ad353.add (x30_1).toNat) = some (.int .i64 (rd t342 x30_1)) ∧ w'.cell? ⟨go25, ((rd t342 x30_1)).toNat, none⟩ = some (.bool true)) (ds := [24]) (Sh.nm 25 0) (by kernel_rfl) rfl rfl ⟨hx353_0, hx354_0, hx355_0⟩ (fun hHeld => ?_); refine with_tabW impl_fairVertices.tab9 impl_fairVertices.bits9 (fun HT_ HW_ => ?_)
                  generalize wr.drew = w26 at HO_5 HO_7 HO_8 HB GG25 HQ29 hf25_0 hx25_0 hx353_0 hx354_0 hx355_0 hHeld ⊢
                  refine Sh.qA 0 ?_; refine Sh.qA 1 ?_; refine Sh.qA 2 ?_; refine Sh.qA 3 ?_; refine Sh.qA 5 ?_; refine Sh.qA 6 ?_; refine Sh.qA 7 ?_; refine Sh.qA 8 ?_; refine Sh.qT 4 hHeld ?_; refine Sh.qT 9 hHeld ?_; refine Sh.qA 10 ?_; refine Sh.qT 11 hHeld ?_; refine Sh.qA 12 ?_; refine Sh.qU 13 ?_; refine Sh.qU 14 ?_; refine Sh.qU 15 ?_; refine Sh.qU 16 ?_; refine Sh.qU 17 ?_; refine Sh.qU 18 ?_; refine Sh.qU 19 ?_; refine Sh.qU 20 ?_; refine Sh.qU 21 ?_; refine Sh.qA 22 ?_; refine Sh.qA 23 ?_
                  refine last_ (i := 24) (N := none) (Sh.nm 25 33554431) rfl rfl (one_of HT_.out (by kernel_rfl)) (by decide) (fun K hK => ?_)
                  refine skip_ (w1 := ?_) (by rfl) rfl ?_ ?_
                  rotate_left
                  ·go_simp
                   rfl
                  refine hK.out _ _ ?_
                  clear hK K
                  refine done_ (done_of HT_.out (by kernel_rfl)) ?_
                  try go_wp2
                  go_roundg k2
                  case measure => have := HK1.out; have := HK2.out; omega
                  case rel => exact ⟨(y356), (wrap64 (x37_2 + 1)), (Sh.es), H', ⟨by have := HK1.out; have := HK2.out; omega⟩, ⟨Sh.rl (Kd.R_mono (Kd.R_far (p := ⟨go25, ((rd t342 x30_1) : Int).toNat, none⟩) (Kd.R_types HO_5.out GG25.out (by decide)) (fun _ hk => hk.2) (.bool true)) (fun _ hk => trivial))⟩, ⟨by (with_reducible repeat (first | apply Kd.R_alloc | apply Kd.R_drewN | apply Kd.R_drew)); exact HQ29.out⟩, ⟨Sh.rl (Kd.R_mono (Kd.R_far (p := ⟨go25, ((rd t342 x30_1) : Int).toNat, none⟩) (Kd.R_mono HO_8.out (fun k_ hk => (⟨hk, fun e_ => hk (by rw [e_]; rfl)⟩ : _ ∧ k_ ≠ go25))) (fun _ hk => hk.2) (.bool true)) (fun _ hk => hk.1))⟩, ⟨Sh.bw⟩⟩
                 ·replace c24 := Bool.eq_false_iff.mpr c24
                  subst c24
                  rw [Sh.nf] at H
                  by_cases c30 : 0 ≤ (rd (rd_L1 l0 x30_1) x37_2)
                  ·rw [if_pos c30] at H
                   replace c30 := decide_eq_true c30
                   by_cases c31 : (rd (rd_L1 l0 x30_1) x37_2) < (t342.length : Int)
                   ·rw [if_pos c31] at H
                    replace c31 := decide_eq_true c31
                    obtain ⟨y359, hy359⟩ : ∃ y_ : List Bool, y_ = (x7_2.set ((rd t342 x30_1) : Int).toNat ((rd t342 (rd (rd_L1 l0 x30_1) x37_2)) == (rd t342 x30_1))) := ⟨_, rfl⟩
                    replace H : (impl_fairVertices.l1 k2 l1 t342 (l0.length : Int) y359 y348 x30_1 l0 (l0.length : Int) x30_1 (rd_L1 l0 x30_1) ((rd_L1 l0 x30_1).length : Int) (wrap64 (x37_2 + 1))) = some r := by first | (rw [hy359]; with_reducible exact H) | (have H2_ := (Option.bind_some _ _).symm.trans H; rw [hy359]; with_reducible exact H2_) | (have H2_ := (Option.bind_some _ _).symm.trans H; with_reducible exact H2_) | with_reducible exact H | (rw [hy359]; exact H) | exact H
                    have Ny359 := am_ hy359
                    clear hy359
                    have H' := am_ H
                    clear H
                    have p352 : 0 ≤ (x37_2 : Int) := Sh.od
                    have q352 : x37_2 < ((rd_L1 l0 x30_1).length : Int) := Sh.od
                    obtain ⟨ad352, e352, hx352_0⟩ := Kd.at_int HR351_0.out x37_2 p352 q352
                    cases e352
                    try replace hx352_0 := Sh.cw hx352_0
                    replace p352 := eq_true p352
                    replace q352 := eq_true q352
                    try go_wp2
                    replace HO_5 := am_ (Kd.R_drew HO_5.out)
                    replace HO_7 := am_ (Kd.R_drew HO_7.out)
                    replace HO_8 := am_ (Kd.R_drew HO_8.out)
                    replace HB := am_ (below_drew1 HB.out)
                    obtain ⟨Ao34, co34, eo34⟩ := Kd.R_slice HO_5.out
                    (first | subst eo34 | (injection eo34 with f1_ f2_ f3_; have f4_ := f1_.symm; have f5_ := f3_.symm; clear f1_ f2_ f3_; subst f4_; subst f5_))
                    have p353 : 0 ≤ (x30_1 : Int) := Sh.od
                    have q353 : x30_1 < (t342.length : Int) := Sh.od
                    obtain ⟨ad353, e353, hx353_0⟩ := Kd.at_int (Kd.R_reads' HO_5.out).2.2 x30_1 p353 q353
                    cases e353
                    replace p353 := eq_true p353
                    replace q353 := eq_true q353
                    have p354 : 0 ≤ (x30_1 : Int) := Sh.od
                    have q354 : x30_1 < (t342.length : Int) := Sh.od
                    obtain ⟨ad354, e354, hx354_0⟩ := Kd.at_int (Kd.R_reads' HO_5.out).2.2 x30_1 p354 q354
                    obtain rfl : ad353 = ad354 := (by injection e354)
                    replace p354 := eq_true p354
                    replace q354 := eq_true q354
                    obtain ⟨Ao35, co35, eo35⟩ := Kd.R_slice HO_7.out
                    (first | subst eo35 | (injection eo35 with f1_ f2_ f3_; have f4_ := f1_.symm; have f5_ := f3_.symm; clear f1_ f2_ f3_; subst f4_; subst f5_))
                    have p355 : 0 ≤ ((rd t342 x30_1) : Int) := Sh.od
                    have q355 : (rd t342 x30_1) < (x7_2.length : Int) := Sh.od
                    obtain ⟨ad355, e355, hx355_0⟩ := Kd.at_bool (Kd.R_reads' HO_7.out).2.2 (rd t342 x30_1) p355 q355
                    (try rw [← Nbq23.out] at hx355_0)
                    cases e355
                    replace p355 := eq_true p355
                    replace q355 := eq_true q355
                    have p357 : 0 ≤ ((rd (rd_L1 l0 x30_1) x37_2) : Int) := Sh.od
                    have q357 : (rd (rd_L1 l0 x30_1) x37_2) < (t342.length : Int) := Sh.od
                    obtain ⟨ad357, e357, hx357_0⟩ := Kd.at_int (Kd.R_reads' HO_5.out).2.2 (rd (rd_L1 l0 x30_1) x37_2) p357 q357
                    obtain rfl : ad353 = ad357 := (by injection e357)
                    replace p357 := eq_true p357
                    replace q357 := eq_true q357
                    have p358 : 0 ≤ (x30_1 : Int) := Sh.od
                    have q358 : x30_1 < (t342.length : Int) := Sh.od
                    obtain ⟨ad358, e358, hx358_0⟩ := Kd.at_int (Kd.R_reads' HO_5.out).2.2 x30_1 p358 q358
                    obtain rfl : ad353 = ad358 := (by injection e358)
                    replace p358 := eq_true p358
                    replace q358 := eq_true q358
                    have p32 : 0 ≤ ((rd t342 x30_1) : Int) := Sh.od
                    have q32 : ((rd t342 x30_1) : Int) < ((x7_2.length : Int) : Int) := Sh.od
                    obtain ⟨go32, co32, eo32, gb32, gl32, cl32, HG32⟩ := Kd.R_form HO_7.out (by omega)
                    (first | cases eo32 | (injection eo32 with ea_ en_ ec_; (first | subst ea_ | (injection ea_ with ea_; subst ea_)); subst ec_; clear en_))
                    have GB32 := am_ gb32
                    have GG32 := am_ HG32
                    clear gb32 gl32 HG32
                    (first | simp only [add_plain] at hx355_0 | skip)
                    obtain ⟨hx32_0, hf32_0⟩ := Kd.R_celln false HO_7.out ((rd t342 x30_1) : Int) p32 q32
                    replace p32 := eq_true p32
                    replace q32 := eq_true q32
                    have HP36 := Kd.R_putn HO_7.out ((rd t342 x30_1) : Int) ((rd t342 (rd (rd_L1 l0 x30_1) x37_2)) == (rd t342 x30_1))
                    rw [← Ny359.out] at HP36
                    have HQ36 := am_ HP36
                    clear HP36
                    refine start_ (n := 25) (S := fun w' => w'.cell? (ad353.add (x30_1).toNat) = some (.int .i64 (rd t342 x30_1)) ∧ w'.cell? (ad353.add (x30_1).toNat) = some (.int .i64 (rd t342 x30_1)) ∧ w'.cell? ⟨go32, ((rd t342 x30_1)).toNat, none⟩ = some (.bool false) ∧ w'.cell? (ad353.add ((rd (rd_L1 l0 x30_1) x37_2)).toNat) = some (.int .i64 (rd t342 (rd (rd_L1 l0 x30_1) x37_2))) ∧ w'.cell? (ad353.add (x30_1).toNat) = some (.int .i64 (rd t342 x30_1))) (ds := [24]) (Sh.nm 25 0) (by kernel_rfl) rfl rfl ⟨hx353_0, hx354_0, hx355_0, hx357_0, hx358_0⟩ (fun hHeld => ?_); refine with_tabW impl_fairVertices.tab9 impl_fairVertices.bits9 (fun HT_ HW_ => ?_)
                    generalize wr.drew = w33 at HO_5 HO_7 HO_8 HB GG32 HQ36 hf32_0 hx32_0 hx353_0 hx354_0 hx355_0 hx357_0 hx358_0 hHeld ⊢
                    refine Sh.qA 0 ?_; refine Sh.qA 1 ?_; refine Sh.qA 2 ?_; refine Sh.qA 3 ?_; refine Sh.qA 5 ?_; refine Sh.qA 6 ?_; refine Sh.qA 7 ?_; refine Sh.qA 8 ?_; refine Sh.qT 4 hHeld ?_; refine Sh.qT 9 hHeld ?_; refine Sh.qA 10 ?_; refine Sh.qT 11 hHeld ?_; refine Sh.qA 12 ?_; refine Sh.qA 13 ?_; refine Sh.qA 14 ?_; refine Sh.qA 15 ?_; refine Sh.qA 17 ?_; refine Sh.qA 18 ?_; refine Sh.qA 19 ?_; refine Sh.qT 16 hHeld ?_; refine Sh.qT 20 hHeld ?_; refine Sh.qA 21 ?_; refine Sh.qA 22 ?_; refine Sh.qA 23 ?_
                    refine last_ (i := 24) (N := none) (Sh.nm 25 33554431) rfl rfl (one_of HT_.out (by kernel_rfl)) (by decide) (fun K hK => ?_)
                    refine skip_ (w1 := ?_) (by rfl) rfl ?_ ?_
                    rotate_left
                    ·go_simp
                     rfl
                    refine hK.out _ _ ?_
                    clear hK K
                    refine done_ (done_of HT_.out (by kernel_rfl)) ?_
                    try go_wp2
                    go_roundg k2
                    case measure => have := HK1.out; have := HK2.out; omega
                    case rel => exact ⟨(y359), (wrap64 (x37_2 + 1)), (Sh.es), H', ⟨by have := HK1.out; have := HK2.out; omega⟩, ⟨Sh.rl (Kd.R_mono (Kd.R_far (p := ⟨go32, ((rd t342 x30_1) : Int).toNat, none⟩) (Kd.R_types HO_5.out GG32.out (by decide)) (fun _ hk => hk.2) (.bool ((rd t342 (rd (rd_L1 l0 x30_1) x37_2)) == (rd t342 x30_1)))) (fun _ hk => trivial))⟩, ⟨by (with_reducible repeat (first | apply Kd.R_alloc | apply Kd.R_drewN | apply Kd.R_drew)); exact HQ36.out⟩, ⟨Sh.rl (Kd.R_mono (Kd.R_far (p := ⟨go32, ((rd t342 x30_1) : Int).toNat, none⟩) (Kd.R_mono HO_8.out (fun k_ hk => (⟨hk, fun e_ => hk (by rw [e_]; rfl)⟩ : _ ∧ k_ ≠ go32))) (fun _ hk => hk.2) (.bool ((rd t342 (rd (rd_L1 l0 x30_1) x37_2)) == (rd t342 x30_1)))) (fun _ hk => hk.1))⟩, ⟨Sh.bw⟩⟩
                   ·rw [if_neg c31] at H
                    cases H
                  ·rw [if_neg c30] at H
                   cases H
                ·rw [if_neg c22] at H
                 cases H
               ·rw [if_neg c21] at H
                cases H
              ·rw [if_neg c20] at H
               cases H
             ·rw [if_neg c19] at H
              cases H
            ·rw [if_neg c18] at H
             cases H
           ·rw [if_neg c17] at H
            cases H
          ·rw [if_neg c16] at H
           replace c16 := decide_eq_false c16
           have H' := am_ H
           clear H
           go_wp2
           go_roundg k2
           case measure => have := HK1.out; have := HK2.out; omega
           case rel => exact ⟨(x7_2), (wrap64 (x30_1 + 1)), (Sh.es), H', ⟨by have := HK1.out; have := HK2.out; omega⟩, ⟨Sh.rl HO_5.out⟩, ⟨Sh.rl HO_7.out⟩, ⟨Sh.rl HO_8.out⟩, ⟨Sh.bw⟩⟩
       ·rw [if_neg c15] at H
        cases H
      ·rw [if_neg c14] at H
       cases H
     ·rw [if_neg c13] at H
      replace c13 := decide_eq_false c13
      have H' := am_ H
      clear H
      go_wp2
      go_loopg [69] k1 (fun kq v69 w' => ∃ (x7_2 : List Bool) (x8_2 : List Bool) (x69_2 : Int), v69 = .int .i64 x69_2 ∧ Aside0 (impl_fairVertices.l2 kq t342 (l0.length : Int) x7_2 x8_2 l1 (l1.length : Int) x69_2 = some r) ∧ Aside0 (kq ≤ k1) ∧ Aside0 (Kd.R (Kd.int .i64) 3 w' w.heap.size (fun _ => True) v343 t342) ∧ Aside0 (Kd.R Kd.bool 4 w' w.heap.size (fun k_ => some k_ ≠ (v349 : Value).ownBlock) v346 x7_2) ∧ Aside0 (Kd.R Kd.bool 4 w' w.heap.size (fun k_ => some k_ ≠ (v346 : Value).ownBlock) v349 x8_2) ∧ Aside0 (Below w.heap.size w w'))
      case atStart => exact ⟨(x7_1), (y348), (0), (Sh.es), H', ⟨Nat.le_refl _⟩, ⟨Sh.rl HO_5.out⟩, ⟨Sh.rl HO_7.out⟩, ⟨Sh.rl HO_8.out⟩, ⟨Sh.bw⟩⟩
      case round =>
       clear H'
       try clear hx2
       try clear hf2
       try clear hx3
       try clear hf3
       try clear hx25
       try clear hf25
       try clear hx32
       try clear hf32
       try clear hx35
       try clear hx25_0
       try clear hx32_0
       try clear hx352_0
       try clear hx353_0
       try clear hx354_0
       try clear hx355_0
       try clear hx357_0
       try clear hx358_0
       obtain ⟨x7_2, x8_2, x69_2, rfl, HA, HK2, HO_5, HO_7, HO_8, HB⟩ := hrel
       cases gk with
       | zero => exact absurd HA.out (by simp [impl_fairVertices.l2])
       | succ k2 =>
        have H := HA.out
        clear HA
        simp only [impl_fairVertices.l2] at H
        by_cases c37 : x69_2 < (l1.length : Int)
        ·rw [if_pos c37] at H
         replace c37 := decide_eq_true c37
         by_cases c38 : 0 ≤ x69_2
         ·rw [if_pos c38] at H
          replace c38 := decide_eq_true c38
          by_cases c39 : x69_2 < (l1.length : Int)
          ·rw [if_pos c39] at H
           replace c39 := decide_eq_true c39
           by_cases c40 : 0 ≤ (l0.length : Int)
           ·rw [if_pos c40] at H
            have c40b0 := eq_true c40
            have c40b1 := decide_eq_true c40
            clear c40
            by_cases c41 : ((l0.length : Int) : Int).toNat ≤ 281474976710656
            ·rw [if_pos c41] at H
             have c41b0 := eq_true c41
             have c41b1 := decide_eq_true c41
             clear c41
             obtain ⟨y361, hy361⟩ : ∃ y_ : List Bool, y_ = (List.replicate ((l0.length : Int) : Int).toNat false) := ⟨_, rfl⟩
             replace H : (impl_fairVertices.l3 k2 t342 (l0.length : Int) x7_2 x8_2 y361 l1 (l1.length : Int) x69_2 (rd_L1 l1 x69_2) ((rd_L1 l1 x69_2).length : Int) 0) = some r := by first | (rw [hy361]; with_reducible exact H) | (have H2_ := (Option.bind_some _ _).symm.trans H; rw [hy361]; with_reducible exact H2_) | (have H2_ := (Option.bind_some _ _).symm.trans H; with_reducible exact H2_) | with_reducible exact H | (rw [hy361]; exact H) | exact H
             have Ny361 := am_ hy361
             clear hy361
             have H' := am_ H
             clear H
             have p360 : 0 ≤ (x69_2 : Int) := Sh.od
             have q360 : x69_2 < (l1.length : Int) := Sh.od
             obtain ⟨ad360, A360_0, c360_0, e360, hx360_0, hl360_0, hi360_0⟩ := at_L1 HR1.out x69_2 p360 q360
             cases e360
             try replace hx360_0 := Sh.cw hx360_0
             have HR360_0 := am_ hi360_0
             have HC360_0 := am_ hl360_0
             clear hi360_0 hl360_0
             replace p360 := eq_true p360
             replace q360 := eq_true q360
             go_wp2_with (first | ((with_reducible refine Sh.d 74 ?_); refine Kd.R_make Kd.bool _ 4 rfl (N := 74) rfl 56 _ _ rfl (l0.length : Int) rfl rfl Try.underlying56 (.bool false) 1 info4 rfl (by decide) (by omega) false (ok := fun _ => True) (okp := fun _ => True) rfl (fun _ hk => hk) trivial (of_decide_eq_true (by first | (with_reducible assumption) | assumption)) (Nat.le_trans (Nat.mul_le_mul_right _ (of_decide_eq_true (by first | (with_reducible assumption) | assumption) : (l0.length : Int).toNat ≤ 281474976710656)) (by omega)) (Below.refl _ _) (Nat.le_refl _) ?_; intro v362 w42 ho43 hb hg_ hnew_; clear hg_ hnew_; (first | rw [← Ny361.out] at ho43 | (simp only [Int.reduceToNat] at ho43; rw [← Ny361.out] at ho43)); replace HO_5 := am_ (Kd.R_below (Sh.rl HO_5.out) hb); have HO363 := am_ (Kd.R_lower (Kd.R_new' (Kd.R_new' ho43 (Kd.R_lt (Sh.rl HO_7.out))) (Kd.R_lt (Sh.rl HO_8.out))) (below_size Sh.bw)); replace HO_7 := am_ (Kd.R_elder' (Sh.rl HO_7.out) (Kd.R_base ho43) hb); replace HO_8 := am_ (Kd.R_elder' (Sh.rl HO_8.out) (Kd.R_base ho43) hb); replace HB := Sh.hb hb; clear hb ho43))
             go_loopg [77] k2 (fun kq v77 w' => ∃ (x15_3 : List Bool) (x77_3 : Int), v77 = .int .i64 x77_3 ∧ Aside0 (impl_fairVertices.l3 kq t342 (l0.length : Int) x7_2 x8_2 x15_3 l1 (l1.length : Int) x69_2 (rd_L1 l1 x69_2) ((rd_L1 l1 x69_2).length : Int) x77_3 = some r) ∧ Aside0 (kq ≤ k2) ∧ Aside0 (Kd.R (Kd.int .i64) 3 w' w.heap.size (fun _ => True) v343 t342) ∧ Aside0 (Kd.R Kd.bool 4 w' w.heap.size (fun k_ => some k_ ≠ (v349 : Value).ownBlock ∧ some k_ ≠ (v362 : Value).ownBlock) v346 x7_2) ∧ Aside0 (Kd.R Kd.bool 4 w' w.heap.size (fun k_ => some k_ ≠ (v346 : Value).ownBlock ∧ some k_ ≠ (v362 : Value).ownBlock) v349 x8_2) ∧ Aside0 (Kd.R Kd.bool 4 w' w.heap.size (fun k_ => some k_ ≠ (v346 : Value).ownBlock ∧ some k_ ≠ (v349 : Value).ownBlock) v362 x15_3) ∧ Aside0 (Below w.heap.size w w'))
             case atStart => exact ⟨(y361), (0), (Sh.es), H', ⟨Nat.le_refl _⟩, ⟨Sh.rl HO_5.out⟩, ⟨Sh.rl HO_7.out⟩, ⟨Sh.rl HO_8.out⟩, ⟨Sh.rl (Kd.R_mono HO363.out (fun _ h => ⟨h.1.2, h.2⟩))⟩, ⟨Sh.bw⟩⟩
             case round =>
              clear H'
              try clear hx2
              try clear hf2
              try clear hx3
              try clear hf3
              try clear hx25
              try clear hf25
              try clear hx32
              try clear hf32
              try clear hx35
              try clear hx36
              try clear hx25_0
              try clear hx32_0
              try clear hx352_0
              try clear hx353_0
              try clear hx354_0
              try clear hx355_0
              try clear hx357_0
              try clear hx358_0
              try clear hx360_0
              obtain ⟨x15_3, x77_3, rfl, HA, HK3, HO_5, HO_7, HO_8, HO_15, HB⟩ := hrel
              cases gk with
              | zero => exact absurd HA.out (by simp [impl_fairVertices.l3])
              | succ k3 =>
               have H := HA.out
               clear HA
               simp only [impl_fairVertices.l3] at H
               by_cases c44 : x77_3 < ((rd_L1 l1 x69_2).length : Int)
               ·rw [if_pos c44] at H
                replace c44 := decide_eq_true c44
                by_cases c45 : 0 ≤ x77_3
                ·rw [if_pos c45] at H
                 replace c45 := decide_eq_true c45
                 by_cases c46 : x77_3 < ((rd_L1 l1 x69_2).length : Int)
                 ·rw [if_pos c46] at H
                  replace c46 := decide_eq_true c46
                  by_cases c47 : 0 ≤ (rd (rd_L1 l1 x69_2) x77_3)
                  ·rw [if_pos c47] at H
                   replace c47 := decide_eq_true c47
                   by_cases c48 : (rd (rd_L1 l1 x69_2) x77_3) < (t342.length : Int)
                   ·rw [if_pos c48] at H
                    replace c48 := decide_eq_true c48
                    by_cases c49 : 0 ≤ (rd t342 (rd (rd_L1 l1 x69_2) x77_3))
                    ·rw [if_pos c49] at H
                     replace c49 := decide_eq_true c49
                     by_cases c50 : (rd t342 (rd (rd_L1 l1 x69_2) x77_3)) < (x15_3.length : Int)
                     ·rw [if_pos c50] at H
                      replace c50 := decide_eq_true c50
                      obtain ⟨y366, hy366⟩ : ∃ y_ : List Bool, y_ = (x15_3.set ((rd t342 (rd (rd_L1 l1 x69_2) x77_3)) : Int).toNat true) := ⟨_, rfl⟩
                      replace H : (impl_fairVertices.l3 k3 t342 (l0.length : Int) x7_2 x8_2 y366 l1 (l1.length : Int) x69_2 (rd_L1 l1 x69_2) ((rd_L1 l1 x69_2).length : Int) (wrap64 (x77_3 + 1))) = some r := by first | (rw [hy366]; with_reducible exact H) | (have H2_ := (Option.bind_some _ _).symm.trans H; rw [hy366]; with_reducible exact H2_) | (have H2_ := (Option.bind_some _ _).symm.trans H; with_reducible exact H2_) | with_reducible exact H | (rw [hy366]; exact H) | exact H
                      have Ny366 := am_ hy366
                      clear hy366
                      have H' := am_ H
                      clear H
                      have p364 : 0 ≤ (x77_3 : Int) := Sh.od
                      have q364 : x77_3 < ((rd_L1 l1 x69_2).length : Int) := Sh.od
                      obtain ⟨ad364, e364, hx364_0⟩ := Kd.at_int HR360_0.out x77_3 p364 q364
                      cases e364
                      try replace hx364_0 := Sh.cw hx364_0
                      replace p364 := eq_true p364
                      replace q364 := eq_true q364
                      obtain ⟨Ao52, co52, eo52⟩ := Kd.R_slice HO_5.out
                      subst eo52
                      have p365 : 0 ≤ ((rd (rd_L1 l1 x69_2) x77_3) : Int) := Sh.od
                      have q365 : (rd (rd_L1 l1 x69_2) x77_3) < (t342.length : Int) := Sh.od
                      obtain ⟨ad365, e365, hx365_0⟩ := Kd.at_int (Kd.R_reads' HO_5.out).2.2 (rd (rd_L1 l1 x69_2) x77_3) p365 q365
                      cases e365
                      replace p365 := eq_true p365
                      replace q365 := eq_true q365
                      have p51 : 0 ≤ ((rd t342 (rd (rd_L1 l1 x69_2) x77_3)) : Int) := Sh.od
                      have q51 : ((rd t342 (rd (rd_L1 l1 x69_2) x77_3)) : Int) < ((x15_3.length : Int) : Int) := Sh.od
                      obtain ⟨go51, co51, eo51, gb51, gl51, cl51, HG51⟩ := Kd.R_form HO_15.out (by omega)
                      (first | cases eo51 | (injection eo51 with ea_ en_ ec_; (first | subst ea_ | (injection ea_ with ea_; subst ea_)); subst ec_; clear en_))
                      have GB51 := am_ gb51
                      have GG51 := am_ HG51
                      clear gb51 gl51 HG51
                      obtain ⟨hx51_0, hf51_0⟩ := Kd.R_celln false HO_15.out ((rd t342 (rd (rd_L1 l1 x69_2) x77_3)) : Int) p51 q51
                      replace p51 := eq_true p51
                      replace q51 := eq_true q51
                      have HP53 := Kd.R_putg HO_15.out ((rd t342 (rd (rd_L1 l1 x69_2) x77_3)) : Int) true
                      go_wp2_with (first | ((with_reducible refine gate_store (t := 4) (p := 86) rfl ?_); refine store_event (t := 4) (p := 86) (v := ?vo_w54) (w1 := (wr.setCell ⟨go51, ((rd t342 (rd (rd_L1 l1 x69_2) x77_3)) : Int).toNat, none⟩ (.bool true))) ?hg ?ho ?hn ?hr ?_; (case ho => rfl); (case hg => rfl); (case hn => rfl); (case hr => first | (go_simp; done) | (go_simp; rfl)); intro w54 hw; have hg : wr.grownBy w54 (some go51) := (by rw [hw]; exact HP53.2); have hp_ : Kd.R Kd.bool 4 w54 w.heap.size (fun k_ => some k_ ≠ (v346 : Value).ownBlock ∧ some k_ ≠ (v349 : Value).ownBlock) (.slice (some ⟨go51, 0, none⟩) x15_3.length co51) y366 := (by rw [hw, Ny366.out]; exact HP53.1); clear HP53; replace HO_5 := am_ (Kd.R_over' (v := (.slice (some ⟨go51, 0, none⟩) x15_3.length co51)) (Sh.rl HO_5.out) (Kd.R_typed HO_15.out) (by decide) hg); replace HO_7 := am_ (Kd.R_after (v := (.slice (some ⟨go51, 0, none⟩) x15_3.length co51)) (v1 := (.slice (some ⟨go51, 0, none⟩) x15_3.length co51)) (ok := (fun k_ => some k_ ≠ (v349 : Value).ownBlock)) (Sh.rl HO_7.out) hg (.inl rfl)); replace HO_8 := am_ (Kd.R_after (v := (.slice (some ⟨go51, 0, none⟩) x15_3.length co51)) (v1 := (.slice (some ⟨go51, 0, none⟩) x15_3.length co51)) (ok := (fun k_ => some k_ ≠ (v346 : Value).ownBlock)) (Sh.rl HO_8.out) hg (.inl rfl)); replace HO_15 := am_ hp_; replace HB := am_ ((by rw [hw]; exact below_set (HB.out) GB51.out : Below w.heap.size w w54)); clear hg hw hp_))
                      go_roundg k3
                      case measure => have := HK1.out; have := HK2.out; have := HK3.out; omega
                      case rel => exact ⟨(y366), (wrap64 (x77_3 + 1)), (Sh.es), H', ⟨by have := HK1.out; have := HK2.out; have := HK3.out; omega⟩, ⟨Sh.rl HO_5.out⟩, ⟨Sh.rl HO_7.out⟩, ⟨Sh.rl HO_8.out⟩, ⟨Sh.rl HO_15.out⟩, ⟨Sh.bw⟩⟩
                     ·rw [if_neg c50] at H
                      cases H
                    ·rw [if_neg c49] at H
                     cases H
                   ·rw [if_neg c48] at H
                    cases H
                  ·rw [if_neg c47] at H
                   cases H
                 ·rw [if_neg c46] at H
                  cases H
                ·rw [if_neg c45] at H
                 cases H
               ·rw [if_neg c44] at H
                replace c44 := decide_eq_false c44
                have H' := am_ H
                clear H
                obtain ⟨Ao55, co55, eo55⟩ := Kd.R_slice HO_7.out
                subst eo55
                go_wp2
                go_loopg [90] k3 (fun kq v90 w' => ∃ (x7_4 : List Bool) (x90_4 : Int), v90 = .int .i64 x90_4 ∧ Aside0 (impl_fairVertices.l4 kq t342 (l0.length : Int) x7_4 x8_2 x15_3 l1 (l1.length : Int) x69_2 (x7_2.length : Int) x90_4 = some r) ∧ Aside0 (kq ≤ k3) ∧ Aside0 (Kd.R (Kd.int .i64) 3 w' w.heap.size (fun _ => True) v343 t342) ∧ Aside0 (Kd.R Kd.bool 4 w' w.heap.size (fun k_ => some k_ ≠ (v349 : Value).ownBlock ∧ some k_ ≠ (v362 : Value).ownBlock) (.slice Ao55 x7_2.length co55) x7_4) ∧ Aside0 (Kd.R Kd.bool 4 w' w.heap.size (fun k_ => some k_ ≠ ((.slice Ao55 x7_2.length co55) : Value).ownBlock ∧ some k_ ≠ (v362 : Value).ownBlock) v349 x8_2) ∧ Aside0 (Kd.R Kd.bool 4 w' w.heap.size (fun k_ => some k_ ≠ ((.slice Ao55 x7_2.length co55) : Value).ownBlock ∧ some k_ ≠ (v349 : Value).ownBlock) v362 x15_3) ∧ Aside0 (Below w.heap.size w w'))
                case atStart => exact ⟨(x7_2), (0), (Sh.es), H', ⟨Nat.le_refl _⟩, ⟨Sh.rl HO_5.out⟩, ⟨Sh.rl HO_7.out⟩, ⟨Sh.rl HO_8.out⟩, ⟨Sh.rl HO_15.out⟩, ⟨Sh.bw⟩⟩
                case round =>
                 clear H'
                 try clear hx2
                 try clear hf2
                 try clear hx3
                 try clear hf3
                 try clear hx5
                 try clear hf5
                 try clear hx25
                 try clear hf25
                 try clear hx32
                 try clear hf32
                 try clear hx35
                 try clear hx36
                 try clear hx51
                 try clear hf51
                 try clear hx25_0
                 try clear hx32_0
                 try clear hx352_0
                 try clear hx353_0
                 try clear hx354_0
                 try clear hx355_0
                 try clear hx357_0
                 try clear hx358_0
                 try clear hx360_0
                 try clear hx364_0
                 try clear hx365_0
                 try clear hx51_0
                 obtain ⟨x7_4, x90_4, rfl, HA, HK4, HO_5, HO_7, HO_8, HO_15, HB⟩ := hrel
                 have hl7_4 := (Kd.R_reads' HO_7.out).1
                 rw [hl7_4] at HO_7
                 (try simp only [hl7_4])
                 (try simp only [hl7_4] at HO_5)
                 (try simp only [hl7_4] at HO_8)
                 (try simp only [hl7_4] at HO_15)
                 cases gk with
                 | zero => exact absurd HA.out (by simp [impl_fairVertices.l4])
                 | succ k4 =>
                  have H := HA.out
                  clear HA
                  simp only [impl_fairVertices.l4] at H
                  by_cases c56 : x90_4 < (x7_2.length : Int)
                  ·rw [if_pos c56] at H
                   have c56b0 := decide_eq_true c56
                   clear c56
                   by_cases c57 : 0 ≤ x90_4
                   ·rw [if_pos c57] at H
                    replace c57 := decide_eq_true c57
                    by_cases c58 : x90_4 < (x7_4.length : Int)
                    ·rw [if_pos c58] at H
                     replace c58 := decide_eq_true c58
                     obtain ⟨bq59, hbq59⟩ : ∃ b_ : Bool, b_ = (rdOf false x7_4 x90_4) := ⟨_, rfl⟩
                     replace H : (if bq59 = true then (if x90_4 < (x15_3.length : Int) then (impl_fairVertices.l4 k4 t342 (l0.length : Int) (x7_4.set (x90_4 : Int).toNat (rdOf false x15_3 x90_4)) x8_2 x15_3 l1 (l1.length : Int) x69_2 (x7_2.length : Int) (wrap64 (x90_4 + 1))) else (none)) else (impl_fairVertices.l4 k4 t342 (l0.length : Int) (x7_4.set (x90_4 : Int).toNat false) x8_2 x15_3 l1 (l1.length : Int) x69_2 (x7_2.length : Int) (wrap64 (x90_4 + 1)))) = some r := by rw [← hbq59] at H; exact H
                     have Nbq59 := am_ hbq59
                     clear hbq59
                     by_cases c60 : bq59 = true
                     ·subst c60
                      rw [if_pos rfl] at H
                      by_cases c61 : x90_4 < (x15_3.length : Int)
                      ·rw [if_pos c61] at H
                       replace c61 := decide_eq_true c61
                       obtain ⟨y369, hy369⟩ : ∃ y_ : List Bool, y_ = (x7_4.set (x90_4 : Int).toNat (rdOf false x15_3 x90_4)) := ⟨_, rfl⟩
                       replace H : (impl_fairVertices.l4 k4 t342 (l0.length : Int) y369 x8_2 x15_3 l1 (l1.length : Int) x69_2 (x7_2.length : Int) (wrap64 (x90_4 + 1))) = some r := by first | (rw [hy369]; with_reducible exact H) | (have H2_ := (Option.bind_some _ _).symm.trans H; rw [hy369]; with_reducible exact H2_) | (have H2_ := (Option.bind_some _ _).symm.trans H; with_reducible exact H2_) | with_reducible exact H | (rw [hy369]; exact H) | exact H
                       have Ny369 := am_ hy369
                       clear hy369
                       have H' := am_ H
                       clear H
                       have p367 : 0 ≤ (x90_4 : Int) := Sh.od
                       have q367 : x90_4 < (x7_4.length : Int) := Sh.od
                       obtain ⟨ad367, e367, hx367_0⟩ := Kd.at_bool (Kd.R_reads' HO_7.out).2.2 x90_4 p367 q367
                       (try rw [← Nbq59.out] at hx367_0)
                       cases e367
                       replace p367 := eq_true p367
                       replace q367 := eq_true q367
                       obtain ⟨Ao63, co63, eo63⟩ := Kd.R_slice HO_15.out
                       subst eo63
                       have p368 : 0 ≤ (x90_4 : Int) := Sh.od
                       have q368 : x90_4 < (x15_3.length : Int) := Sh.od
                       obtain ⟨ad368, e368, hx368_0⟩ := Kd.at_bool (Kd.R_reads' HO_15.out).2.2 x90_4 p368 q368
                       (try rw [← Nbq59.out] at hx368_0)
                       cases e368
                       replace p368 := eq_true p368
                       replace q368 := eq_true q368
                       have p62 : 0 ≤ (x90_4 : Int) := Sh.od
                       have q62 : (x90_4 : Int) < ((x7_4.length : Int) : Int) := Sh.od
                       obtain ⟨go62, co62, eo62, gb62, gl62, cl62, HG62⟩ := Kd.R_form HO_7.out (by omega)
                       (first | cases eo62 | (injection eo62 with ea_ en_ ec_; (first | subst ea_ | (injection ea_ with ea_; subst ea_)); subst ec_; clear en_))
                       have GB62 := am_ gb62
                       have GG62 := am_ HG62
                       clear gb62 gl62 HG62
                       (first | simp only [add_plain] at hx367_0 | skip)
                       obtain ⟨hx62_0, hf62_0⟩ := Kd.R_celln false HO_7.out (x90_4 : Int) p62 q62
                       replace p62 := eq_true p62
                       replace q62 := eq_true q62
                       have HP64 := Kd.R_putg HO_7.out (x90_4 : Int) (rdOf false x15_3 x90_4)
                       go_wp2_with (first | ((with_reducible refine gate_store (t := 4) (p := 105) rfl ?_); refine store_event (t := 4) (p := 105) (v := ?vo_w65) (w1 := (wr.setCell ⟨go62, (x90_4 : Int).toNat, none⟩ (.bool (rdOf false x15_3 x90_4)))) ?hg ?ho ?hn ?hr ?_; (case ho => rfl); (case hg => rfl); (case hn => rfl); (case hr => first | (go_simp; done) | (go_simp; rfl)); intro w65 hw; have hg : wr.grownBy w65 (some go62) := (by rw [hw]; exact HP64.2); have hp_ : Kd.R Kd.bool 4 w65 w.heap.size (fun k_ => some k_ ≠ (v349 : Value).ownBlock ∧ some k_ ≠ (.slice (some ad368) x15_3.length co63 : Value).ownBlock) (.slice (some ⟨go62, 0, none⟩) x7_4.length co55) y369 := (by rw [hw, Ny369.out]; exact HP64.1); clear HP64; replace HO_5 := am_ (Kd.R_over' (v := (.slice (some ⟨go62, 0, none⟩) x7_4.length co55)) (Sh.rl HO_5.out) (Kd.R_typed HO_7.out) (by decide) hg); replace HO_7 := am_ hp_; replace HO_8 := am_ (Kd.R_after (v := (.slice (some ⟨go62, 0, none⟩) x7_4.length co55)) (v1 := (.slice (some ⟨go62, 0, none⟩) x7_4.length co55)) (ok := (fun k_ => some k_ ≠ (.slice (some ad368) x15_3.length co63 : Value).ownBlock)) (Sh.rl (Kd.R_mono HO_8.out (fun _ h => ⟨h.2, h.1⟩))) hg (.inl rfl)); replace HO_15 := am_ (Kd.R_after (v := (.slice (some ⟨go62, 0, none⟩) x7_4.length co55)) (v1 := (.slice (some ⟨go62, 0, none⟩) x7_4.length co55)) (ok := (fun k_ => some k_ ≠ (v349 : Value).ownBlock)) (Sh.rl (Kd.R_mono HO_15.out (fun _ h => ⟨h.2, h.1⟩))) hg (.inl rfl)); replace HB := am_ ((by rw [hw]; exact below_set (HB.out) GB62.out : Below w.heap.size w w65)); clear hg hw hp_))
                       (try simp only [← hl7_4])
                       go_roundg k4
                       case measure => have := HK1.out; have := HK2.out; have := HK3.out; have := HK4.out; omega
                       case rel => exact ⟨(y369), (wrap64 (x90_4 + 1)), (Sh.es), H', ⟨by have := HK1.out; have := HK2.out; have := HK3.out; have := HK4.out; omega⟩, ⟨by (try simp only [hl7_4]); (with_reducible repeat (first | apply Kd.R_alloc | apply Kd.R_drewN | apply Kd.R_drew)); exact HO_5.out⟩, ⟨by (try simp only [hl7_4]); (with_reducible repeat (first | apply Kd.R_alloc | apply Kd.R_drewN | apply Kd.R_drew)); exact HO_7.out⟩, ⟨by (try simp only [hl7_4]); (with_reducible repeat (first | apply Kd.R_alloc | apply Kd.R_drewN | apply Kd.R_drew)); exact Kd.R_mono HO_8.out (fun _ h => ⟨h.2, h.1⟩)⟩, ⟨by (try simp only [hl7_4]); (with_reducible repeat (first | apply Kd.R_alloc | apply Kd.R_drewN | apply Kd.R_drew)); exact Kd.R_mono HO_15.out (fun _ h => ⟨h.2, h.1⟩)⟩, ⟨Sh.bw⟩⟩
                      ·rw [if_neg c61] at H
                       cases H
                     ·replace c60 := Bool.eq_false_iff.mpr c60
                      subst c60
                      rw [Sh.nf] at H
                      obtain ⟨y370, hy370⟩ : ∃ y_ : List Bool, y_ = (x7_4.set (x90_4 : Int).toNat false) := ⟨_, rfl⟩
                      replace H : (impl_fairVertices.l4 k4 t342 (l0.length : Int) y370 x8_2 x15_3 l1 (l1.length : Int) x69_2 (x7_2.length : Int) (wrap64 (x90_4 + 1))) = some r := by first | (rw [hy370]; with_reducible exact H) | (have H2_ := (Option.bind_some _ _).symm.trans H; rw [hy370]; with_reducible exact H2_) | (have H2_ := (Option.bind_some _ _).symm.trans H; with_reducible exact H2_) | with_reducible exact H | (rw [hy370]; exact H) | exact H
                      have Ny370 := am_ hy370
                      clear hy370
                      have H' := am_ H
                      clear H
                      have p367 : 0 ≤ (x90_4 : Int) := Sh.od
                      have q367 : x90_4 < (x7_4.length : Int) := Sh.od
                      obtain ⟨ad367, e367, hx367_0⟩ := Kd.at_bool (Kd.R_reads' HO_7.out).2.2 x90_4 p367 q367
                      (try rw [← Nbq59.out] at hx367_0)
                      cases e367
                      replace p367 := eq_true p367
                      replace q367 := eq_true q367
                      have p66 : 0 ≤ (x90_4 : Int) := Sh.od
                      have q66 : (x90_4 : Int) < ((x7_4.length : Int) : Int) := Sh.od
                      obtain ⟨go66, co66, eo66, gb66, gl66, cl66, HG66⟩ := Kd.R_form HO_7.out (by omega)
                      (first | cases eo66 | (injection eo66 with ea_ en_ ec_; (first | subst ea_ | (injection ea_ with ea_; subst ea_)); subst ec_; clear en_))
                      have GB66 := am_ gb66
                      have GG66 := am_ HG66
                      clear gb66 gl66 HG66
                      (first | simp only [add_plain] at hx367_0 | skip)
                      obtain ⟨hx66_0, hf66_0⟩ := Kd.R_celln false HO_7.out (x90_4 : Int) p66 q66
                      replace p66 := eq_true p66
                      replace q66 := eq_true q66
                      have HP67 := Kd.R_putg HO_7.out (x90_4 : Int) false
                      go_wp2_with (first | ((with_reducible refine gate_store (t := 4) (p := 105) rfl ?_); refine store_event (t := 4) (p := 105) (v := ?vo_w68) (w1 := (wr.setCell ⟨go66, (x90_4 : Int).toNat, none⟩ (.bool false))) ?hg ?ho ?hn ?hr ?_; (case ho => rfl); (case hg => rfl); (case hn => rfl); (case hr => first | (go_simp; done) | (go_simp; rfl)); intro w68 hw; have hg : wr.grownBy w68 (some go66) := (by rw [hw]; exact HP67.2); have hp_ : Kd.R Kd.bool 4 w68 w.heap.size (fun k_ => some k_ ≠ (v349 : Value).ownBlock ∧ some k_ ≠ (v362 : Value).ownBlock) (.slice (some ⟨go66, 0, none⟩) x7_4.length co55) y370 := (by rw [hw, Ny370.out]; exact HP67.1); clear HP67; replace HO_5 := am_ (Kd.R_over' (v := (.slice (some ⟨go66, 0, none⟩) x7_4.length co55)) (Sh.rl HO_5.out) (Kd.R_typed HO_7.out) (by decide) hg); replace HO_7 := am_ hp_; replace HO_8 := am_ (Kd.R_after (v := (.slice (some ⟨go66, 0, none⟩) x7_4.length co55)) (v1 := (.slice (some ⟨go66, 0, none⟩) x7_4.length co55)) (ok := (fun k_ => some k_ ≠ (v362 : Value).ownBlock)) (Sh.rl (Kd.R_mono HO_8.out (fun _ h => ⟨h.2, h.1⟩))) hg (.inl rfl)); replace HO_15 := am_ (Kd.R_after (v := (.slice (some ⟨go66, 0, none⟩) x7_4.length co55)) (v1 := (.slice (some ⟨go66, 0, none⟩) x7_4.length co55)) (ok := (fun k_ => some k_ ≠ (v349 : Value).ownBlock)) (Sh.rl (Kd.R_mono HO_15.out (fun _ h => ⟨h.2, h.1⟩))) hg (.inl rfl)); replace HB := am_ ((by rw [hw]; exact below_set (HB.out) GB66.out : Below w.heap.size w w68)); clear hg hw hp_))
                      (try simp only [← hl7_4])
                      go_roundg k4
                      case measure => have := HK1.out; have := HK2.out; have := HK3.out; have := HK4.out; omega
                      case rel => exact ⟨(y370), (wrap64 (x90_4 + 1)), (Sh.es), H', ⟨by have := HK1.out; have := HK2.out; have := HK3.out; have := HK4.out; omega⟩, ⟨by (try simp only [hl7_4]); (with_reducible repeat (first | apply Kd.R_alloc | apply Kd.R_drewN | apply Kd.R_drew)); exact HO_5.out⟩, ⟨by (try simp only [hl7_4]); (with_reducible repeat (first | apply Kd.R_alloc | apply Kd.R_drewN | apply Kd.R_drew)); exact HO_7.out⟩, ⟨by (try simp only [hl7_4]); (with_reducible repeat (first | apply Kd.R_alloc | apply Kd.R_drewN | apply Kd.R_drew)); exact Kd.R_mono HO_8.out (fun _ h => ⟨h.2, h.1⟩)⟩, ⟨by (try simp only [hl7_4]); (with_reducible repeat (first | apply Kd.R_alloc | apply Kd.R_drewN | apply Kd.R_drew)); exact Kd.R_mono HO_15.out (fun _ h => ⟨h.2, h.1⟩)⟩, ⟨Sh.bw⟩⟩
                    ·rw [if_neg c58] at H
                     cases H
                   ·rw [if_neg c57] at H
                    cases H
                  ·rw [if_neg c56] at H
                   have c56b0 := decide_eq_false c56
                   (try simp only [hl7_4] at c56b0)
                   clear c56
                   have H' := am_ H
                   clear H
                   go_wp2
                   (try simp only [← hl7_4])
                   go_roundg k4
                   case measure => have := HK1.out; have := HK2.out; have := HK3.out; have := HK4.out; omega
                   case rel => exact ⟨(x7_4), (x8_2), (wrap64 (x69_2 + 1)), (Sh.es), H', ⟨by have := HK1.out; have := HK2.out; have := HK3.out; have := HK4.out; omega⟩, ⟨by (try simp only [hl7_4]); (with_reducible repeat (first | apply Kd.R_alloc | apply Kd.R_drewN | apply Kd.R_drew)); exact HO_5.out⟩, ⟨by (try simp only [hl7_4]); (with_reducible repeat (first | apply Kd.R_alloc | apply Kd.R_drewN | apply Kd.R_drew)); exact Kd.R_mono HO_7.out (fun _ hk => hk.1)⟩, ⟨by (try simp only [hl7_4]); (with_reducible repeat (first | apply Kd.R_alloc | apply Kd.R_drewN | apply Kd.R_drew)); exact Kd.R_mono HO_8.out (fun _ hk => hk.1)⟩, ⟨Sh.bw⟩⟩
            ·rw [if_neg c41] at H
             cases H
           ·rw [if_neg c40] at H
            cases H
          ·rw [if_neg c39] at H
           cases H
         ·rw [if_neg c38] at H
          cases H
        ·rw [if_neg c37] at H
         replace c37 := decide_eq_false c37
         have H' := am_ H
         clear H
         obtain ⟨Ao69, co69, eo69⟩ := Kd.R_slice HO_8.out
         subst eo69
         go_wp2
         go_loopg [110] k2 (fun kq v110 w' => ∃ (x8_3 : List Bool) (x110_3 : Int), v110 = .int .i64 x110_3 ∧ Aside0 (impl_fairVertices.l5 kq t342 x7_2 x8_3 (x8_2.length : Int) x110_3 = some r) ∧ Aside0 (kq ≤ k2) ∧ Aside0 (Kd.R (Kd.int .i64) 3 w' w.heap.size (fun _ => True) v343 t342) ∧ Aside0 (Kd.R Kd.bool 4 w' w.heap.size (fun k_ => some k_ ≠ ((.slice Ao69 x8_2.length co69) : Value).ownBlock) v346 x7_2) ∧ Aside0 (Kd.R Kd.bool 4 w' w.heap.size (fun k_ => some k_ ≠ (v346 : Value).ownBlock) (.slice Ao69 x8_2.length co69) x8_3) ∧ Aside0 (Below w.heap.size w w'))
         case atStart => exact ⟨(x8_2), (0), (Sh.es), H', ⟨Nat.le_refl _⟩, ⟨Sh.rl HO_5.out⟩, ⟨Sh.rl HO_7.out⟩, ⟨Sh.rl HO_8.out⟩, ⟨Sh.bw⟩⟩
         case round =>
          clear H'
          try clear hx2
          try clear hf2
          try clear hx3
          try clear hf3
          try clear hx5
          try clear hf5
          try clear hx6
          try clear hf6
          try clear hx25
          try clear hf25
          try clear hx32
          try clear hf32
          try clear hx35
          try clear hx36
          try clear hx51
          try clear hf51
          try clear hx62
          try clear hf62
          try clear hx66
          try clear hf66
          try clear hx25_0
          try clear hx32_0
          try clear hx352_0
          try clear hx353_0
          try clear hx354_0
          try clear hx355_0
          try clear hx357_0
          try clear hx358_0
          try clear hx360_0
          try clear hx364_0
          try clear hx365_0
          try clear hx367_0
          try clear hx368_0
          try clear hx51_0
          try clear hx62_0
          try clear hx66_0
          obtain ⟨x8_3, x110_3, rfl, HA, HK3, HO_5, HO_7, HO_8, HB⟩ := hrel
          have hl8_3 := (Kd.R_reads' HO_8.out).1
          rw [hl8_3] at HO_8
          (try simp only [hl8_3])
          (try simp only [hl8_3] at HO_5)
          (try simp only [hl8_3] at HO_7)
          cases gk with
          | zero => exact absurd HA.out (by simp [impl_fairVertices.l5])
          | succ k3 =>
           have H := HA.out
           clear HA
           simp only [impl_fairVertices.l5] at H
           by_cases c70 : x110_3 < (x8_2.length : Int)
           ·rw [if_pos c70] at H
            have c70b0 := decide_eq_true c70
            clear c70
            by_cases c71 : 0 ≤ x110_3
            ·rw [if_pos c71] at H
             replace c71 := decide_eq_true c71
             by_cases c72 : x110_3 < (t342.length : Int)
             ·rw [if_pos c72] at H
              replace c72 := decide_eq_true c72
              by_cases c73 : 0 ≤ (rd t342 x110_3)
              ·rw [if_pos c73] at H
               replace c73 := decide_eq_true c73
               by_cases c74 : (rd t342 x110_3) < (x7_2.length : Int)
               ·rw [if_pos c74] at H
                replace c74 := decide_eq_true c74
                by_cases c75 : x110_3 < (x8_3.length : Int)
                ·rw [if_pos c75] at H
                 replace c75 := decide_eq_true c75
                 obtain ⟨y373, hy373⟩ : ∃ y_ : List Bool, y_ = (x8_3.set (x110_3 : Int).toNat (rdOf false x7_2 (rd t342 x110_3))) := ⟨_, rfl⟩
                 replace H : (impl_fairVertices.l5 k3 t342 x7_2 y373 (x8_2.length : Int) (wrap64 (x110_3 + 1))) = some r := by first | (rw [hy373]; with_reducible exact H) | (have H2_ := (Option.bind_some _ _).symm.trans H; rw [hy373]; with_reducible exact H2_) | (have H2_ := (Option.bind_some _ _).symm.trans H; with_reducible exact H2_) | with_reducible exact H | (rw [hy373]; exact H) | exact H
                 have Ny373 := am_ hy373
                 clear hy373
                 have H' := am_ H
                 clear H
                 obtain ⟨Ao77, co77, eo77⟩ := Kd.R_slice HO_5.out
                 subst eo77
                 have p371 : 0 ≤ (x110_3 : Int) := Sh.od
                 have q371 : x110_3 < (t342.length : Int) := Sh.od
                 obtain ⟨ad371, e371, hx371_0⟩ := Kd.at_int (Kd.R_reads' HO_5.out).2.2 x110_3 p371 q371
                 cases e371
                 replace p371 := eq_true p371
                 replace q371 := eq_true q371
                 obtain ⟨Ao78, co78, eo78⟩ := Kd.R_slice HO_7.out
                 subst eo78
                 have p372 : 0 ≤ ((rd t342 x110_3) : Int) := Sh.od
                 have q372 : (rd t342 x110_3) < (x7_2.length : Int) := Sh.od
                 obtain ⟨ad372, e372, hx372_0⟩ := Kd.at_bool (Kd.R_reads' HO_7.out).2.2 (rd t342 x110_3) p372 q372
                 cases e372
                 replace p372 := eq_true p372
                 replace q372 := eq_true q372
                 have p76 : 0 ≤ (x110_3 : Int) := Sh.od
                 have q76 : (x110_3 : Int) < ((x8_3.length : Int) : Int) := Sh.od
                 obtain ⟨go76, co76, eo76, gb76, gl76, cl76, HG76⟩ := Kd.R_form HO_8.out (by omega)
                 (first | cases eo76 | (injection eo76 with ea_ en_ ec_; (first | subst ea_ | (injection ea_ with ea_; subst ea_)); subst ec_; clear en_))
                 have GB76 := am_ gb76
                 have GG76 := am_ HG76
                 clear gb76 gl76 HG76
                 obtain ⟨hx76_0, hf76_0⟩ := Kd.R_celln false HO_8.out (x110_3 : Int) p76 q76
                 replace p76 := eq_true p76
                 replace q76 := eq_true q76
                 have HP79 := Kd.R_putg HO_8.out (x110_3 : Int) (rdOf false x7_2 (rd t342 x110_3))
                 go_wp2_with (first | ((with_reducible refine gate_store (t := 4) (p := 122) rfl ?_); refine store_event (t := 4) (p := 122) (v := ?vo_w80) (w1 := (wr.setCell ⟨go76, (x110_3 : Int).toNat, none⟩ (.bool (rdOf false x7_2 (rd t342 x110_3))))) ?hg ?ho ?hn ?hr ?_; (case ho => rfl); (case hg => rfl); (case hn => rfl); (case hr => first | (go_simp; done) | (go_simp; rfl)); intro w80 hw; have hg : wr.grownBy w80 (some go76) := (by rw [hw]; exact HP79.2); have hp_ : Kd.R Kd.bool 4 w80 w.heap.size (fun k_ => some k_ ≠ (.slice (some ad372) x7_2.length co78 : Value).ownBlock) (.slice (some ⟨go76, 0, none⟩) x8_3.length co69) y373 := (by rw [hw, Ny373.out]; exact HP79.1); clear HP79; replace HO_5 := am_ (Kd.R_over' (v := (.slice (some ⟨go76, 0, none⟩) x8_3.length co69)) (Sh.rl HO_5.out) (Kd.R_typed HO_8.out) (by decide) hg); replace HO_7 := am_ (Kd.R_after (v := (.slice (some ⟨go76, 0, none⟩) x8_3.length co69)) (v1 := (.slice (some ⟨go76, 0, none⟩) x8_3.length co69)) (ok := (fun _ => True)) (Sh.rl (Kd.R_mono HO_7.out (fun _ hk => ⟨trivial, hk⟩))) hg (.inl rfl)); replace HO_8 := am_ hp_; replace HB := am_ ((by rw [hw]; exact below_set (HB.out) GB76.out : Below w.heap.size w w80)); clear hg hw hp_))
                 (try simp only [← hl8_3])
                 go_roundg k3
                 case measure => have := HK1.out; have := HK2.out; have := HK3.out; omega
                 case rel => exact ⟨(y373), (wrap64 (x110_3 + 1)), (Sh.es), H', ⟨by have := HK1.out; have := HK2.out; have := HK3.out; omega⟩, ⟨by (try simp only [hl8_3]); (with_reducible repeat (first | apply Kd.R_alloc | apply Kd.R_drewN | apply Kd.R_drew)); exact HO_5.out⟩, ⟨by (try simp only [hl8_3]); (with_reducible repeat (first | apply Kd.R_alloc | apply Kd.R_drewN | apply Kd.R_drew)); exact Kd.R_mono HO_7.out (fun _ hk => hk.2)⟩, ⟨by (try simp only [hl8_3]); (with_reducible repeat (first | apply Kd.R_alloc | apply Kd.R_drewN | apply Kd.R_drew)); exact HO_8.out⟩, ⟨Sh.bw⟩⟩
                ·rw [if_neg c75] at H
                 cases H
               ·rw [if_neg c74] at H
                cases H
              ·rw [if_neg c73] at H
               cases H
             ·rw [if_neg c72] at H
              cases H
            ·rw [if_neg c71] at H
             cases H
           ·rw [if_neg c70] at H
            have c70b0 := decide_eq_false c70
            (try simp only [hl8_3] at c70b0)
            clear c70
            obtain rfl := Option.some.inj H
            go_wp2
            go_ret
            exact ⟨_, Sh.eR, Sh.rl (Kd.R_mono HO_8.out (fun _ hk => trivial)), Sh.bw⟩
  ·rw [if_neg c5] at H
   cases H
 ·rw [if_neg c4] at H
  cases H
end Go.Proofs.Ytnfpolhpanpeiaa.P
