/- Go functions of this seat as Lean functions, and the proofs that the calls come to what these say; printed by a program of this session. No condition. -/
import Derived.Test.YtejlobcjgbeeaaaP0
import Derived.Test.YtejlobcjgbeeaaaMFnCompared1
set_option linter.unusedVariables false
set_option linter.unusedSimpArgs false
set_option maxHeartbeats 40000000
set_option maxRecDepth 100000
namespace Go.Proofs.Ytejlobcjgbeeaaa.P
open Go.RowKit Go.Proofs.YtejlobcjgbeeaaaW.PrintWords Go.Proofs.YtejlobcjgbeeaaaW.PrintLast Go.Proofs.YtejlobcjgbeeaaaW.PrintMore Go.Proofs.Ytejlobcjgbeeaaa.Hof
attribute [local go_sem] max2_int min2_int max_two min_two max_three min_three max_four min_four
def impl_Gate_uses.f (a0_0 : Int) (a0_1 : Int) (a0_2 : Int) : Option (List Int) := if a0_0 = 1 then (some ([] : List Int)) else (if a0_0 = 2 then (some (([a0_1] : List Int))) else (some (([a0_1, a0_2] : List Int))))
theorem impl_Gate_uses.calls (a0_0 : Int) (a0_1 : Int) (a0_2 : Int) (r : List Int) (w : World) (h : impl_Gate_uses.f a0_0 a0_1 a0_2 = some r) :
  Calls Try.prog 58 #[.agg #[.int .i64 a0_0, .int .i64 a0_1, .int .i64 a0_2]] w fun e w' => ∃ v0_ : Value, e = .returned (v0_) ∧ Kd.R (Kd.int .i64) 3 w' w.heap.size (fun _ => True) v0_ r ∧ Below w.heap.size w w' := by
 have hu66 := Try.underlying66
 have HB := am_ (Below.refl w.heap.size w)
 have H := h
 clear h
 unfold impl_Gate_uses.f at H
 by_cases c2 : a0_0 = 1
 ·rw [if_pos c2] at H
  have c2b0 : (a0_0 == 1) = true := beq_iff_eq.mpr c2
  have c2b1 : (a0_0 != 1) = false := bne_eq_false_iff_eq.mpr c2
  clear c2
  obtain rfl := Option.some.inj H
  go_enter Try.func58, Try.ntmps58
  go_wp2_with (first | ((with_reducible refine Sh.d 1 ?_); refine Sh.bz w (N := 1) (cs := #[.int .i64 a0_0, .int .i64 a0_1, .int .i64 a0_2]) (t := 66) (h := ?_); clear HB; intro gb222 w3 BK222 GE222 HB; obtain ⟨hcz4_0, hcz4_1, hcz4_2, hfz4_0, hfz4_1, hfz4_2⟩ := Sh.b3 BK222.out))
  go_ret
  exact ⟨_, Sh.eR, by first | exact Kd.R_nil _ _ _ _ _ | exact Kd.N_nil _ _ _ _ _ | exact Kd.V_nil _ _ _ _ _ | exact Kd.Q_nil _ _ _ _ _ | exact Kd.S_nil _ _ _ _ _, Sh.bw⟩
 ·rw [if_neg c2] at H
  have c2b0 : (a0_0 == 1) = false := beq_eq_false_iff_ne.mpr c2
  have c2b1 : (a0_0 != 1) = true := bne_iff_ne.mpr c2
  by_cases c5 : a0_0 = 2
  ·rw [if_pos c5] at H
   have c5b0 : (a0_0 == 2) = true := beq_iff_eq.mpr c5
   have c5b1 : (a0_0 != 2) = false := bne_eq_false_iff_eq.mpr c5
   clear c5
   obtain ⟨y223, hy223⟩ : ∃ y_ : List Int, y_ = (([a0_1] : List Int)) := ⟨_, rfl⟩
   replace H : (some y223) = some r := by first | (rw [hy223]; with_reducible exact H) | (have H2_ := (Option.bind_some _ _).symm.trans H; rw [hy223]; with_reducible exact H2_) | (have H2_ := (Option.bind_some _ _).symm.trans H; with_reducible exact H2_) | with_reducible exact H | (rw [hy223]; exact H) | exact H
   have Ny223 := am_ hy223
   clear hy223
   obtain rfl := Option.some.inj H
   go_enter Try.func58, Try.ntmps58
   go_wp2_with (first | ((with_reducible refine Sh.d 1 ?_); refine Sh.bz w (N := 1) (cs := #[.int .i64 a0_0, .int .i64 a0_1, .int .i64 a0_2]) (t := 66) (h := ?_); clear HB; intro gb222 w6 BK222 GE222 HB; obtain ⟨hcz7_0, hcz7_1, hcz7_2, hfz7_0, hfz7_1, hfz7_2⟩ := Sh.b3 BK222.out) | ((with_reducible refine Sh.d 11 ?_); refine Kd.R_lit (Kd.int .i64) _ 3 ?hg (N := 11) ?hd (xs := ([a0_1] : List Int)) (inner := [.int .i64 a0_1]) (ok := fun _ => True) (okp := fun _ => True) ?hr ?hp (fun _ hk => hk) trivial (Below.refl _ _) (Nat.le_refl _) (by simp) ?_; (case hd => rfl); (case hg => rfl); (case hr => first | (go_simp; done) | (go_simp; rfl)); (case hp => exact (Reps.one (show Kd.M (Kd.int .i64) _ _ _ a0_1 [.int .i64 a0_1] from rfl) (Reps.none _ _))); intro v224 w8 ho9 hb hg_ hnew_; clear hg_ hnew_; (first | rw [← Ny223.out] at ho9 | (simp only [Int.reduceToNat] at ho9; rw [← Ny223.out] at ho9)); have HO225 := am_ (Kd.R_lower ho9 (below_size Sh.bw)); replace BK222 := Sh.ab BK222 hb; replace HB := Sh.hb hb; clear hb ho9))
   go_ret
   exact ⟨_, Sh.eR, Sh.rl HO225.out, Sh.bw⟩
  ·rw [if_neg c5] at H
   have c5b0 : (a0_0 == 2) = false := beq_eq_false_iff_ne.mpr c5
   have c5b1 : (a0_0 != 2) = true := bne_iff_ne.mpr c5
   obtain ⟨y226, hy226⟩ : ∃ y_ : List Int, y_ = (([a0_1, a0_2] : List Int)) := ⟨_, rfl⟩
   replace H : (some y226) = some r := by first | (rw [hy226]; with_reducible exact H) | (have H2_ := (Option.bind_some _ _).symm.trans H; rw [hy226]; with_reducible exact H2_) | (have H2_ := (Option.bind_some _ _).symm.trans H; with_reducible exact H2_) | with_reducible exact H | (rw [hy226]; exact H) | exact H
   have Ny226 := am_ hy226
   clear hy226
   obtain rfl := Option.some.inj H
   go_enter Try.func58, Try.ntmps58
   go_wp2_with (first | ((with_reducible refine Sh.d 1 ?_); refine Sh.bz w (N := 1) (cs := #[.int .i64 a0_0, .int .i64 a0_1, .int .i64 a0_2]) (t := 66) (h := ?_); clear HB; intro gb222 w10 BK222 GE222 HB; obtain ⟨hcz11_0, hcz11_1, hcz11_2, hfz11_0, hfz11_1, hfz11_2⟩ := Sh.b3 BK222.out) | ((with_reducible refine Sh.d 16 ?_); refine Kd.R_lit (Kd.int .i64) _ 3 ?hg (N := 16) ?hd (xs := ([a0_1, a0_2] : List Int)) (inner := [.int .i64 a0_1, .int .i64 a0_2]) (ok := fun _ => True) (okp := fun _ => True) ?hr ?hp (fun _ hk => hk) trivial (Below.refl _ _) (Nat.le_refl _) (by simp) ?_; (case hd => rfl); (case hg => rfl); (case hr => first | (go_simp; done) | (go_simp; rfl)); (case hp => exact (Reps.one (show Kd.M (Kd.int .i64) _ _ _ a0_1 [.int .i64 a0_1] from rfl) (Reps.one (show Kd.M (Kd.int .i64) _ _ _ a0_2 [.int .i64 a0_2] from rfl) (Reps.none _ _)))); intro v227 w12 ho13 hb hg_ hnew_; clear hg_ hnew_; (first | rw [← Ny226.out] at ho13 | (simp only [Int.reduceToNat] at ho13; rw [← Ny226.out] at ho13)); have HO228 := am_ (Kd.R_lower ho13 (below_size Sh.bw)); replace BK222 := Sh.ab BK222 hb; replace HB := Sh.hb hb; clear hb ho13))
   go_ret
   exact ⟨_, Sh.eR, Sh.rl HO228.out, Sh.bw⟩
mutual
def impl_isGate.j0 : Nat → Int → Bool → Int → Int → Int → Option (Bool)
 | 0, _, _, _, _, _ => none
 | k + 1, x1, x5, x230000, x230001, x230002 => if x5 = true then (some false) else (if x230000 = 1 then (if x230001 < 0 then (impl_isGate.j1 k x1 true x230000 x230001 x230002) else (impl_isGate.j1 k x1 (decide (x230001 > 1)) x230000 x230001 x230002)) else (impl_isGate.j1 k x1 false x230000 x230001 x230002))
def impl_isGate.j1 : Nat → Int → Bool → Int → Int → Int → Option (Bool)
 | 0, _, _, _, _, _ => none
 | k + 1, x1, x14, x230000, x230001, x230002 => if x14 = true then (some false) else (if x230000 ≤ 2 then (impl_isGate.j2 k x1 (x230002 != 0) x230000 x230001 x230002) else (impl_isGate.j2 k x1 false x230000 x230001 x230002))
def impl_isGate.j2 : Nat → Int → Bool → Int → Int → Int → Option (Bool)
 | 0, _, _, _, _, _ => none
 | k + 1, x1, x28, x230000, x230001, x230002 => if x28 = true then (some false) else ((impl_Gate_uses.f x230000 x230001 x230002).bind fun t230 => ((impl_areWiresBelow.f t230 x1).bind fun t233 => (some t233)))
end
def impl_isGate.f (k : Nat) (a0_0 : Int) (a0_1 : Int) (a0_2 : Int) (a1 : Int) : Option (Bool) := if a0_0 < 1 then (impl_isGate.j0 k a1 true a0_0 a0_1 a0_2) else (impl_isGate.j0 k a1 (decide (a0_0 > 5)) a0_0 a0_1 a0_2)
theorem impl_isGate.mono_l : ∀ k, (∀ y0 y1 y2 y3 y4, LeO (impl_isGate.j0 k y0 y1 y2 y3 y4) (impl_isGate.j0 (k + 1) y0 y1 y2 y3 y4)) ∧ (∀ y0 y1 y2 y3 y4, LeO (impl_isGate.j1 k y0 y1 y2 y3 y4) (impl_isGate.j1 (k + 1) y0 y1 y2 y3 y4)) ∧ (∀ y0 y1 y2 y3 y4, LeO (impl_isGate.j2 k y0 y1 y2 y3 y4) (impl_isGate.j2 (k + 1) y0 y1 y2 y3 y4))
 | 0 => ⟨fun _ _ _ _ _ r h => by simp [impl_isGate.j0] at h, fun _ _ _ _ _ r h => by simp [impl_isGate.j1] at h, fun _ _ _ _ _ r h => by simp [impl_isGate.j2] at h⟩
 | k + 1 => by
  obtain ⟨ih0, ih1, ih2⟩ := impl_isGate.mono_l k
  and_intros <;> intros
  all_goals (first | unfold impl_isGate.j0 | unfold impl_isGate.j1 | unfold impl_isGate.j2)
  all_goals repeat' with_reducible first | apply ih0 | apply ih1 | apply ih2 | exact LeO.refl _ | exact LeO.none _ | apply LeO.ite | refine LeO.bind ?_ fun _ => ?_
theorem impl_isGate.mono : ∀ a0 a1 a2 a3 k, LeO (impl_isGate.f k a0 a1 a2 a3) (impl_isGate.f (k + 1) a0 a1 a2 a3) := by
 intro a0 a1 a2 a3 k
 obtain ⟨ih0, ih1, ih2⟩ := impl_isGate.mono_l k
 unfold impl_isGate.f
 repeat' with_reducible first | apply ih0 | apply ih1 | apply ih2 | exact LeO.refl _ | exact LeO.none _ | apply LeO.ite | refine LeO.bind ?_ fun _ => ?_
theorem impl_isGate.calls (k : Nat) (a0_0 : Int) (a0_1 : Int) (a0_2 : Int) (a1 : Int) (r : Bool) (w : World) (h : impl_isGate.f k a0_0 a0_1 a0_2 a1 = some r) :
  Calls Try.prog 38 #[.agg #[.int .i64 a0_0, .int .i64 a0_1, .int .i64 a0_2], .int .i64 a1] w fun e w' => e = .returned (.bool r) ∧ Below w.heap.size w w' := by
 have hu66 := Try.underlying66
 have HB := am_ (Below.refl w.heap.size w)
 have H := h
 clear h
 unfold impl_isGate.f at H
 have HC3 := am_ H
 clear H
 go_enter Try.func38, Try.ntmps38
 go_upto_region 1 with (first | ((with_reducible refine Sh.d 2 ?_); refine Sh.bz w (N := 2) (cs := #[.int .i64 a0_0, .int .i64 a0_1, .int .i64 a0_2]) (t := 66) (h := ?_); clear HB; intro gb229 w4 BK229 GE229 HB))
 (try simp only [Act.put, List.setIfInBounds_toArray, List.set_cons_zero, List.set_cons_succ])
 go_cut [5] (fun v5 wc => ∃ (kq : Nat) (x5_2 : Bool), v5 = .bool x5_2 ∧ Aside0 (impl_isGate.j0 kq a1 x5_2 a0_0 a0_1 a0_2 = some r) ∧ Aside0 (kq ≤ k) ∧ Aside0 (wc.heap[gb229]? = some (.cells #[.int .i64 a0_0, .int .i64 a0_1, .int .i64 a0_2] 66 (0, 0))) ∧ Aside0 (Below w.heap.size w wc))
 case first =>
  have H := HC3.out
  clear HC3
  by_cases c5 : a0_0 < 1
  ·rw [if_pos c5] at H
   have c5b0 := decide_eq_true c5
   clear c5
   first | rw [c5b0] | (simp only [i64_w, i32_w]; rw [c5b0]) | skip
   have H' := am_ H
   clear H
   have hcz6_0 := Sh.bc BK229.out 0
   have hcz6_1 := Sh.bc BK229.out 1
   have hcz6_2 := Sh.bc BK229.out 2
   have hfz6_0 := blk_frozen BK229.out 0
   have hfz6_1 := blk_frozen BK229.out 1
   have hfz6_2 := blk_frozen BK229.out 2
   go_wp2
   go_meet
   case rel => exact ⟨_, (true), (Sh.es), H', ⟨Sh.om⟩, ⟨by refine Sh.pl ?_; exact BK229.out⟩, ⟨Sh.bw⟩⟩
  ·rw [if_neg c5] at H
   have c5b0 := decide_eq_false c5
   clear c5
   first | rw [c5b0] | (simp only [i64_w, i32_w]; rw [c5b0]) | skip
   have H' := am_ H
   clear H
   have hcz7_0 := Sh.bc BK229.out 0
   have hcz7_1 := Sh.bc BK229.out 1
   have hcz7_2 := Sh.bc BK229.out 2
   have hfz7_0 := blk_frozen BK229.out 0
   have hfz7_1 := blk_frozen BK229.out 1
   have hfz7_2 := blk_frozen BK229.out 2
   go_wp2
   go_meet
   case rel => exact ⟨_, (decide (a0_0 > 5)), (Sh.es), H', ⟨Sh.om⟩, ⟨by refine Sh.pl ?_; exact BK229.out⟩, ⟨Sh.bw⟩⟩
 case rest =>
  clear HC3
  try clear hcz6_0
  try clear hcz6_1
  try clear hcz6_2
  try clear hcz7_0
  try clear hcz7_1
  try clear hcz7_2
  try clear hfz6_0
  try clear hfz6_1
  try clear hfz6_2
  try clear hfz7_0
  try clear hfz7_1
  try clear hfz7_2
  obtain ⟨kq, x5_2, rfl, HA, HJ2, BK229, HB⟩ := hcut
  cases kq with
  | zero => exact absurd HA.out (by simp [impl_isGate.j0])
  | succ kj2 =>
   have H := HA.out
   clear HA
   simp only [impl_isGate.j0] at H
   by_cases c8 : x5_2 = true
   ·subst c8
    rw [if_pos rfl] at H
    obtain rfl := Option.some.inj H
    go_wp2
    go_ret
    exact ⟨Sh.eR, Sh.bw⟩
   ·replace c8 := Bool.eq_false_iff.mpr c8
    subst c8
    rw [Sh.nf] at H
    have HC9 := am_ H
    clear H
    go_upto_region 3 with (fail)
    go_cut [14] (fun v14 wc => ∃ (kq : Nat) (x14_8 : Bool), v14 = .bool x14_8 ∧ Aside0 (impl_isGate.j1 kq a1 x14_8 a0_0 a0_1 a0_2 = some r) ∧ Aside0 (kq ≤ kj2) ∧ Aside0 (wc.heap[gb229]? = some (.cells #[.int .i64 a0_0, .int .i64 a0_1, .int .i64 a0_2] 66 (0, 0))) ∧ Aside0 (Below w.heap.size w wc))
    case first =>
     have H := HC9.out
     clear HC9
     by_cases c10 : a0_0 = 1
     ·rw [if_pos c10] at H
      have c10b0 : (a0_0 == 1) = true := beq_iff_eq.mpr c10
      have c10b1 : (a0_0 != 1) = false := bne_eq_false_iff_eq.mpr c10
      clear c10
      first | rw [c10b0] | (simp only [i64_w, i32_w]; rw [c10b0]) | skip
      by_cases c11 : a0_1 < 0
      ·rw [if_pos c11] at H
       have c11b0 := decide_eq_true c11
       clear c11
       have H' := am_ H
       clear H
       have hcz12_0 := Sh.bc BK229.out 0
       have hcz12_1 := Sh.bc BK229.out 1
       have hcz12_2 := Sh.bc BK229.out 2
       have hfz12_0 := blk_frozen BK229.out 0
       have hfz12_1 := blk_frozen BK229.out 1
       have hfz12_2 := blk_frozen BK229.out 2
       go_wp2
       go_meet
       case rel => exact ⟨_, (true), (Sh.es), H', ⟨by have := HJ2.out; first | omega | exact Nat.le_refl _⟩, ⟨by refine Sh.pl ?_; exact BK229.out⟩, ⟨Sh.bw⟩⟩
      ·rw [if_neg c11] at H
       have c11b0 := decide_eq_false c11
       clear c11
       have H' := am_ H
       clear H
       have hcz13_0 := Sh.bc BK229.out 0
       have hcz13_1 := Sh.bc BK229.out 1
       have hcz13_2 := Sh.bc BK229.out 2
       have hfz13_0 := blk_frozen BK229.out 0
       have hfz13_1 := blk_frozen BK229.out 1
       have hfz13_2 := blk_frozen BK229.out 2
       go_wp2
       go_meet
       case rel => exact ⟨_, (decide (a0_1 > 1)), (Sh.es), H', ⟨by have := HJ2.out; first | omega | exact Nat.le_refl _⟩, ⟨by refine Sh.pl ?_; exact BK229.out⟩, ⟨Sh.bw⟩⟩
     ·rw [if_neg c10] at H
      have c10b0 : (a0_0 == 1) = false := beq_eq_false_iff_ne.mpr c10
      have c10b1 : (a0_0 != 1) = true := bne_iff_ne.mpr c10
      first | rw [c10b0] | (simp only [i64_w, i32_w]; rw [c10b0]) | skip
      have H' := am_ H
      clear H
      have hcz14_0 := Sh.bc BK229.out 0
      have hcz14_1 := Sh.bc BK229.out 1
      have hcz14_2 := Sh.bc BK229.out 2
      have hfz14_0 := blk_frozen BK229.out 0
      have hfz14_1 := blk_frozen BK229.out 1
      have hfz14_2 := blk_frozen BK229.out 2
      go_wp2
      go_meet
      case rel => exact ⟨_, (false), (Sh.es), H', ⟨by have := HJ2.out; first | omega | exact Nat.le_refl _⟩, ⟨by refine Sh.pl ?_; exact BK229.out⟩, ⟨Sh.bw⟩⟩
    case rest =>
     clear HC9
     try clear hcz12_0
     try clear hcz12_1
     try clear hcz12_2
     try clear hcz13_0
     try clear hcz13_1
     try clear hcz13_2
     try clear hcz14_0
     try clear hcz14_1
     try clear hcz14_2
     try clear hcz6_0
     try clear hcz6_1
     try clear hcz6_2
     try clear hcz7_0
     try clear hcz7_1
     try clear hcz7_2
     try clear hfz12_0
     try clear hfz12_1
     try clear hfz12_2
     try clear hfz13_0
     try clear hfz13_1
     try clear hfz13_2
     try clear hfz14_0
     try clear hfz14_1
     try clear hfz14_2
     try clear hfz6_0
     try clear hfz6_1
     try clear hfz6_2
     try clear hfz7_0
     try clear hfz7_1
     try clear hfz7_2
     obtain ⟨kq, x14_8, rfl, HA, HJ8, BK229, HB⟩ := hcut
     cases kq with
     | zero => exact absurd HA.out (by simp [impl_isGate.j1])
     | succ kj8 =>
      have H := HA.out
      clear HA
      simp only [impl_isGate.j1] at H
      by_cases c15 : x14_8 = true
      ·subst c15
       rw [if_pos rfl] at H
       obtain rfl := Option.some.inj H
       go_wp2
       go_ret
       exact ⟨Sh.eR, Sh.bw⟩
      ·replace c15 := Bool.eq_false_iff.mpr c15
       subst c15
       rw [Sh.nf] at H
       have HC16 := am_ H
       clear H
       go_upto_region 5 with (fail)
       go_cut [28] (fun v28 wc => ∃ (kq : Nat) (x28_15 : Bool), v28 = .bool x28_15 ∧ Aside0 (impl_isGate.j2 kq a1 x28_15 a0_0 a0_1 a0_2 = some r) ∧ Aside0 (kq ≤ kj8) ∧ Aside0 (wc.heap[gb229]? = some (.cells #[.int .i64 a0_0, .int .i64 a0_1, .int .i64 a0_2] 66 (0, 0))) ∧ Aside0 (Below w.heap.size w wc))
       case first =>
        have H := HC16.out
        clear HC16
        by_cases c17 : a0_0 ≤ 2
        ·rw [if_pos c17] at H
         have c17b0 := decide_eq_true c17
         clear c17
         first | rw [c17b0] | (simp only [i64_w, i32_w]; rw [c17b0]) | skip
         have H' := am_ H
         clear H
         have hcz18_0 := Sh.bc BK229.out 0
         have hcz18_1 := Sh.bc BK229.out 1
         have hcz18_2 := Sh.bc BK229.out 2
         have hfz18_0 := blk_frozen BK229.out 0
         have hfz18_1 := blk_frozen BK229.out 1
         have hfz18_2 := blk_frozen BK229.out 2
         go_wp2
         go_meet
         case rel => exact ⟨_, ((a0_2 != 0)), (Sh.es), H', ⟨by have := HJ2.out; have := HJ8.out; first | omega | exact Nat.le_refl _⟩, ⟨by refine Sh.pl ?_; exact BK229.out⟩, ⟨Sh.bw⟩⟩
        ·rw [if_neg c17] at H
         have c17b0 := decide_eq_false c17
         clear c17
         first | rw [c17b0] | (simp only [i64_w, i32_w]; rw [c17b0]) | skip
         have H' := am_ H
         clear H
         have hcz19_0 := Sh.bc BK229.out 0
         have hcz19_1 := Sh.bc BK229.out 1
         have hcz19_2 := Sh.bc BK229.out 2
         have hfz19_0 := blk_frozen BK229.out 0
         have hfz19_1 := blk_frozen BK229.out 1
         have hfz19_2 := blk_frozen BK229.out 2
         go_wp2
         go_meet
         case rel => exact ⟨_, (false), (Sh.es), H', ⟨by have := HJ2.out; have := HJ8.out; first | omega | exact Nat.le_refl _⟩, ⟨by refine Sh.pl ?_; exact BK229.out⟩, ⟨Sh.bw⟩⟩
       case rest =>
        clear HC16
        try clear hcz12_0
        try clear hcz12_1
        try clear hcz12_2
        try clear hcz13_0
        try clear hcz13_1
        try clear hcz13_2
        try clear hcz14_0
        try clear hcz14_1
        try clear hcz14_2
        try clear hcz18_0
        try clear hcz18_1
        try clear hcz18_2
        try clear hcz19_0
        try clear hcz19_1
        try clear hcz19_2
        try clear hcz6_0
        try clear hcz6_1
        try clear hcz6_2
        try clear hcz7_0
        try clear hcz7_1
        try clear hcz7_2
        try clear hfz12_0
        try clear hfz12_1
        try clear hfz12_2
        try clear hfz13_0
        try clear hfz13_1
        try clear hfz13_2
        try clear hfz14_0
        try clear hfz14_1
        try clear hfz14_2
        try clear hfz18_0
        try clear hfz18_1
        try clear hfz18_2
        try clear hfz19_0
        try clear hfz19_1
        try clear hfz19_2
        try clear hfz6_0
        try clear hfz6_1
        try clear hfz6_2
        try clear hfz7_0
        try clear hfz7_1
        try clear hfz7_2
        obtain ⟨kq, x28_15, rfl, HA, HJ15, BK229, HB⟩ := hcut
        cases kq with
        | zero => exact absurd HA.out (by simp [impl_isGate.j2])
        | succ kj15 =>
         have H := HA.out
         clear HA
         simp only [impl_isGate.j2] at H
         by_cases c20 : x28_15 = true
         ·subst c20
          rw [if_pos rfl] at H
          obtain rfl := Option.some.inj H
          go_wp2
          go_ret
          exact ⟨Sh.eR, Sh.bw⟩
         ·replace c20 := Bool.eq_false_iff.mpr c20
          subst c20
          rw [Sh.nf] at H
          obtain ⟨t230, A21, H⟩ := Sh.ba H
          obtain ⟨t233, A22, H⟩ := Sh.ba H
          obtain rfl := Option.some.inj H
          have hcz23_0 := Sh.bc BK229.out 0
          have hcz23_1 := Sh.bc BK229.out 1
          have hcz23_2 := Sh.bc BK229.out 2
          have hfz23_0 := blk_frozen BK229.out 0
          have hfz23_1 := blk_frozen BK229.out 1
          have hfz23_2 := blk_frozen BK229.out 2
          go_wp2_with (first | ((with_reducible refine Sh.k 58 ?_); refine Sh.gL (some 38) Try.func58 #[.agg #[.int .i64 a0_0, .int .i64 a0_1, .int .i64 a0_2]] (h := ?_); (with_reducible refine (impl_Gate_uses.calls a0_0 a0_1 a0_2 t230 _ A21.out).mono ?_); rintro e w24 ⟨v231, rfl, ho0, hb⟩; refine ⟨_, rfl, ?_⟩; have HO232 := am_ (Kd.R_lower ho0 (below_size Sh.bw)); replace BK229 := Sh.ab BK229 hb; replace HB := Sh.hb hb; (try clear hb); (try clear hb2); (try clear hk); (try clear hi); (try clear ho0); obtain ⟨Ao25, co25, eo25⟩ := Kd.R_slice HO232.out; subst eo25) | ((with_reducible refine Sh.k 30 ?_); refine Sh.gB (some 40) Try.func30 #[.slice Ao25 t230.length co25, .int .i64 a1] (impl_areWiresBelow.calls _ _ t230 a1 t233 _ (Sh.cR (Kd.R_reads' HO232.out).2.2) (Kd.R_reads' HO232.out).2.1 A22.out) fun w26 hb => ?_; replace HO232 := am_ (Kd.R_below (Sh.rl HO232.out) hb); replace BK229 := Sh.ab BK229 hb; replace HB := Sh.hb hb; (try clear hb); (try clear hb2); (try clear hk); (try clear hi)))
          go_ret
          exact ⟨Sh.eR, Sh.bw⟩
mutual
def impl_GoodCircuit.j0 : Nat → Bool → Int → List (S66) → List Int → Option (Bool)
 | 0, _, _, _, _ => none
 | k + 1, x24, x235000, x235001, x235002 => if x24 = true then (some false) else (impl_GoodCircuit.l0 k x235001 (x235001.length : Int) 0 x235000 x235001 x235002)
def impl_GoodCircuit.l0 : Nat → List (S66) → Int → Int → Int → List (S66) → List Int → Option (Bool)
 | 0, _, _, _, _, _, _ => none
 | k + 1, x26, x27, x28, x235000, x235001, x235002 => if x28 < x27 then (if 0 ≤ x28 then (if x28 < (x26.length : Int) then ((impl_isGate.f k ((rd_T66 x26 x28).f0) ((rd_T66 x26 x28).f1) ((rd_T66 x26 x28).f2) (wrap64 (x235000 + x28))).bind fun t237 => (if t237 = true then (impl_GoodCircuit.l0 k x26 x27 (wrap64 (x28 + 1)) x235000 x235001 x235002) else (some false))) else (none)) else (none)) else ((impl_Circuit_wires.f x235000 x235001 x235002).bind fun t238 => ((impl_areWiresBelow.f x235002 t238).bind fun t239 => (some t239)))
end
def impl_GoodCircuit.f (k : Nat) (a0_0 : Int) (l0_1 : List (S66)) (l0_2 : List Int) : Option (Bool) := if a0_0 < 0 then (impl_GoodCircuit.j0 k true a0_0 l0_1 l0_2) else (if a0_0 > 16 then (impl_GoodCircuit.j0 k true a0_0 l0_1 l0_2) else (if (l0_1.length : Int) > 300 then (impl_GoodCircuit.j0 k true a0_0 l0_1 l0_2) else (impl_GoodCircuit.j0 k (decide ((l0_2.length : Int) > 16)) a0_0 l0_1 l0_2)))
theorem impl_GoodCircuit.mono_l : ∀ k, (∀ y0 y1 y2 y3, LeO (impl_GoodCircuit.j0 k y0 y1 y2 y3) (impl_GoodCircuit.j0 (k + 1) y0 y1 y2 y3)) ∧ (∀ y0 y1 y2 y3 y4 y5, LeO (impl_GoodCircuit.l0 k y0 y1 y2 y3 y4 y5) (impl_GoodCircuit.l0 (k + 1) y0 y1 y2 y3 y4 y5))
 | 0 => ⟨fun _ _ _ _ r h => by simp [impl_GoodCircuit.j0] at h, fun _ _ _ _ _ _ r h => by simp [impl_GoodCircuit.l0] at h⟩
 | k + 1 => by
  obtain ⟨ih0, ih1⟩ := impl_GoodCircuit.mono_l k
  and_intros <;> intros
  all_goals (first | unfold impl_GoodCircuit.j0 | unfold impl_GoodCircuit.l0)
  all_goals repeat' with_reducible first | apply ih0 | apply ih1 | apply impl_isGate.mono | exact LeO.refl _ | exact LeO.none _ | apply LeO.ite | refine LeO.bind ?_ fun _ => ?_
theorem impl_GoodCircuit.mono : ∀ a0 a1 a2 k, LeO (impl_GoodCircuit.f k a0 a1 a2) (impl_GoodCircuit.f (k + 1) a0 a1 a2) := by
 intro a0 a1 a2 k
 obtain ⟨ih0, ih1⟩ := impl_GoodCircuit.mono_l k
 unfold impl_GoodCircuit.f
 repeat' with_reducible first | apply ih0 | apply ih1 | apply impl_isGate.mono | exact LeO.refl _ | exact LeO.none _ | apply LeO.ite | refine LeO.bind ?_ fun _ => ?_
theorem impl_GoodCircuit.calls (k : Nat) (a0_0 : Int) (A0_1 : Option Addr) (c0_1 : Nat) (l0_1 : List (S66)) (A0_2 : Option Addr) (c0_2 : Nat) (l0_2 : List Int) (r : Bool) (w : World) (hr0_1 : Kd.C k66 w A0_1 l0_1.length l0_1) (hc0_1 : l0_1.length ≤ c0_1) (hr0_2 : Kd.C (Kd.int .i64) w A0_2 l0_2.length l0_2) (hc0_2 : l0_2.length ≤ c0_2) (h : impl_GoodCircuit.f k a0_0 l0_1 l0_2 = some r) :
  Calls Try.prog 11 #[.agg #[.int .i64 a0_0, .slice A0_1 l0_1.length c0_1, .slice A0_2 l0_2.length c0_2]] w fun e w' => e = .returned (.bool r) ∧ Below w.heap.size w w' := by
 have hu27 := Try.underlying27
 have hu66 := Try.underlying66
 have HR0_1 := am_ hr0_1
 have HC0_1 := am_ hc0_1
 clear hr0_1 hc0_1
 have HR0_2 := am_ hr0_2
 have HC0_2 := am_ hc0_2
 clear hr0_2 hc0_2
 have HB := am_ (Below.refl w.heap.size w)
 have H := h
 clear h
 unfold impl_GoodCircuit.f at H
 have HC2 := am_ H
 clear H
 go_enter Try.func11, Try.ntmps11
 go_upto_region 1 with (first | ((with_reducible refine Sh.d 1 ?_); (try (refine gate_guard (by rfl) ?_; dsimp only)); refine Sh.bz w (N := 1) (cs := #[.int .i64 a0_0, .slice A0_1 l0_1.length c0_1, .slice A0_2 l0_2.length c0_2]) (t := 27) (h := ?_); clear HB; intro gb234 w3 BK234 GE234 HB))
 (try simp only [Act.put, List.setIfInBounds_toArray, List.set_cons_zero, List.set_cons_succ])
 go_cut [24] (fun v24 wc => ∃ (kq : Nat) (x24_1 : Bool), v24 = .bool x24_1 ∧ Aside0 (impl_GoodCircuit.j0 kq x24_1 a0_0 l0_1 l0_2 = some r) ∧ Aside0 (kq ≤ k) ∧ Aside0 (wc.heap[gb234]? = some (.cells #[.int .i64 a0_0, (.slice A0_1 l0_1.length c0_1), (.slice A0_2 l0_2.length c0_2)] 27 (0, 0))) ∧ Aside0 (Below w.heap.size w wc))
 case first =>
  have H := HC2.out
  clear HC2
  by_cases c4 : a0_0 < 0
  ·rw [if_pos c4] at H
   have c4b0 := decide_eq_true c4
   clear c4
   first | rw [c4b0] | (simp only [i64_w, i32_w]; rw [c4b0]) | skip
   have H' := am_ H
   clear H
   have hcz5_0 := Sh.bc BK234.out 0
   have hcz5_1 := Sh.bc BK234.out 1
   have hcz5_2 := Sh.bc BK234.out 2
   have hfz5_0 := blk_frozen BK234.out 0
   have hfz5_1 := blk_frozen BK234.out 1
   have hfz5_2 := blk_frozen BK234.out 2
   go_wp2
   go_meet
   case rel => exact ⟨_, (true), (Sh.es), H', ⟨Sh.om⟩, ⟨by refine Sh.pl ?_; exact BK234.out⟩, ⟨Sh.bw⟩⟩
  ·rw [if_neg c4] at H
   have c4b0 := decide_eq_false c4
   clear c4
   first | rw [c4b0] | (simp only [i64_w, i32_w]; rw [c4b0]) | skip
   by_cases c6 : a0_0 > 16
   ·rw [if_pos c6] at H
    have c6b0 : decide (16 < a0_0) = true := decide_eq_true c6
    clear c6
    have H' := am_ H
    clear H
    have hcz7_0 := Sh.bc BK234.out 0
    have hcz7_1 := Sh.bc BK234.out 1
    have hcz7_2 := Sh.bc BK234.out 2
    have hfz7_0 := blk_frozen BK234.out 0
    have hfz7_1 := blk_frozen BK234.out 1
    have hfz7_2 := blk_frozen BK234.out 2
    go_wp2
    go_meet
    case rel => exact ⟨_, (true), (Sh.es), H', ⟨Sh.om⟩, ⟨by refine Sh.pl ?_; exact BK234.out⟩, ⟨Sh.bw⟩⟩
   ·rw [if_neg c6] at H
    have c6b0 : decide (16 < a0_0) = false := decide_eq_false c6
    clear c6
    by_cases c8 : (l0_1.length : Int) > 300
    ·rw [if_pos c8] at H
     have c8b0 : decide (300 < (l0_1.length : Int)) = true := decide_eq_true c8
     have c8b1 : decide (300 < l0_1.length) = true := decide_eq_true (by omega)
     clear c8
     have H' := am_ H
     clear H
     have hcz9_0 := Sh.bc BK234.out 0
     have hcz9_1 := Sh.bc BK234.out 1
     have hcz9_2 := Sh.bc BK234.out 2
     have hfz9_0 := blk_frozen BK234.out 0
     have hfz9_1 := blk_frozen BK234.out 1
     have hfz9_2 := blk_frozen BK234.out 2
     go_wp2
     go_meet
     case rel => exact ⟨_, (true), (Sh.es), H', ⟨Sh.om⟩, ⟨by refine Sh.pl ?_; exact BK234.out⟩, ⟨Sh.bw⟩⟩
    ·rw [if_neg c8] at H
     have c8b0 : decide (300 < (l0_1.length : Int)) = false := decide_eq_false c8
     have c8b1 : decide (300 < l0_1.length) = false := decide_eq_false (by omega)
     clear c8
     have H' := am_ H
     clear H
     have hcz10_0 := Sh.bc BK234.out 0
     have hcz10_1 := Sh.bc BK234.out 1
     have hcz10_2 := Sh.bc BK234.out 2
     have hfz10_0 := blk_frozen BK234.out 0
     have hfz10_1 := blk_frozen BK234.out 1
     have hfz10_2 := blk_frozen BK234.out 2
     go_wp2
     go_meet
     case rel => exact ⟨_, (decide ((l0_2.length : Int) > 16)), (Sh.es), H', ⟨Sh.om⟩, ⟨by refine Sh.pl ?_; exact BK234.out⟩, ⟨Sh.bw⟩⟩
 case rest =>
  clear HC2
  try clear hcz10_0
  try clear hcz10_1
  try clear hcz10_2
  try clear hcz5_0
  try clear hcz5_1
  try clear hcz5_2
  try clear hcz7_0
  try clear hcz7_1
  try clear hcz7_2
  try clear hcz9_0
  try clear hcz9_1
  try clear hcz9_2
  try clear hfz10_0
  try clear hfz10_1
  try clear hfz10_2
  try clear hfz5_0
  try clear hfz5_1
  try clear hfz5_2
  try clear hfz7_0
  try clear hfz7_1
  try clear hfz7_2
  try clear hfz9_0
  try clear hfz9_1
  try clear hfz9_2
  obtain ⟨kq, x24_1, rfl, HA, HJ1, BK234, HB⟩ := hcut
  cases kq with
  | zero => exact absurd HA.out (by simp [impl_GoodCircuit.j0])
  | succ kj1 =>
   have H := HA.out
   clear HA
   simp only [impl_GoodCircuit.j0] at H
   by_cases c11 : x24_1 = true
   ·subst c11
    rw [if_pos rfl] at H
    obtain rfl := Option.some.inj H
    go_wp2
    go_ret
    exact ⟨Sh.eR, Sh.bw⟩
   ·replace c11 := Bool.eq_false_iff.mpr c11
    subst c11
    rw [Sh.nf] at H
    have H' := am_ H
    clear H
    have hcz12_0 := Sh.bc BK234.out 0
    have hcz12_1 := Sh.bc BK234.out 1
    have hcz12_2 := Sh.bc BK234.out 2
    have hfz12_0 := blk_frozen BK234.out 0
    have hfz12_1 := blk_frozen BK234.out 1
    have hfz12_2 := blk_frozen BK234.out 2
    go_wp2
    go_loopg [28] kj1 (fun kq v28 w' => ∃ (x28_2 : Int), v28 = .int .i64 x28_2 ∧ Aside0 (impl_GoodCircuit.l0 kq l0_1 (l0_1.length : Int) x28_2 a0_0 l0_1 l0_2 = some r) ∧ Aside0 (kq ≤ kj1) ∧ Aside0 (w'.heap[gb234]? = some (.cells #[.int .i64 a0_0, (.slice A0_1 l0_1.length c0_1), (.slice A0_2 l0_2.length c0_2)] 27 (0, 0))) ∧ Aside0 (Below w.heap.size w w'))
    case atStart => exact ⟨(0), (Sh.es), H', ⟨Nat.le_refl _⟩, ⟨by refine Sh.pl ?_; exact BK234.out⟩, ⟨Sh.bw⟩⟩
    case round =>
     clear H'
     try clear hcz10_0
     try clear hcz10_1
     try clear hcz10_2
     try clear hcz12_0
     try clear hcz12_1
     try clear hcz12_2
     try clear hcz5_0
     try clear hcz5_1
     try clear hcz5_2
     try clear hcz7_0
     try clear hcz7_1
     try clear hcz7_2
     try clear hcz9_0
     try clear hcz9_1
     try clear hcz9_2
     try clear hfz10_0
     try clear hfz10_1
     try clear hfz10_2
     try clear hfz12_0
     try clear hfz12_1
     try clear hfz12_2
     try clear hfz5_0
     try clear hfz5_1
     try clear hfz5_2
     try clear hfz7_0
     try clear hfz7_1
     try clear hfz7_2
     try clear hfz9_0
     try clear hfz9_1
     try clear hfz9_2
     obtain ⟨x28_2, rfl, HA, HK2, BK234, HB⟩ := hrel
     cases gk with
     | zero => exact absurd HA.out (by simp [impl_GoodCircuit.l0])
     | succ k2 =>
      have H := HA.out
      clear HA
      simp only [impl_GoodCircuit.l0] at H
      by_cases c13 : x28_2 < (l0_1.length : Int)
      ·rw [if_pos c13] at H
       have c13b0 := decide_eq_true c13
       clear c13
       by_cases c14 : 0 ≤ x28_2
       ·rw [if_pos c14] at H
        have c14b0 := decide_eq_true c14
        clear c14
        by_cases c15 : x28_2 < (l0_1.length : Int)
        ·rw [if_pos c15] at H
         have c15b0 := decide_eq_true c15
         clear c15
         obtain ⟨t237, A16, H⟩ := Sh.ba H
         by_cases c17 : t237 = true
         ·subst c17
          rw [if_pos rfl] at H
          have H' := am_ H
          clear H
          have p235 : 0 ≤ (x28_2 : Int) := Sh.od
          have q235 : x28_2 < (l0_1.length : Int) := Sh.od
          obtain ⟨ad235, e235, hx235_0, hx235_1, hx235_2⟩ := at_T66 HR0_1.out x28_2 p235 q235
          cases e235
          try replace hx235_0 := Sh.cw hx235_0
          try replace hx235_1 := Sh.cw hx235_1
          try replace hx235_2 := Sh.cw hx235_2
          replace p235 := eq_true p235
          replace q235 := eq_true q235
          go_wp2_with (first | ((with_reducible refine Sh.d 4 ?_); (try (refine gate_guard (by rfl) ?_; dsimp only)); refine Sh.bx (N := 4) (cs := #[.int .i64 0, .int .i64 0, .int .i64 0]) (t := 66) (h := ?_); intro gb236 hg w18 hbox hb; have BK236 := am_ hbox; have GE236 := Sh.ag w hg; replace HB := Sh.hb hb; have NB234_236 := am_ (Sh.nl hg BK234.out); have NB236_234 := am_ (Sh.ng hg BK234.out); replace BK234 := Sh.ab BK234 hb; clear hb hbox hg; have hnb19 := NB236_234.out; have hnc19 := NB234_236.out; obtain ⟨hcz20_0, hcz20_1, hcz20_2, hfz20_0, hfz20_1, hfz20_2⟩ := Sh.b3 BK236.out; obtain ⟨hcz21_0, hcz21_1, hcz21_2, hfz21_0, hfz21_1, hfz21_2⟩ := Sh.b3 BK234.out) | ((with_reducible refine Sh.k 38 ?_); refine Sh.gB (some 38) Try.func38 #[.agg #[.int .i64 ((rd_T66 l0_1 x28_2).f0), .int .i64 ((rd_T66 l0_1 x28_2).f1), .int .i64 ((rd_T66 l0_1 x28_2).f2)], .int .i64 (wrap64 (a0_0 + x28_2))] (impl_isGate.calls k2 ((rd_T66 l0_1 x28_2).f0) ((rd_T66 l0_1 x28_2).f1) ((rd_T66 l0_1 x28_2).f2) (wrap64 (a0_0 + x28_2)) true _ A16.out) fun w22 hb => ?_; replace BK234 := am_ (blk_below (g := gb234) (o := .cells #[.int .i64 a0_0, .slice (some ad235) l0_1.length c0_1, .slice A0_2 l0_2.length c0_2] 27 (0, 0)) (by refine Sh.pl ?_; refine blk_far ?_ NB234_236.out _; refine Sh.pl ?_; refine blk_far ?_ NB234_236.out _; refine Sh.pl ?_; refine blk_far ?_ NB234_236.out _; refine Sh.pl ?_; exact BK234.out) hb); replace BK236 := am_ (blk_below (g := gb236) (o := .cells #[.int .i64 ((rd_T66 l0_1 x28_2).f0), .int .i64 ((rd_T66 l0_1 x28_2).f1), .int .i64 ((rd_T66 l0_1 x28_2).f2)] 66 (0, 0)) (by refine Sh.pl ?_; refine blk_put (cs := #[.int .i64 ((rd_T66 l0_1 x28_2).f0), .int .i64 ((rd_T66 l0_1 x28_2).f1), .int .i64 0]) ?_ 2 _ rfl; refine Sh.pl ?_; refine blk_put (cs := #[.int .i64 ((rd_T66 l0_1 x28_2).f0), .int .i64 0, .int .i64 0]) ?_ 1 _ rfl; refine Sh.pl ?_; refine blk_put (cs := #[.int .i64 0, .int .i64 0, .int .i64 0]) ?_ 0 _ rfl; refine Sh.pl ?_; exact BK236.out) hb); replace HB := Sh.hb hb; (try clear hb); (try clear hb2); (try clear hk); (try clear hi)))
          go_roundg k2
          case measure => have := HJ1.out; have := HK2.out; omega
          case rel => exact ⟨(wrap64 (x28_2 + 1)), (Sh.es), H', ⟨by have := HJ1.out; have := HK2.out; omega⟩, ⟨by refine Sh.pl ?_; exact BK234.out⟩, ⟨Sh.bw⟩⟩
         ·replace c17 := Bool.eq_false_iff.mpr c17
          subst c17
          rw [Sh.nf] at H
          obtain rfl := Option.some.inj H
          have p235 : 0 ≤ (x28_2 : Int) := Sh.od
          have q235 : x28_2 < (l0_1.length : Int) := Sh.od
          obtain ⟨ad235, e235, hx235_0, hx235_1, hx235_2⟩ := at_T66 HR0_1.out x28_2 p235 q235
          cases e235
          try replace hx235_0 := Sh.cw hx235_0
          try replace hx235_1 := Sh.cw hx235_1
          try replace hx235_2 := Sh.cw hx235_2
          replace p235 := eq_true p235
          replace q235 := eq_true q235
          go_wp2_with (first | ((with_reducible refine Sh.d 4 ?_); (try (refine gate_guard (by rfl) ?_; dsimp only)); refine Sh.bx (N := 4) (cs := #[.int .i64 0, .int .i64 0, .int .i64 0]) (t := 66) (h := ?_); intro gb236 hg w23 hbox hb; have BK236 := am_ hbox; have GE236 := Sh.ag w hg; replace HB := Sh.hb hb; have NB234_236 := am_ (Sh.nl hg BK234.out); have NB236_234 := am_ (Sh.ng hg BK234.out); replace BK234 := Sh.ab BK234 hb; clear hb hbox hg; have hnb24 := NB236_234.out; have hnc24 := NB234_236.out; obtain ⟨hcz25_0, hcz25_1, hcz25_2, hfz25_0, hfz25_1, hfz25_2⟩ := Sh.b3 BK236.out; obtain ⟨hcz26_0, hcz26_1, hcz26_2, hfz26_0, hfz26_1, hfz26_2⟩ := Sh.b3 BK234.out) | ((with_reducible refine Sh.k 38 ?_); refine Sh.gB (some 38) Try.func38 #[.agg #[.int .i64 ((rd_T66 l0_1 x28_2).f0), .int .i64 ((rd_T66 l0_1 x28_2).f1), .int .i64 ((rd_T66 l0_1 x28_2).f2)], .int .i64 (wrap64 (a0_0 + x28_2))] (impl_isGate.calls k2 ((rd_T66 l0_1 x28_2).f0) ((rd_T66 l0_1 x28_2).f1) ((rd_T66 l0_1 x28_2).f2) (wrap64 (a0_0 + x28_2)) false _ A16.out) fun w27 hb => ?_; replace BK234 := am_ (blk_below (g := gb234) (o := .cells #[.int .i64 a0_0, .slice (some ad235) l0_1.length c0_1, .slice A0_2 l0_2.length c0_2] 27 (0, 0)) (by refine Sh.pl ?_; refine blk_far ?_ NB234_236.out _; refine Sh.pl ?_; refine blk_far ?_ NB234_236.out _; refine Sh.pl ?_; refine blk_far ?_ NB234_236.out _; refine Sh.pl ?_; exact BK234.out) hb); replace BK236 := am_ (blk_below (g := gb236) (o := .cells #[.int .i64 ((rd_T66 l0_1 x28_2).f0), .int .i64 ((rd_T66 l0_1 x28_2).f1), .int .i64 ((rd_T66 l0_1 x28_2).f2)] 66 (0, 0)) (by refine Sh.pl ?_; refine blk_put (cs := #[.int .i64 ((rd_T66 l0_1 x28_2).f0), .int .i64 ((rd_T66 l0_1 x28_2).f1), .int .i64 0]) ?_ 2 _ rfl; refine Sh.pl ?_; refine blk_put (cs := #[.int .i64 ((rd_T66 l0_1 x28_2).f0), .int .i64 0, .int .i64 0]) ?_ 1 _ rfl; refine Sh.pl ?_; refine blk_put (cs := #[.int .i64 0, .int .i64 0, .int .i64 0]) ?_ 0 _ rfl; refine Sh.pl ?_; exact BK236.out) hb); replace HB := Sh.hb hb; (try clear hb); (try clear hb2); (try clear hk); (try clear hi)))
          go_ret
          exact ⟨Sh.eR, Sh.bw⟩
        ·rw [if_neg c15] at H
         exact absurd H (by simp)
       ·rw [if_neg c14] at H
        exact absurd H (by simp)
      ·rw [if_neg c13] at H
       have c13b0 := decide_eq_false c13
       clear c13
       obtain ⟨t238, A28, H⟩ := Sh.ba H
       obtain ⟨t239, A29, H⟩ := Sh.ba H
       obtain rfl := Option.some.inj H
       try go_wp2
       replace BK234 := am_ (blk_drew BK234.out)
       replace HB := am_ (below_drew1 HB.out)
       refine start_ (n := 6) (S := fun w' => w'.cell? ⟨gb234, 0, none⟩ = some (.int .i64 a0_0) ∧ w'.cell? ⟨gb234, 1, none⟩ = some (.slice A0_1 l0_1.length c0_1) ∧ w'.cell? ⟨gb234, 2, none⟩ = some (.slice A0_2 l0_2.length c0_2)) (ds := []) (Sh.nm 6 0) (by kernel_rfl) rfl rfl Sh.cs (fun hHeld => ?_)
       generalize wr.drew = w30 at BK234 HB hHeld ⊢
       refine Sh.pA 0 41 (Sh.nm 6 1) (by kernel_rfl) ?_
       refine Sh.tA 1 42 (Sh.nm 6 3) (by kernel_rfl) hHeld ?_ (hy := by rintro w' ⟨s0, s1, s2⟩; go_simp; with_reducible rfl)
       refine Sh.tA 2 43 (Sh.nm 6 7) (by kernel_rfl) hHeld ?_ (hy := by rintro w' ⟨s0, s1, s2⟩; go_simp; with_reducible rfl)
       refine one_ (i := 3) (N := some 44) (Sh.nm 6 15) rfl rfl (by kernel_rfl) (by decide) (fun K hK => ?_)
       refine goes_ Try.func31 (by kernel_rfl) rfl #[.agg #[.int .i64 a0_0, .slice A0_1 l0_1.length c0_1, .slice A0_2 l0_2.length c0_2]] (by rfl) rfl rfl (by (try simp only [List.map_toArray, List.map_cons, List.map_nil]); first | done | rfl | (simp only [List.length_drop, List.length_take]; rfl)) ?_
       with_reducible refine (impl_Circuit_wires.calls a0_0 _ _ l0_1 _ _ l0_2 t238 _ (Sh.cB HR0_1.out) HC0_1.out (Sh.cB HR0_2.out) HC0_2.out A28.out).mono ?_
       rintro e w31 ⟨rfl, hb⟩
       refine ⟨_, rfl, ?_⟩
       replace BK234 := Sh.ab BK234 hb
       replace HB := Sh.hb hb
       (try clear hb)
       (try clear hb2)
       (try clear hk)
       (try clear hi)
       refine Sh.kN hK Sh.cs fun hHeld => ?_
       clear hK K
       refine one_ (i := 4) (N := some 45) (Sh.nm 6 31) rfl rfl (by kernel_rfl) (by decide) (fun K hK => ?_)
       refine goes_ Try.func30 (by kernel_rfl) rfl #[.slice A0_2 l0_2.length c0_2, .int .i64 t238] (by rfl) rfl rfl (by (try simp only [List.map_toArray, List.map_cons, List.map_nil]); first | done | rfl | (simp only [List.length_drop, List.length_take]; rfl)) ?_
       with_reducible refine (impl_areWiresBelow.calls _ _ l0_2 t238 t239 _ (Sh.cB HR0_2.out) HC0_2.out A29.out).mono ?_
       rintro e w32 ⟨rfl, hb⟩
       refine ⟨_, rfl, ?_⟩
       replace BK234 := Sh.ab BK234 hb
       replace HB := Sh.hb hb
       (try clear hb)
       (try clear hb2)
       (try clear hk)
       (try clear hi)
       refine Sh.kN hK Sh.cs fun hHeld => ?_
       clear hK K
       refine Sh.pA 5 2 (Sh.nm 6 63) (by kernel_rfl) ?_
       refine done_ (by kernel_rfl) ?_
       try go_wp2
       go_ret
       exact ⟨Sh.eR, Sh.bw⟩
def impl_areLists.f (k : Nat) (a0_0 : Int) (l0_1 : List (S66)) (l0_2 : List Int) (l1 : List Int) (l2 : List Int) : Option (Bool) := (impl_GoodCircuit.f k a0_0 l0_1 l0_2).bind fun t241 => (if t241 = true then (if (l1.length : Int) = (l2.length : Int) then (if (l1.length : Int) ≤ 16 then ((impl_Circuit_wires.f a0_0 l0_1 l0_2).bind fun t242 => ((impl_areWiresBelow.f l1 t242).bind fun t243 => (if t243 = true then ((impl_Circuit_wires.f a0_0 l0_1 l0_2).bind fun t244 => ((impl_areWiresBelow.f l2 t244).bind fun t245 => (some t245))) else (some false)))) else (some false)) else (some false)) else (some false))
theorem impl_areLists.mono : ∀ a0 a1 a2 a3 a4 k, LeO (impl_areLists.f k a0 a1 a2 a3 a4) (impl_areLists.f (k + 1) a0 a1 a2 a3 a4) := by
 intro a0 a1 a2 a3 a4 k
 unfold impl_areLists.f
 repeat' with_reducible first | apply impl_GoodCircuit.mono | exact LeO.refl _ | exact LeO.none _ | apply LeO.ite | refine LeO.bind ?_ fun _ => ?_
theorem impl_areLists.calls (k : Nat) (a0_0 : Int) (A0_1 : Option Addr) (c0_1 : Nat) (l0_1 : List (S66)) (A0_2 : Option Addr) (c0_2 : Nat) (l0_2 : List Int) (A1 : Option Addr) (c1 : Nat) (l1 : List Int) (A2 : Option Addr) (c2 : Nat) (l2 : List Int) (r : Bool) (w : World) (hr0_1 : Kd.C k66 w A0_1 l0_1.length l0_1) (hc0_1 : l0_1.length ≤ c0_1) (hr0_2 : Kd.C (Kd.int .i64) w A0_2 l0_2.length l0_2) (hc0_2 : l0_2.length ≤ c0_2) (hr1 : Kd.C (Kd.int .i64) w A1 l1.length l1) (hc1 : l1.length ≤ c1) (hr2 : Kd.C (Kd.int .i64) w A2 l2.length l2) (hc2 : l2.length ≤ c2) (h : impl_areLists.f k a0_0 l0_1 l0_2 l1 l2 = some r) :
  Calls Try.prog 29 #[.agg #[.int .i64 a0_0, .slice A0_1 l0_1.length c0_1, .slice A0_2 l0_2.length c0_2], .slice A1 l1.length c1, .slice A2 l2.length c2] w fun e w' => e = .returned (.bool r) ∧ Below w.heap.size w w' := by
 have hu27 := Try.underlying27
 have HR0_1 := am_ hr0_1
 have HC0_1 := am_ hc0_1
 clear hr0_1 hc0_1
 have HR0_2 := am_ hr0_2
 have HC0_2 := am_ hc0_2
 clear hr0_2 hc0_2
 have HR1 := am_ hr1
 have HC1 := am_ hc1
 clear hr1 hc1
 have HR2 := am_ hr2
 have HC2 := am_ hc2
 clear hr2 hc2
 have HB := am_ (Below.refl w.heap.size w)
 have H := h
 clear h
 unfold impl_areLists.f at H
 obtain ⟨t241, A4, H⟩ := Sh.ba H
 by_cases c5 : t241 = true
 ·subst c5
  rw [if_pos rfl] at H
  by_cases c6 : (l1.length : Int) = (l2.length : Int)
  ·rw [if_pos c6] at H
   have c6b0 : ((l1.length : Int) == (l2.length : Int)) = true := beq_iff_eq.mpr c6
   have c6b1 : ((l1.length : Int) != (l2.length : Int)) = false := bne_eq_false_iff_eq.mpr c6
   have c6b2 : (l1.length == l2.length) = true := by first | simpa using c6 | (simp at c6 ⊢; omega)
   clear c6
   by_cases c7 : (l1.length : Int) ≤ 16
   ·rw [if_pos c7] at H
    have c7b0 := decide_eq_true c7
    have c7b1 : decide (l1.length ≤ 16) = true := decide_eq_true (by omega)
    clear c7
    obtain ⟨t242, A8, H⟩ := Sh.ba H
    obtain ⟨t243, A9, H⟩ := Sh.ba H
    by_cases c10 : t243 = true
    ·subst c10
     rw [if_pos rfl] at H
     obtain ⟨t244, A11, H⟩ := Sh.ba H
     obtain rfl : t242 = t244 := Option.some.inj (A8.out.symm.trans A11.out)
     obtain ⟨t245, A12, H⟩ := Sh.ba H
     obtain rfl := Option.some.inj H
     go_enter Try.func29, Try.ntmps29
     go_wp2_with (first | ((with_reducible refine Sh.d 3 ?_); (try (refine gate_guard (by rfl) ?_; dsimp only)); refine Sh.bz w (N := 3) (cs := #[.int .i64 a0_0, .slice A0_1 l0_1.length c0_1, .slice A0_2 l0_2.length c0_2]) (t := 27) (h := ?_); clear HB; intro gb240 w13 BK240 GE240 HB; obtain ⟨hcz14_0, hcz14_1, hcz14_2, hfz14_0, hfz14_1, hfz14_2⟩ := Sh.b3 BK240.out) | ((with_reducible refine Sh.k 11 ?_); refine Sh.gB (some 8) Try.func11 #[.agg #[.int .i64 a0_0, .slice A0_1 l0_1.length c0_1, .slice A0_2 l0_2.length c0_2]] (impl_GoodCircuit.calls k a0_0 _ _ l0_1 _ _ l0_2 true _ (Sh.cB HR0_1.out) HC0_1.out (Sh.cB HR0_2.out) HC0_2.out A4.out) fun w15 hb => ?_; replace BK240 := Sh.ab BK240 hb; replace HB := Sh.hb hb; (try clear hb); (try clear hb2); (try clear hk); (try clear hi); obtain ⟨hcz16_0, hcz16_1, hcz16_2, hfz16_0, hfz16_1, hfz16_2⟩ := Sh.b3 BK240.out) | (go_at_call 31; (with_reducible refine (impl_Circuit_wires.calls a0_0 _ _ l0_1 _ _ l0_2 t242 _ (Sh.cB HR0_1.out) HC0_1.out (Sh.cB HR0_2.out) HC0_2.out A8.out).mono ?_); rintro e w17 ⟨rfl, hb⟩; replace BK240 := Sh.ab BK240 hb; replace HB := Sh.hb hb; (try clear hb); (try clear hb2); (try clear hk); (try clear hi)) | (go_at_call 30; (with_reducible refine (impl_areWiresBelow.calls _ _ l1 t242 true _ (Sh.cB HR1.out) HC1.out A9.out).mono ?_); rintro e w18 ⟨rfl, hb⟩; replace BK240 := Sh.ab BK240 hb; replace HB := Sh.hb hb; (try clear hb); (try clear hb2); (try clear hk); (try clear hi); obtain ⟨hcz19_0, hcz19_1, hcz19_2, hfz19_0, hfz19_1, hfz19_2⟩ := Sh.b3 BK240.out) | (go_at_call 31; (with_reducible refine (impl_Circuit_wires.calls a0_0 _ _ l0_1 _ _ l0_2 t242 _ (Sh.cB HR0_1.out) HC0_1.out (Sh.cB HR0_2.out) HC0_2.out A11.out).mono ?_); rintro e w20 ⟨rfl, hb⟩; replace BK240 := Sh.ab BK240 hb; replace HB := Sh.hb hb; (try clear hb); (try clear hb2); (try clear hk); (try clear hi)) | (go_at_call 30; (with_reducible refine (impl_areWiresBelow.calls _ _ l2 t242 t245 _ (Sh.cB HR2.out) HC2.out A12.out).mono ?_); rintro e w21 ⟨rfl, hb⟩; replace BK240 := Sh.ab BK240 hb; replace HB := Sh.hb hb; (try clear hb); (try clear hb2); (try clear hk); (try clear hi)))
     go_ret
     exact ⟨Sh.eR, Sh.bw⟩
    ·replace c10 := Bool.eq_false_iff.mpr c10
     subst c10
     rw [Sh.nf] at H
     obtain rfl := Option.some.inj H
     go_enter Try.func29, Try.ntmps29
     go_wp2_with (first | ((with_reducible refine Sh.d 3 ?_); (try (refine gate_guard (by rfl) ?_; dsimp only)); refine Sh.bz w (N := 3) (cs := #[.int .i64 a0_0, .slice A0_1 l0_1.length c0_1, .slice A0_2 l0_2.length c0_2]) (t := 27) (h := ?_); clear HB; intro gb240 w22 BK240 GE240 HB; obtain ⟨hcz23_0, hcz23_1, hcz23_2, hfz23_0, hfz23_1, hfz23_2⟩ := Sh.b3 BK240.out) | ((with_reducible refine Sh.k 11 ?_); refine Sh.gB (some 8) Try.func11 #[.agg #[.int .i64 a0_0, .slice A0_1 l0_1.length c0_1, .slice A0_2 l0_2.length c0_2]] (impl_GoodCircuit.calls k a0_0 _ _ l0_1 _ _ l0_2 true _ (Sh.cB HR0_1.out) HC0_1.out (Sh.cB HR0_2.out) HC0_2.out A4.out) fun w24 hb => ?_; replace BK240 := Sh.ab BK240 hb; replace HB := Sh.hb hb; (try clear hb); (try clear hb2); (try clear hk); (try clear hi); obtain ⟨hcz25_0, hcz25_1, hcz25_2, hfz25_0, hfz25_1, hfz25_2⟩ := Sh.b3 BK240.out) | (go_at_call 31; (with_reducible refine (impl_Circuit_wires.calls a0_0 _ _ l0_1 _ _ l0_2 t242 _ (Sh.cB HR0_1.out) HC0_1.out (Sh.cB HR0_2.out) HC0_2.out A8.out).mono ?_); rintro e w26 ⟨rfl, hb⟩; replace BK240 := Sh.ab BK240 hb; replace HB := Sh.hb hb; (try clear hb); (try clear hb2); (try clear hk); (try clear hi)) | (go_at_call 30; (with_reducible refine (impl_areWiresBelow.calls _ _ l1 t242 false _ (Sh.cB HR1.out) HC1.out A9.out).mono ?_); rintro e w27 ⟨rfl, hb⟩; replace BK240 := Sh.ab BK240 hb; replace HB := Sh.hb hb; (try clear hb); (try clear hb2); (try clear hk); (try clear hi)))
     go_ret
     exact ⟨Sh.eR, Sh.bw⟩
   ·rw [if_neg c7] at H
    have c7b0 := decide_eq_false c7
    have c7b1 : decide (l1.length ≤ 16) = false := decide_eq_false (by omega)
    clear c7
    obtain rfl := Option.some.inj H
    go_enter Try.func29, Try.ntmps29
    go_wp2_with (first | ((with_reducible refine Sh.d 3 ?_); (try (refine gate_guard (by rfl) ?_; dsimp only)); refine Sh.bz w (N := 3) (cs := #[.int .i64 a0_0, .slice A0_1 l0_1.length c0_1, .slice A0_2 l0_2.length c0_2]) (t := 27) (h := ?_); clear HB; intro gb240 w28 BK240 GE240 HB; obtain ⟨hcz29_0, hcz29_1, hcz29_2, hfz29_0, hfz29_1, hfz29_2⟩ := Sh.b3 BK240.out) | ((with_reducible refine Sh.k 11 ?_); refine Sh.gB (some 8) Try.func11 #[.agg #[.int .i64 a0_0, .slice A0_1 l0_1.length c0_1, .slice A0_2 l0_2.length c0_2]] (impl_GoodCircuit.calls k a0_0 _ _ l0_1 _ _ l0_2 true _ (Sh.cB HR0_1.out) HC0_1.out (Sh.cB HR0_2.out) HC0_2.out A4.out) fun w30 hb => ?_; replace BK240 := Sh.ab BK240 hb; replace HB := Sh.hb hb; (try clear hb); (try clear hb2); (try clear hk); (try clear hi)))
    go_ret
    exact ⟨Sh.eR, Sh.bw⟩
  ·rw [if_neg c6] at H
   have c6b0 : ((l1.length : Int) == (l2.length : Int)) = false := beq_eq_false_iff_ne.mpr c6
   have c6b1 : ((l1.length : Int) != (l2.length : Int)) = true := bne_iff_ne.mpr c6
   have c6b2 : (l1.length == l2.length) = false := by first | simpa using c6 | (simp at c6 ⊢; omega)
   obtain rfl := Option.some.inj H
   go_enter Try.func29, Try.ntmps29
   go_wp2_with (first | ((with_reducible refine Sh.d 3 ?_); (try (refine gate_guard (by rfl) ?_; dsimp only)); refine Sh.bz w (N := 3) (cs := #[.int .i64 a0_0, .slice A0_1 l0_1.length c0_1, .slice A0_2 l0_2.length c0_2]) (t := 27) (h := ?_); clear HB; intro gb240 w31 BK240 GE240 HB; obtain ⟨hcz32_0, hcz32_1, hcz32_2, hfz32_0, hfz32_1, hfz32_2⟩ := Sh.b3 BK240.out) | ((with_reducible refine Sh.k 11 ?_); refine Sh.gB (some 8) Try.func11 #[.agg #[.int .i64 a0_0, .slice A0_1 l0_1.length c0_1, .slice A0_2 l0_2.length c0_2]] (impl_GoodCircuit.calls k a0_0 _ _ l0_1 _ _ l0_2 true _ (Sh.cB HR0_1.out) HC0_1.out (Sh.cB HR0_2.out) HC0_2.out A4.out) fun w33 hb => ?_; replace BK240 := Sh.ab BK240 hb; replace HB := Sh.hb hb; (try clear hb); (try clear hb2); (try clear hk); (try clear hi)))
   go_ret
   exact ⟨Sh.eR, Sh.bw⟩
 ·replace c5 := Bool.eq_false_iff.mpr c5
  subst c5
  rw [Sh.nf] at H
  obtain rfl := Option.some.inj H
  go_enter Try.func29, Try.ntmps29
  go_wp2_with (first | ((with_reducible refine Sh.d 3 ?_); (try (refine gate_guard (by rfl) ?_; dsimp only)); refine Sh.bz w (N := 3) (cs := #[.int .i64 a0_0, .slice A0_1 l0_1.length c0_1, .slice A0_2 l0_2.length c0_2]) (t := 27) (h := ?_); clear HB; intro gb240 w34 BK240 GE240 HB; obtain ⟨hcz35_0, hcz35_1, hcz35_2, hfz35_0, hfz35_1, hfz35_2⟩ := Sh.b3 BK240.out) | ((with_reducible refine Sh.k 11 ?_); refine Sh.gB (some 8) Try.func11 #[.agg #[.int .i64 a0_0, .slice A0_1 l0_1.length c0_1, .slice A0_2 l0_2.length c0_2]] (impl_GoodCircuit.calls k a0_0 _ _ l0_1 _ _ l0_2 false _ (Sh.cB HR0_1.out) HC0_1.out (Sh.cB HR0_2.out) HC0_2.out A4.out) fun w36 hb => ?_; replace BK240 := Sh.ab BK240 hb; replace HB := Sh.hb hb; (try clear hb); (try clear hb2); (try clear hk); (try clear hi)))
  go_ret
  exact ⟨Sh.eR, Sh.bw⟩
def impl_Gate.f (l0 : List (S66)) : Option (List (S66)) := if l0.length < 5864062014805 then some l0 else none
theorem impl_Gate.calls (A0 : Option Addr) (c0 : Nat) (l0 : List (S66)) (r : List (S66)) (w : World) (hr0 : Kd.C k66 w A0 l0.length l0) (hc0 : l0.length ≤ c0) (h : impl_Gate.f l0 = some r) :
  Calls Try.prog 53 #[.slice A0 l0.length c0] w fun e w' => ∃ v0_ : Value, e = .returned (v0_) ∧ Kd.R k66 66 w' w.heap.size (fun _ => True) v0_ r ∧ Below w.heap.size w w' := by
 have hlim : l0.length < 5864062014805 := by
  rcases Nat.lt_or_ge l0.length 5864062014805 with h1 | h1
  ·exact h1
  ·rw [impl_Gate.f, if_neg (by omega)] at h; cases h
 rw [impl_Gate.f, if_pos hlim] at h
 obtain rfl := Option.some.inj h
 clear h
 cases A0 with
 | none =>
  have hl : l0 = [] := by
   rcases l0 with _ | ⟨x, t⟩
   ·rfl
   ·obtain ⟨ad, e, _⟩ := hr0.2.2 (by simp)
    cases e
  subst hl
  have he : ∀ (w : World) (n c : Nat), (binOp .eql 24 (.slice none n c) (.slice none 0 0)).run Try.prog w = .ok (.bool true) w := fun _ _ _ => rfl
  go_enter Try.func53, Try.ntmps53
  go_wp2
  all_goals (go_ret; exact ⟨_, rfl, Kd.R_nil _ _ _ _ _, Below.refl _ _⟩)
 | some a0 =>
  have HR0 := am_ hr0
  have HC0 := am_ hc0
  clear hr0 hc0
  have HB := am_ (Below.refl w.heap.size w)
  have LM := am_ hlim
  clear hlim
  have he : ∀ (w : World) (n c : Nat), (binOp .eql 24 (.slice (some a0) n c) (.slice none 0 0)).run Try.prog w = .ok (.bool false) w := fun _ _ _ => rfl
  go_enter Try.func53, Try.ntmps53
  go_wp2_with (first | ((with_reducible refine Sh.d 5 ?_); refine Kd.R_lit k66 _ 66 ?hg (N := 5) ?hd (xs := ([] : List (S66))) (inner := []) (ok := fun _ => True) (okp := fun _ => True) ?hr ?hp (fun _ hk => hk) trivial (Below.refl _ _) (Nat.le_refl _) (by simp) ?_; (case hd => rfl); (case hg => rfl); (case hr => first | (go_simp; done) | (go_simp; rfl)); (case hp => exact (Reps.none _ _)); intro v359 w3 ho4 hb hg_ hnew_; clear hg_ hnew_; have HO360 := am_ (Kd.R_lower ho4 (below_size Sh.bw)); replace HB := Sh.hb hb; clear hb ho4) | ((with_reducible refine gate_builtin (b := .append) (xs := #[.tmp 5, .tmp 6]) rfl ?_); at_builtin; refine Kd.R_append_rows k66 (w0 := w) w.heap.size rfl (.tmp 5) (.tmp 6) 24 66 (.agg #[(.int .i64 0), (.int .i64 0), (.int .i64 0)]) 24 rfl Try.underlying24 info66 rfl (by decide) (by omega) v359 [] l0 _ _ _ (fun _ => True) (fun _ => False) rfl rfl ?aO ?aR (fun _ _ h => h) (fun _ h => h.elim) ?aF ?aB ?aS ?aL ?_; (case aR => repeat (first | exact (Kd.C_below HR0.out HB.out) | (with_reducible first | refine Kd.C_alloc ?_ _ | refine Kd.C_drewN ?_ _ | refine Kd.C_drew ?_))); (case aB => exact Sh.bw); (case aF => exact (fun _ _ => trivial)); (case aO => exact (Sh.rl HO360.out)); (case aS => exact (below_size Sh.bw)); (case aL => have := LM.out; simp only [List.length_nil]; omega); intro v362 w5 ho hb hg hat; rw [List.nil_append] at ho; have n0_ := am_ hb; have n1_ := am_ ho; clear HB; clear HO360; have HB := n0_; have HO363 := n1_; clear n0_ n1_; clear ho hb hg hat))
  go_ret
  exact ⟨_, rfl, HO363.out, HB.out⟩
def slices_Clone_int_int.f (l0 : List (Int)) : Option (List (Int)) := if l0.length < 17592186044416 then some l0 else none
theorem slices_Clone_int_int.calls (A0 : Option Addr) (c0 : Nat) (l0 : List (Int)) (r : List (Int)) (w : World) (hr0 : Kd.C (Kd.int .i64) w A0 l0.length l0) (hc0 : l0.length ≤ c0) (h : slices_Clone_int_int.f l0 = some r) :
  Calls Try.prog 54 #[.slice A0 l0.length c0] w fun e w' => ∃ v0_ : Value, e = .returned (v0_) ∧ Kd.R (Kd.int .i64) 3 w' w.heap.size (fun _ => True) v0_ r ∧ Below w.heap.size w w' := by
 have hlim : l0.length < 17592186044416 := by
  rcases Nat.lt_or_ge l0.length 17592186044416 with h1 | h1
  ·exact h1
  ·rw [slices_Clone_int_int.f, if_neg (by omega)] at h; cases h
 rw [slices_Clone_int_int.f, if_pos hlim] at h
 obtain rfl := Option.some.inj h
 clear h
 cases A0 with
 | none =>
  have hl : l0 = [] := by
   rcases l0 with _ | ⟨x, t⟩
   ·rfl
   ·obtain ⟨ad, e, _⟩ := hr0.2.2 (by simp)
    cases e
  subst hl
  have he : ∀ (w : World) (n c : Nat), (binOp .eql 25 (.slice none n c) (.slice none 0 0)).run Try.prog w = .ok (.bool true) w := fun _ _ _ => rfl
  go_enter Try.func54, Try.ntmps54
  go_wp2
  all_goals (go_ret; exact ⟨_, rfl, Kd.R_nil _ _ _ _ _, Below.refl _ _⟩)
 | some a0 =>
  have HR0 := am_ hr0
  have HC0 := am_ hc0
  clear hr0 hc0
  have HB := am_ (Below.refl w.heap.size w)
  have LM := am_ hlim
  clear hlim
  have he : ∀ (w : World) (n c : Nat), (binOp .eql 25 (.slice (some a0) n c) (.slice none 0 0)).run Try.prog w = .ok (.bool false) w := fun _ _ _ => rfl
  go_enter Try.func54, Try.ntmps54
  go_wp2_with (first | ((with_reducible refine Sh.d 5 ?_); refine Kd.R_lit (Kd.int .i64) _ 3 ?hg (N := 5) ?hd (xs := ([] : List (Int))) (inner := []) (ok := fun _ => True) (okp := fun _ => True) ?hr ?hp (fun _ hk => hk) trivial (Below.refl _ _) (Nat.le_refl _) (by simp) ?_; (case hd => rfl); (case hg => rfl); (case hr => first | (go_simp; done) | (go_simp; rfl)); (case hp => exact (Reps.none _ _)); intro v359 w3 ho4 hb hg_ hnew_; clear hg_ hnew_; have HO360 := am_ (Kd.R_lower ho4 (below_size Sh.bw)); replace HB := Sh.hb hb; clear hb ho4) | ((with_reducible refine gate_builtin (b := .append) (xs := #[.tmp 5, .tmp 6]) rfl ?_); at_builtin; refine Kd.R_append_rows (Kd.int .i64) (w0 := w) w.heap.size rfl (.tmp 5) (.tmp 6) 25 3 (.int .i64 0) 8 rfl Try.underlying25 info3 rfl (by decide) (by omega) v359 [] l0 _ _ _ (fun _ => True) (fun _ => False) rfl rfl ?aO ?aR (fun _ _ h => h) (fun _ h => h.elim) ?aF ?aB ?aS ?aL ?_; (case aR => repeat (first | exact (Kd.C_below HR0.out HB.out) | (with_reducible first | refine Kd.C_alloc ?_ _ | refine Kd.C_drewN ?_ _ | refine Kd.C_drew ?_))); (case aB => exact Sh.bw); (case aF => exact (fun _ _ => trivial)); (case aO => exact (Sh.rl HO360.out)); (case aS => exact (below_size Sh.bw)); (case aL => have := LM.out; simp only [List.length_nil]; omega); intro v362 w5 ho hb hg hat; rw [List.nil_append] at ho; have n0_ := am_ hb; have n1_ := am_ ho; clear HB; clear HO360; have HB := n0_; have HO363 := n1_; clear n0_ n1_; clear ho hb hg hat))
  go_ret
  exact ⟨_, rfl, HO363.out, HB.out⟩
def impl_copyCircuit.f (a0_0 : Int) (l0_1 : List (S66)) (l0_2 : List Int) : Option (Int × (List (S66)) × List Int) := (impl_Gate.f l0_1).bind fun t248 => ((slices_Clone_int_int.f l0_2).bind fun t251 => (some (a0_0, t248, t251)))
def impl_copyCircuit.T1 : Bool × List (List Nat × List Nat) := (true, [([], []), ([0], [0]), ([], []), ([2], [2]), ([3], [3]), ([], []), ([5], [5]), ([6, 4], [6]), ([1, 4, 7], [1, 4, 7]), ([8, 7, 0, 1, 2, 3, 4, 5, 6, 7, 8], [8])])
def impl_copyCircuit.B1 : List Nat := [0, 1, 0, 4, 12, 0, 32, 124, 255, 511]
theorem impl_copyCircuit.tab1 : rtab .any (opsOf Try.f32 1) = impl_copyCircuit.T1 := by kernel_rfl
theorem impl_copyCircuit.bits1 : waitsOk impl_copyCircuit.T1.2 impl_copyCircuit.B1 = true := by kernel_rfl
theorem impl_copyCircuit.calls (a0_0 : Int) (A0_1 : Option Addr) (c0_1 : Nat) (l0_1 : List (S66)) (A0_2 : Option Addr) (c0_2 : Nat) (l0_2 : List Int) (r1 : Int) (r2 : List (S66)) (r3 : List Int) (w : World) (hr0_1 : Kd.C k66 w A0_1 l0_1.length l0_1) (hc0_1 : l0_1.length ≤ c0_1) (hr0_2 : Kd.C (Kd.int .i64) w A0_2 l0_2.length l0_2) (hc0_2 : l0_2.length ≤ c0_2) (h : impl_copyCircuit.f a0_0 l0_1 l0_2 = some (r1, r2, r3)) :
  Calls Try.prog 32 #[.agg #[.int .i64 a0_0, .slice A0_1 l0_1.length c0_1, .slice A0_2 l0_2.length c0_2]] w fun e w' => ∃ v1_ v2_ : Value, e = .returned (.agg #[.int .i64 r1, v1_, v2_]) ∧ Kd.R k66 66 w' w.heap.size (fun _ => True) v1_ r2 ∧ Kd.R (Kd.int .i64) 3 w' w.heap.size (fun _ => True) v2_ r3 ∧ Below w.heap.size w w' := by
 have hu27 := Try.underlying27
 have HR0_1 := am_ hr0_1
 have HC0_1 := am_ hc0_1
 clear hr0_1 hc0_1
 have HR0_2 := am_ hr0_2
 have HC0_2 := am_ hc0_2
 clear hr0_2 hc0_2
 have HB := am_ (Below.refl w.heap.size w)
 have H := h
 clear h
 unfold impl_copyCircuit.f at H
 obtain ⟨t248, A2, H⟩ := Sh.ba H
 obtain ⟨t251, A3, H⟩ := Sh.ba H
 simp only [Option.some.injEq, Prod.mk.injEq] at H
 obtain ⟨rfl, rfl, rfl⟩ := H
 go_enter Try.func32, Try.ntmps32
 try go_wp2_with (first | ((with_reducible refine Sh.d 1 ?_); refine Sh.bz w (N := 1) (cs := #[.int .i64 a0_0, .slice A0_1 l0_1.length c0_1, .slice A0_2 l0_2.length c0_2]) (t := 27) (h := ?_); clear HB; intro gb246 w4 BK246 GE246 HB) | ((with_reducible refine Sh.d 2 ?_); refine Sh.bx (N := 2) (cs := #[.int .i64 0, .slice none 0 0, .slice none 0 0]) (t := 27) (h := ?_); intro gb247 hg w5 hbox hb; have BK247 := am_ hbox; have GE247 := Sh.ag w hg; replace HB := Sh.hb hb; have NB246_247 := am_ (Sh.nl hg BK246.out); have NB247_246 := am_ (Sh.ng hg BK246.out); replace BK246 := Sh.ab BK246 hb; clear hb hbox hg))
 replace BK246 := am_ (blk_drew BK246.out)
 replace BK247 := am_ (blk_drew BK247.out)
 replace HB := am_ (below_drew1 HB.out)
 refine start_ (n := 10) (S := fun w' => w'.cell? ⟨gb246, 0, none⟩ = some (.int .i64 a0_0) ∧ w'.cell? ⟨gb246, 1, none⟩ = some (.slice A0_1 l0_1.length c0_1) ∧ w'.cell? ⟨gb246, 2, none⟩ = some (.slice A0_2 l0_2.length c0_2)) (ds := []) (Sh.nm 10 0) (by kernel_rfl) rfl rfl Sh.cs (fun hHeld => ?_); refine with_tabW impl_copyCircuit.tab1 impl_copyCircuit.bits1 (fun HT_ HW_ => ?_)
 generalize w5.drew = w6 at BK246 BK247 HB hHeld ⊢
 refine Sh.qA 0 ?_; refine Sh.qA 2 ?_; refine Sh.qA 5 ?_; refine Sh.qT 1 hHeld ?_; refine Sh.qT 3 hHeld ?_; refine Sh.qT 6 hHeld ?_
 refine Sh.oC 4 Try.func53 #[.slice A0_1 l0_1.length c0_1] fun K hK => ?_
 with_reducible refine (impl_Gate.calls _ _ l0_1 t248 _ (Sh.cB HR0_1.out) HC0_1.out A2.out).mono ?_
 rintro e w7 ⟨v249, rfl, ho0, hb⟩
 refine ⟨_, rfl, ?_⟩
 have HO250 := am_ (Kd.R_lower ho0 (below_size Sh.bw))
 replace BK246 := Sh.ab BK246 hb
 replace BK247 := Sh.ab BK247 hb
 replace HB := Sh.hb hb
 (try clear hb)
 (try clear hb2)
 (try clear hk)
 (try clear hi)
 (try clear ho0)
 refine Sh.kN hK Sh.cs fun hHeld => ?_
 clear hK K
 refine Sh.oC 7 Try.func54 #[.slice A0_2 l0_2.length c0_2] fun K hK => ?_
 with_reducible refine (slices_Clone_int_int.calls _ _ l0_2 t251 _ (Sh.cB HR0_2.out) HC0_2.out A3.out).mono ?_
 rintro e w8 ⟨v252, rfl, ho0, hb⟩
 refine ⟨_, rfl, ?_⟩
 replace HO250 := am_ (Kd.R_below (Sh.rl HO250.out) hb)
 have HO253 := am_ (Kd.R_lower ho0 (below_size Sh.bw))
 replace BK246 := Sh.ab BK246 hb
 replace BK247 := Sh.ab BK247 hb
 replace HB := Sh.hb hb
 (try clear hb)
 (try clear hb2)
 (try clear hk)
 (try clear hi)
 (try clear ho0)
 obtain ⟨Ao9, co9, eo9⟩ := Kd.R_slice HO253.out
 (first | subst eo9 | (injection eo9 with f1_ f2_ f3_; have f4_ := f1_.symm; have f5_ := f3_.symm; clear f1_ f2_ f3_; subst f4_; subst f5_))
 obtain ⟨Ao10, co10, eo10⟩ := Kd.R_slice HO250.out
 (first | subst eo10 | (injection eo10 with f1_ f2_ f3_; have f4_ := f1_.symm; have f5_ := f3_.symm; clear f1_ f2_ f3_; subst f4_; subst f5_))
 refine Sh.kN hK Sh.cs fun hHeld => ?_
 clear hK K
 refine Sh.qA 8 ?_
 refine one_ (i := 9) (N := none) (Sh.nm 10 1023) rfl rfl (one_of HT_.out (by kernel_rfl)) (by decide) (fun K hK => ?_)
 have hs11 : w8.cell? ⟨gb247, 0, none⟩ = some (.int .i64 0) := (blk_cell BK247.out 0).trans rfl
 have hfs11 := blk_frozen BK247.out 0
 have hns11_0 := NB246_247.out
 have hms11_0 := NB247_246.out
 have hs12 : w8.cell? ⟨gb247, 1, none⟩ = some (.slice none 0 0) := (blk_cell BK247.out 1).trans rfl
 have hfs12 := blk_frozen BK247.out 1
 have hns12_0 := NB246_247.out
 have hms12_0 := NB247_246.out
 have hs13 : w8.cell? ⟨gb247, 2, none⟩ = some (.slice none 0 0) := (blk_cell BK247.out 2).trans rfl
 have hfs13 := blk_frozen BK247.out 2
 have hns13_0 := NB246_247.out
 have hms13_0 := NB247_246.out
 refine skip_ (w1 := ?_) (by rfl) rfl ?_ ?_
 rotate_left
 ·go_simp
  rfl
 refine hK.out _ _ ⟨((cell_far (p := ⟨gb247, _, none⟩) NB246_247.out _).trans (((cell_far (p := ⟨gb247, _, none⟩) NB246_247.out _).trans (((cell_far (p := ⟨gb247, _, none⟩) NB246_247.out _).trans (hHeld.1)))))), ((cell_far (p := ⟨gb247, _, none⟩) NB246_247.out _).trans (((cell_far (p := ⟨gb247, _, none⟩) NB246_247.out _).trans (((cell_far (p := ⟨gb247, _, none⟩) NB246_247.out _).trans (hHeld.2.1)))))), ((cell_far (p := ⟨gb247, _, none⟩) NB246_247.out _).trans (((cell_far (p := ⟨gb247, _, none⟩) NB246_247.out _).trans (((cell_far (p := ⟨gb247, _, none⟩) NB246_247.out _).trans (hHeld.2.2))))))⟩ (fun hHeld => ?_)
 clear hK K
 refine done_ (done_of HT_.out (by kernel_rfl)) ?_
 try go_wp2
 refine bodyPost_ret (results_cell_row rfl _ _ gb247 27 #[.int .i64 a0_0, .slice Ao10 t248.length co10, .slice Ao9 t251.length co9] (0, 0) _ rfl (by refine Sh.pl ?_; refine blk_put (cs := #[.int .i64 a0_0, .slice Ao10 t248.length co10, .slice none 0 0]) ?_ 2 _ rfl; refine Sh.pl ?_; refine blk_put (cs := #[.int .i64 a0_0, .slice none 0 0, .slice none 0 0]) ?_ 1 _ rfl; refine Sh.pl ?_; refine blk_put (cs := #[.int .i64 0, .slice none 0 0, .slice none 0 0]) ?_ 0 _ rfl; refine Sh.pl ?_; exact BK247.out) Try.underlying27 rfl (by kernel_rfl)) rfl ?_
 exact ⟨_, _, by first | rfl | (simp [errW_none, errW_some] <;> rfl) | (simp [*, errW_none, errW_some] <;> rfl), Sh.rl (Kd.R_mono (Kd.R_far (p := ⟨gb247, 2, none⟩) (Kd.R_far (p := ⟨gb247, 1, none⟩) (Kd.R_far (p := ⟨gb247, 0, none⟩) (Kd.R_types HO250.out BK247.out (by decide)) (fun _ hk => hk.2) (.int .i64 a0_0)) (fun _ hk => hk.2) (.slice Ao10 t248.length co10)) (fun _ hk => hk.2) (.slice Ao9 t251.length co9)) (fun _ hk => trivial)), Sh.rl (Kd.R_mono (Kd.R_far (p := ⟨gb247, 2, none⟩) (Kd.R_far (p := ⟨gb247, 1, none⟩) (Kd.R_far (p := ⟨gb247, 0, none⟩) (Kd.R_types HO253.out BK247.out (by decide)) (fun _ hk => hk.2) (.int .i64 a0_0)) (fun _ hk => hk.2) (.slice Ao10 t248.length co10)) (fun _ hk => hk.2) (.slice Ao9 t251.length co9)) (fun _ hk => trivial)), Sh.bw⟩
/-- A circuit that grows: at block g of W (type t), its rows made behind w0; ok: which block the row of its outs may be. -/
def IsG (t : Nat) (ok : Nat → Prop) (w0 W : World) (g : Nat) (ins : Int) (gs : List S66) (os : List Int) : Prop :=
  ∃ A c A2 c2, W.heap[g]? = some (.cells #[.int .i64 ins, .slice A gs.length c, .slice A2 os.length c2] t (0, 0)) ∧ w0.heap.size ≤ g ∧ Kd.R k66 66 W w0.heap.size (fun _ => True) (.slice A gs.length c) gs ∧ Kd.R (Kd.int .i64) 3 W w0.heap.size ok (.slice A2 os.length c2) os
/-- All stays but block g and the rows of gates. -/
def KeepG (w w' : World) (g : Nat) : Prop := w.heap.size ≤ w'.heap.size ∧ ∀ i, i < w.heap.size → i ≠ g → (∀ cells, w.heap[i]? ≠ some (.cells cells 66 (0, 0))) → w'.heap[i]? = w.heap[i]?
section
variable {t : Nat} {ok ok' : Nat → Prop} {w w0 W w1 w2 : World} {g : Nat} {ins : Int} {gs : List S66} {os : List Int}
theorem KeepG.refl (w : World) (g : Nat) : KeepG w w g := ⟨Nat.le_refl _, fun _ _ _ _ => rfl⟩
theorem KeepG.trans (h : KeepG w w1 g) (k : KeepG w1 w2 g) : KeepG w w2 g :=
  ⟨Nat.le_trans h.1 k.1, fun i hi hg ht => (k.2 i (Nat.lt_of_lt_of_le hi h.1) hg (fun cells e => ht cells ((h.2 i hi hg ht).symm.trans e))).trans (h.2 i hi hg ht)⟩
theorem KeepG.of_below (h : Below w.heap.size w w1) (g : Nat) : KeepG w w1 g := ⟨h.size, fun i hi _ _ => h.block i hi⟩
theorem KeepG.set_ (h : KeepG w w1 g) (j : Nat) (u : Value) : KeepG w (w1.setCell ⟨g, j, none⟩ u) g :=
  h.trans ⟨by simp [World.setCell], fun i _ hg _ => Below.heap_setCell w1 ⟨g, j, none⟩ u i hg⟩
theorem KeepG.of_grown {v : Value} (h : w.grownBy w1 v.ownBlock) (hv : ∀ k, v.ownBlock = some k → ∃ cells, w.heap[k]? = some (.cells cells 66 (0, 0))) (g : Nat) : KeepG w w1 g :=
  ⟨h.size, fun i hi _ ht => h.block i hi (fun e => by
    obtain ⟨cells, hc⟩ := hv i e.symm
    exact ht cells hc)⟩
theorem IsG.below (h : IsG t ok w0 W g ins gs os) (hw : Below W.heap.size W w1) : IsG t ok w0 w1 g ins gs os := by
  obtain ⟨A, c, A2, c2, hb, hg, h1, h2⟩ := h
  exact ⟨A, c, A2, c2, blk_below hb hw, hg, Kd.R_below h1 hw, Kd.R_below h2 hw⟩
theorem IsG.alloc (h : IsG t ok w0 W g ins gs os) (o : Obj) : IsG t ok w0 (W.alloc o) g ins gs os := h.below (below_alloc (Below.refl _ _) o)
theorem IsG.drewN (h : IsG t ok w0 W g ins gs os) (m : Nat) : IsG t ok w0 (W.drewN m) g ins gs os := h
theorem IsG.drew (h : IsG t ok w0 W g ins gs os) : IsG t ok w0 W.drew g ins gs os := h
theorem IsG.ge (h : IsG t ok w0 W g ins gs os) : w0.heap.size ≤ g := by
  obtain ⟨A, c, A2, c2, hb, hg, h1, h2⟩ := h
  exact hg
theorem IsG.lt (h : IsG t ok w0 W g ins gs os) : g < W.heap.size := by
  obtain ⟨A, c, A2, c2, hb, hg, h1, h2⟩ := h
  exact blk_lt hb
theorem IsG.mono (h : IsG t ok w0 W g ins gs os) (hk : ∀ k, ok k → ok' k) : IsG t ok' w0 W g ins gs os := by
  obtain ⟨A, c, A2, c2, hb, hg, h1, h2⟩ := h
  exact ⟨A, c, A2, c2, hb, hg, h1, Kd.R_mono h2 hk⟩
theorem IsG.bound (h : IsG t ok w0 W g ins gs os) : IsG t (fun k => ok k ∧ k < W.heap.size) w0 W g ins gs os := by
  obtain ⟨A, c, A2, c2, hb, hg, h1, h2⟩ := h
  exact ⟨A, c, A2, c2, hb, hg, h1, Kd.R_mono (Kd.R_bound h2) (fun _ h => ⟨h.1, h.2.2.1⟩)⟩
/-- A row of ints was written that is none of its own. -/
theorem IsG.grown (h : IsG t ok w0 W g ins gs os) {v : Value} (hw : W.grownBy w1 v.ownBlock) (hv : ∀ k, v.ownBlock = some k → ∃ cells, W.heap[k]? = some (.cells cells 3 (0, 0))) (hok : ∀ k, ok k → some k ≠ v.ownBlock) (ht : t ≠ 3) : IsG t ok w0 w1 g ins gs os := by
  obtain ⟨A, c, A2, c2, hb, hg, h1, h2⟩ := h
  have hne : some g ≠ v.ownBlock := fun e => by
    obtain ⟨cells, hc⟩ := hv g e.symm
    rw [hb] at hc
    injection hc with hc
    injection hc with _ hc
    exact ht hc
  exact ⟨A, c, A2, c2, blk_grown hb hw hne, hg, Kd.R_over' h1 hv (by decide) hw, Kd.R_grown h2 hw hok⟩
/-- Rows of others stay. -/
theorem R_keepG {α : Type} {cells : Array Value} {d : Kd α} {e base : Nat} {v : Value} {xs : List α} (h : d.R e w base ok v xs) (hk : KeepG w w1 g) (hb : w.heap[g]? = some (.cells cells t (0, 0))) (ht : ∀ q, q ∈ e :: d.E → q ≠ t) (h6 : ∀ q, q ∈ e :: d.E → q ≠ 66) : d.R e w1 base ok v xs :=
  Kd.R_mono (Kd.R_move (Kd.R_bound h) (fun k hk' => hk.2 k hk'.2.2.1 (fun e' => by
    obtain ⟨_, _, _, q, hq, cells', hc⟩ := hk'
    rw [e', hb] at hc
    injection hc with hc
    injection hc with _ hc
    exact ht q hq hc.symm) (fun cells' hc' => by
    obtain ⟨_, _, _, q, hq, cells', hc⟩ := hk'
    rw [hc'] at hc
    injection hc with hc
    injection hc with _ hc
    exact h6 q hq hc.symm))) (fun _ hk => hk.1)
theorem KeepG.own (h : KeepG w w1 g) {row : Option Nat} (k : w1.grownBy w2 row) (hr : row = none ∨ ∃ b, row = some b ∧ w.heap.size ≤ b) : KeepG w w2 g :=
  ⟨Nat.le_trans h.1 k.size, fun i hi hg ht => (k.block i (Nat.lt_of_lt_of_le hi h.1) (fun e => by
    rcases hr with hr | ⟨b, hr, hb⟩
    · rw [hr] at e; cases e
    · rw [hr] at e; injection e with e; omega)).trans (h.2 i hi hg ht)⟩
theorem KeepG.alloc (h : KeepG w w1 g) (o : Obj) : KeepG w (w1.alloc o) g := h.trans (KeepG.of_below (below_alloc (Below.refl _ _) o) g)
theorem base_ne {v : Value} {n : Nat} (h : v.ownBlock = none ∨ ∃ b, v.ownBlock = some b ∧ n ≤ b) {k : Nat} (hk : k < n) : some k ≠ v.ownBlock := fun e => by
  rcases h with h | ⟨b, h, hb⟩
  · rw [h] at e; cases e
  · rw [h] at e; injection e with e; omega
/-- A row of ints beside the state, behind a call that turned the state. -/
theorem IsG.row (h : IsG t ok w0 w g ins gs os) {base : Nat} {ok2 : Nat → Prop} {v : Value} {xs : List Int} (hr : (Kd.int .i64).R 3 w base ok2 v xs) (hk : KeepG w w1 g) (ht : t ≠ 3) : (Kd.int .i64).R 3 w1 base ok2 v xs := by
  obtain ⟨A, c, A2, c2, hb, hg, h1, h2⟩ := h
  exact R_keepG hr hk hb (fun q hq => by
    rcases List.mem_cons.1 hq with rfl | hq
    · exact fun e => ht e.symm
    · cases hq) (fun q hq => by
    rcases List.mem_cons.1 hq with rfl | hq
    · decide
    · cases hq)
theorem KeepG.blk (h : KeepG w w1 g) {g' t' : Nat} {cs : Array Value} (hb : w.heap[g']? = some (.cells cs t' (0, 0))) (hg : g' ≠ g) (ht : t' ≠ 66) : w1.heap[g']? = some (.cells cs t' (0, 0)) :=
  (h.2 g' (blk_lt hb) hg (fun cells e => by
    rw [hb] at e
    injection e with e
    injection e with _ e
    exact ht e)).trans hb
end

def impl_put.f (ins : Int) (gs : List S66) (kind a b : Int) : Option (Int × List S66) := if gs.length < 5864062014805 then some (wrap64 (wrap64 (ins + ((gs ++ [(⟨kind, a, b⟩ : S66)]).length : Int)) - 1), gs ++ [(⟨kind, a, b⟩ : S66)]) else none
theorem impl_put.calls (g : Nat) (ok : Nat → Prop) (ins : Int) (gs : List S66) (os : List Int) (kind a b r1 : Int) (r2 : List S66) (w0 w : World) (hI : IsG 27 ok w0 w g ins gs os) (hB : Below w0.heap.size w0 w) (h : impl_put.f ins gs kind a b = some (r1, r2)) :
  Calls Try.prog 55 #[.pointer (some ⟨g, 0, none⟩), .int .i64 kind, .int .i64 a, .int .i64 b] w fun e w' => e = .returned (.int .i64 r1) ∧ IsG 27 ok w0 w' g ins r2 os ∧ Below w0.heap.size w0 w' ∧ KeepG w w' g := by
 have hu27 := Try.underlying27
 have hu66 := Try.underlying66
 obtain ⟨A, c, A2, c2, bk, ge, ho, hs⟩ := hI
 have BK := am_ bk
 have GE := am_ ge
 have HO := am_ ho
 have HS := am_ hs
 have HL := am_ hB.size
 have HB := am_ hB
 clear bk ge ho hs hB
 have LM : gs.length < 5864062014805 := by
  rcases Nat.lt_or_ge gs.length 5864062014805 with h1 | h1
  · exact h1
  · rw [impl_put.f, if_neg (by omega)] at h; cases h
 rw [impl_put.f, if_pos LM] at h
 have LM := am_ LM
 simp only [Option.some.injEq, Prod.mk.injEq] at h
 obtain ⟨rfl, rfl⟩ := h
 go_enter Try.func55, Try.ntmps55
 obtain ⟨hcz1_0, hcz1_1, hcz1_2, hfz1_0, hfz1_1, hfz1_2⟩ := Sh.b3 BK.out
 have HK := am_ (KeepG.refl w g)
 obtain ⟨y, hy⟩ : ∃ y_ : List S66, y_ = gs ++ [(⟨kind, a, b⟩ : S66)] := ⟨_, rfl⟩
 rw [← hy]
 have Ny := am_ hy
 clear hy
 go_wp2_with (first | ((with_reducible refine gate_builtin (b := .append) (xs := #[.tmp 13, .tmp 18]) rfl ?_); at_builtin; refine Kd.R_append k66 w0.heap.size rfl (.tmp 13) (.tmp 18) 24 66 (.agg #[(.int .i64 0), (.int .i64 0), (.int .i64 0)]) 24 rfl Try.underlying24 info66 rfl (by decide) (by omega) (.slice A gs.length c) gs (⟨kind, a, b⟩ : S66) [.int .i64 kind, .int .i64 a, .int .i64 b] (fun _ => True) (fun _ => False) rfl rfl ?aP (fun _ hk => hk.elim) ?aF ?aO (Below.refl _ _) ?aS ?aL ?_; (case aP => exact k66_mkM _ _ _ (⟨kind, a, b⟩ : S66)); (case aF => exact (fun _ _ => trivial)); (case aO => exact (Sh.rl HO.out)); (case aS => exact HL.out); (case aL => have := LM.out; omega); intro v1 w1 ho hb hg hat; rw [← Ny.out] at ho; have n1_ := am_ (blk_grown (g := g) (o := .cells #[.int .i64 ins, .slice A gs.length c, .slice A2 os.length c2] 27 (0, 0)) (Sh.pl BK.out) hg (Kd.R_ne HO.out BK.out (by decide))); have n2_ := am_ (Kd.R_over' (Sh.rl HS.out) (Kd.R_typed (Sh.rl HO.out)) (by decide) hg); have n3_ := am_ (HB.out.trans hb); have n4_ := am_ (KeepG.of_grown hg (Kd.R_typed (Sh.rl HO.out)) g); clear BK; clear HS; clear HO; clear HB; clear HK; clear hcz1_0 hcz1_1 hcz1_2 hfz1_0 hfz1_1 hfz1_2; have BK := n1_; have HS := n2_; have HB := n3_; have HK := n4_; have HO := am_ ho; clear n1_ n2_ n3_ n4_; clear ho hb hg hat; obtain ⟨Ao, co, eo⟩ := Kd.R_slice HO.out; subst eo; obtain ⟨hcz1_0, hcz1_1, hcz1_2, hfz1_0, hfz1_1, hfz1_2⟩ := Sh.b3 BK.out))
 have hb2 := blk_put (cs := #[.int .i64 ins, .slice A gs.length c, .slice A2 os.length c2]) BK.out 1 (.slice Ao y.length co) rfl
 have ho2 : Kd.R k66 66 (w1.setCell ⟨g, 1, none⟩ (.slice Ao y.length co)) w0.heap.size (fun _ => True) (.slice Ao y.length co) y := Kd.R_mono (Kd.R_far (p := ⟨g, 1, none⟩) (Kd.R_types HO.out BK.out (by decide)) (fun _ hk => hk.2) _) (fun _ _ => trivial)
 have hs2 : Kd.R (Kd.int .i64) 3 (w1.setCell ⟨g, 1, none⟩ (.slice Ao y.length co)) w0.heap.size ok (.slice A2 os.length c2) os := Kd.R_mono (Kd.R_far (p := ⟨g, 1, none⟩) (Kd.R_types HS.out BK.out (by decide)) (fun _ hk => hk.2) _) (fun _ hk => hk.1)
 have HB2 := am_ (below_set (j := 1) (v := .slice Ao y.length co) HB.out GE.out)
 have HK2 := am_ (KeepG.set_ HK.out 1 (.slice Ao y.length co))
 clear HB HK BK HO HS hcz1_0 hcz1_1 hcz1_2 hfz1_0 hfz1_1 hfz1_2
 generalize w1.setCell ⟨g, 1, none⟩ (.slice Ao y.length co) = w2 at hb2 ho2 hs2 HB2 HK2 ⊢
 have HI2 : Aside0 (IsG 27 ok w0 w2 g ins y os) := ⟨⟨Ao, co, A2, c2, hb2, GE.out, ho2, hs2⟩⟩
 refine (impl_Circuit_wires.calls ins _ _ y _ _ os _ w2 (Kd.R_reads' ho2).2.2 (Kd.R_reads' ho2).2.1 (Kd.R_reads' hs2).2.2 (Kd.R_reads' hs2).2.1 rfl).mono ?_
 rintro e w3 ⟨rfl, hb3⟩
 go_wp2
 go_ret
 exact ⟨rfl, HI2.out.below hb3, below_step HB2.out hb3, HK2.out.trans (KeepG.of_below hb3 g)⟩

def impl_putAdd.l0 : Nat → Int → List Int → List Int → Int → Int → Int → List Int → List S66 → Option (List Int × List S66)
 | 0, _, _, _, _, _, _, _, _ => none
 | k + 1, ins, a, b, n, i, carry, out, gs => if i < n then (if 0 ≤ i then (if i < (a.length : Int) then (if i < (b.length : Int) then ((impl_put.f ins gs 5 (rd a i) (rd b i)).bind fun p0 => ((impl_put.f ins p0.2 5 p0.1 carry).bind fun p1 => (if out.length < 17592186044416 then (((impl_put.f ins p1.2 3 (rd a i) (rd b i)).bind fun p2 => ((impl_put.f ins p2.2 3 p0.1 carry).bind fun p3 => ((impl_put.f ins p3.2 4 p2.1 p3.1).bind fun p4 => (impl_putAdd.l0 k ins a b n (wrap64 (i + 1)) p4.1 (out ++ [p1.1]) p4.2))))) else (none)))) else (none)) else (none)) else (none)) else (some (out, gs))
def impl_putAdd.f (k : Nat) (ins : Int) (gs : List S66) (a b : List Int) (carry : Int) : Option (List Int × List S66) := impl_putAdd.l0 k ins a b (a.length : Int) 0 carry ([] : List Int) gs
theorem impl_putAdd.mono_l : ∀ k, (∀ y0 y1 y2 y3 y4 y5 y6 y7, LeO (impl_putAdd.l0 k y0 y1 y2 y3 y4 y5 y6 y7) (impl_putAdd.l0 (k + 1) y0 y1 y2 y3 y4 y5 y6 y7))
 | 0 => fun _ _ _ _ _ _ _ _ r h => by simp [impl_putAdd.l0] at h
 | k + 1 => by
  have ih0 := impl_putAdd.mono_l k
  intro y0 y1 y2 y3 y4 y5 y6 y7
  unfold impl_putAdd.l0
  repeat' with_reducible first | apply ih0 | exact LeO.refl _ | exact LeO.none _ | apply LeO.ite | refine LeO.bind ?_ fun _ => ?_
theorem impl_putAdd.mono : ∀ a0 a1 a2 a3 a4 k, LeO (impl_putAdd.f k a0 a1 a2 a3 a4) (impl_putAdd.f (k + 1) a0 a1 a2 a3 a4) := by
 intro a0 a1 a2 a3 a4 k
 have ih0 := impl_putAdd.mono_l k
 unfold impl_putAdd.f
 repeat' with_reducible first | apply ih0 | exact LeO.refl _ | exact LeO.none _ | apply LeO.ite | refine LeO.bind ?_ fun _ => ?_
def impl_putAdd.T : Bool × List (List Nat × List Nat) := (true, [([], []), ([], []), ([], []), ([1, 2], [1, 2]), ([3], [3]), ([], []), ([], []), ([5, 6], [5, 6]), ([7], [7]), ([0, 4, 8], [0, 4, 8]), ([9, 9, 0, 1, 2, 3, 4, 5, 6, 7, 8, 9], [9])])
def impl_putAdd.B : List Nat := [0, 0, 0, 6, 14, 0, 0, 96, 224, 511, 1023]
theorem impl_putAdd.tab5 : rtab .any (opsOf Try.f33 5) = impl_putAdd.T := by kernel_rfl
theorem impl_putAdd.tab7 : rtab .any (opsOf Try.f33 7) = impl_putAdd.T := by kernel_rfl
theorem impl_putAdd.bits : waitsOk impl_putAdd.T.2 impl_putAdd.B = true := by kernel_rfl
theorem impl_putAdd.calls (k : Nat) (g : Nat) (ok : Nat → Prop) (ins : Int) (gs : List S66) (os : List Int) (A1 : Option Addr) (c1 : Nat) (l1 : List Int) (A2 : Option Addr) (c2 : Nat) (l2 : List Int) (a3 : Int) (r1 : List Int) (r2 : List S66) (w0 w : World) (hI : IsG 27 ok w0 w g ins gs os) (hB : Below w0.heap.size w0 w) (hr1 : Kd.C (Kd.int .i64) w0 A1 l1.length l1) (hr2 : Kd.C (Kd.int .i64) w0 A2 l2.length l2) (h : impl_putAdd.f k ins gs l1 l2 a3 = some (r1, r2)) :
  Calls Try.prog 33 #[.pointer (some ⟨g, 0, none⟩), .slice A1 l1.length c1, .slice A2 l2.length c2, .int .i64 a3] w fun e w' => ∃ v : Value, e = .returned v ∧ Kd.R (Kd.int .i64) 3 w' w.heap.size (fun _ => True) v r1 ∧ IsG 27 (fun k => ok k ∧ k < w.heap.size) w0 w' g ins r2 os ∧ Below w0.heap.size w0 w' ∧ KeepG w w' g := by
 have HI := am_ (IsG.bound hI)
 have HB := am_ hB
 have HL := am_ hB.size
 have HK := am_ (KeepG.refl w g)
 have HR1 := am_ hr1
 have HR2 := am_ hr2
 clear hI hB hr1 hr2
 unfold impl_putAdd.f at h
 have H' := am_ h
 clear h
 go_enter Try.func33, Try.ntmps33
 go_wp2_with (first | ((with_reducible refine Sh.d 14 ?_); refine Kd.R_lit (Kd.int .i64) _ 3 ?hg (N := 14) ?hd (xs := ([] : List Int)) (inner := []) (ok := fun _ => True) (okp := fun _ => True) ?hr ?hp (fun _ hk => hk) trivial (Below.refl _ _) (Nat.le_refl _) (by simp) ?_; (case hd => rfl); (case hg => rfl); (case hr => first | (go_simp; done) | (go_simp; rfl)); (case hp => exact (Reps.none _ _)); intro v14 w1 ho hb hg_ hnew_; clear hg_ hnew_; have n0_ := am_ (IsG.below HI.out hb); have n1_ := am_ (below_step HB.out hb); have n2_ := am_ (KeepG.of_below hb g); clear HI HB HK; have HI := n0_; have HB := n1_; have HK := n2_; have HO := am_ ho; clear n0_ n1_ n2_ ho hb))
 go_loopg [3, 9, 17] k (fun kq v3 v9 v17 w' => ∃ (xi xc : Int) (xo : List Int) (xg : List S66), v3 = .int .i64 xc ∧ v17 = .int .i64 xi ∧ Aside0 (impl_putAdd.l0 kq ins l1 l2 (l1.length : Int) xi xc xo xg = some (r1, r2)) ∧ Aside0 (kq ≤ k) ∧ Aside0 (Kd.R (Kd.int .i64) 3 w' w.heap.size (fun _ => True) v9 xo) ∧ Aside0 (IsG 27 (fun k => ok k ∧ k < w.heap.size) w0 w' g ins xg os) ∧ Aside0 (KeepG w w' g) ∧ Aside0 (Below w0.heap.size w0 w'))
 case atStart => exact ⟨0, a3, [], gs, rfl, rfl, H', ⟨Nat.le_refl _⟩, ⟨HO.out⟩, ⟨by repeat (first | (with_reducible first | exact HI.out | apply IsG.alloc | apply IsG.drewN | apply IsG.drew) | exact HI.out)⟩, ⟨by first | exact HK.out | exact KeepG.alloc HK.out _⟩, ⟨by repeat (first | (with_reducible first | exact HB.out | apply below_alloc | apply pw_below_drewN | apply below_drew1) | exact HB.out | with_reducible refine Below.alloc ?_ (by first | exact HL.out | exact Nat.le_trans HL.out HK.out.1) _)⟩⟩
 case round =>
  clear H'
  obtain ⟨xi, xc, xo, xg, rfl, rfl, HA, HK1, HO, HI, HK, HB⟩ := hrel
  cases gk with
  | zero => exact absurd HA.out (by simp [impl_putAdd.l0])
  | succ k1 =>
   have H := HA.out
   clear HA
   simp only [impl_putAdd.l0] at H
   by_cases c4 : xi < (l1.length : Int)
   ·rw [if_pos c4] at H
    have c4b0 := decide_eq_true c4
    by_cases c5 : 0 ≤ xi
    ·rw [if_pos c5, if_pos c4] at H
     by_cases c6 : xi < (l2.length : Int)
     ·rw [if_pos c6] at H
      obtain ⟨⟨xx, gx⟩, Fx, H⟩ := Sh.ba H
      obtain ⟨⟨xs, gs⟩, Fs, H⟩ := Sh.ba H
      by_cases c7 : xo.length < 17592186044416
      ·rw [if_pos c7] at H
       have LM := am_ c7
       obtain ⟨⟨xp, gp⟩, Fp, H⟩ := Sh.ba H
       obtain ⟨⟨xq, gq⟩, Fq, H⟩ := Sh.ba H
       obtain ⟨⟨xu, gu⟩, Fu, H⟩ := Sh.ba H
       obtain ⟨yo, hyo⟩ : ∃ y_ : List Int, y_ = xo ++ [xs] := ⟨_, rfl⟩
       rw [← hyo] at H
       have Ny := am_ hyo
       clear hyo
       have H' := am_ H
       clear H
       obtain ⟨ad1, e1, hx1⟩ := Kd.at_int HR1.out xi c5 c4
       subst e1
       obtain ⟨ad2, e2, hx2⟩ := Kd.at_int HR2.out xi c5 c6
       subst e2
       go_wp2
       refine start_ (n := 11) (S := fun w' => w'.cell? (ad1.add xi.toNat) = some (.int .i64 (rd l1 xi)) ∧ w'.cell? (ad2.add xi.toNat) = some (.int .i64 (rd l2 xi))) (ds := []) (Sh.nm 11 0) (by kernel_rfl) rfl rfl ⟨(HB.out.cell (World.block_lt_of_cell? w0 _ hx1)).trans hx1, (HB.out.cell (World.block_lt_of_cell? w0 _ hx2)).trans hx2⟩ (fun hHeld => ?_)
       refine with_tabW impl_putAdd.tab5 impl_putAdd.bits (fun HT_ HW_ => ?_)
       refine Sh.qA 0 ?_; refine Sh.qA 1 ?_; refine Sh.qA 2 ?_; refine Sh.qA 3 ?_; refine Sh.qT 4 hHeld ?_; refine Sh.qA 5 ?_; refine Sh.qA 6 ?_; refine Sh.qA 7 ?_; refine Sh.qT 8 hHeld ?_
       refine Sh.oC 9 Try.func55 #[.pointer (some ⟨g, 0, none⟩), .int .i64 5, .int .i64 (rd l1 xi), .int .i64 (rd l2 xi)] fun K hK => ?_
       (with_reducible refine (impl_put.calls g (fun k => ok k ∧ k < w.heap.size) ins xg os 5 (rd l1 xi) (rd l2 xi) xx gx w0 _ ?side1 ?side2 Fx.out).mono ?_)
       (case side1 => repeat (first | (with_reducible first | exact HI.out | apply IsG.alloc | apply IsG.drewN | apply IsG.drew) | exact HI.out))
       (case side2 => repeat (first | (with_reducible first | exact HB.out | apply below_alloc | apply pw_below_drewN | apply below_drew1) | exact HB.out | with_reducible refine Below.alloc ?_ (by first | exact HL.out | exact Nat.le_trans HL.out HK.out.1) _))
       rintro e wx ⟨rfl, hi, hb, hk⟩
       refine ⟨_, rfl, ?_⟩
       have n1_ := am_ (IsG.row (show IsG 27 (fun k => ok k ∧ k < w.heap.size) w0 _ g ins xg os from by repeat (first | (with_reducible first | exact HI.out | apply IsG.alloc | apply IsG.drewN | apply IsG.drew) | exact HI.out)) (by first | exact HO.out | exact Sh.rl HO.out) hk (by decide))
       have n2_ := am_ ((by first | exact KeepG.trans HK.out hk | exact KeepG.trans (KeepG.alloc HK.out _) hk) : KeepG w wx g)
       clear HI HB HK HO
       have HI := am_ hi
       have HB := am_ hb
       have HK := n2_
       have HO := n1_
       clear hi hb hk n2_ n1_
       refine Sh.kN hK ⟨(HB.out.cell (World.block_lt_of_cell? w0 _ hx1)).trans hx1, (HB.out.cell (World.block_lt_of_cell? w0 _ hx2)).trans hx2⟩ fun hHeld => ?_
       clear hK K
       refine Sh.qA 10 ?_
       refine done_ (done_of HT_.out (by kernel_rfl)) ?_
       go_wp2_with (first | (go_at_call 55; (with_reducible refine (impl_put.calls g (fun k => ok k ∧ k < w.heap.size) ins gx os 5 xx xc xs gs w0 _ ?side1 ?side2 Fs.out).mono ?_); (case side1 => repeat (first | (with_reducible first | exact HI.out | apply IsG.alloc | apply IsG.drewN | apply IsG.drew) | exact HI.out)); (case side2 => repeat (first | (with_reducible first | exact HB.out | apply below_alloc | apply pw_below_drewN | apply below_drew1) | exact HB.out | with_reducible refine Below.alloc ?_ (by first | exact HL.out | exact Nat.le_trans HL.out HK.out.1) _)); rintro e ws ⟨rfl, hi, hb, hk⟩; have n1_ := am_ (IsG.row (show IsG 27 (fun k => ok k ∧ k < w.heap.size) w0 _ g ins gx os from by repeat (first | (with_reducible first | exact HI.out | apply IsG.alloc | apply IsG.drewN | apply IsG.drew) | exact HI.out)) (by first | exact HO.out | exact Sh.rl HO.out) hk (by decide)); have n2_ := am_ ((by first | exact KeepG.trans HK.out hk | exact KeepG.trans (KeepG.alloc HK.out _) hk) : KeepG w ws g); clear HI HB HK HO; have HI := am_ hi; have HB := am_ hb; have HK := n2_; have HO := n1_; clear hi hb hk n2_ n1_) | ((with_reducible refine gate_builtin (b := .append) (xs := #[.tmp 30, .tmp 35]) rfl ?_); at_builtin; refine Kd.R_append (Kd.int .i64) w.heap.size rfl (.tmp 30) (.tmp 35) 25 3 (.int .i64 0) 8 rfl Try.underlying25 info3 rfl (by decide) (by omega) u9 xo xs [.int .i64 xs] (fun _ => True) (fun _ => False) rfl rfl ?aP (fun _ hk => hk.elim) ?aF ?aO (Below.refl _ _) ?aS ?aL ?_; (case aP => exact rfl); (case aF => exact (fun _ _ => trivial)); (case aO => exact (Sh.rl HO.out)); (case aS => exact HK.out.1); (case aL => have := LM.out; omega); intro v1 w1 ho hb hg hat; rw [← Ny.out] at ho; have n1_ := am_ (IsG.grown (by repeat (first | (with_reducible first | exact HI.out | apply IsG.alloc | apply IsG.drewN | apply IsG.drew) | exact HI.out)) hg (Kd.R_typed (Sh.rl HO.out)) (fun k_ (hk_ : ok k_ ∧ k_ < w.heap.size) => base_ne (Kd.R_base2 HO.out) hk_.2) (by decide)); have n2_ := am_ (below_weaken (by repeat (first | (with_reducible first | exact HB.out | apply below_alloc | apply pw_below_drewN | apply below_drew1) | exact HB.out | with_reducible refine Below.alloc ?_ (by first | exact HL.out | exact Nat.le_trans HL.out HK.out.1) _)) HL.out hb); have n3_ := am_ (KeepG.own HK.out hg (Kd.R_base2 HO.out)); clear HI HB HK HO; have HI := n1_; have HB := n2_; have HK := n3_; have HO := am_ ho; clear n1_ n2_ n3_ ho hb hg hat))
       refine start_ (n := 11) (S := fun w' => w'.cell? (ad1.add xi.toNat) = some (.int .i64 (rd l1 xi)) ∧ w'.cell? (ad2.add xi.toNat) = some (.int .i64 (rd l2 xi))) (ds := []) (Sh.nm 11 0) (by kernel_rfl) rfl rfl ⟨(HB.out.cell (World.block_lt_of_cell? w0 _ hx1)).trans hx1, (HB.out.cell (World.block_lt_of_cell? w0 _ hx2)).trans hx2⟩ (fun hHeld => ?_)
       refine with_tabW impl_putAdd.tab7 impl_putAdd.bits (fun HT_ HW_ => ?_)
       refine Sh.qA 0 ?_; refine Sh.qA 1 ?_; refine Sh.qA 2 ?_; refine Sh.qA 3 ?_; refine Sh.qT 4 hHeld ?_; refine Sh.qA 5 ?_; refine Sh.qA 6 ?_; refine Sh.qA 7 ?_; refine Sh.qT 8 hHeld ?_
       refine Sh.oC 9 Try.func55 #[.pointer (some ⟨g, 0, none⟩), .int .i64 3, .int .i64 (rd l1 xi), .int .i64 (rd l2 xi)] fun K hK => ?_
       (with_reducible refine (impl_put.calls g (fun k => ok k ∧ k < w.heap.size) ins gs os 3 (rd l1 xi) (rd l2 xi) xp gp w0 _ ?side1 ?side2 Fp.out).mono ?_)
       (case side1 => repeat (first | (with_reducible first | exact HI.out | apply IsG.alloc | apply IsG.drewN | apply IsG.drew) | exact HI.out))
       (case side2 => repeat (first | (with_reducible first | exact HB.out | apply below_alloc | apply pw_below_drewN | apply below_drew1) | exact HB.out | with_reducible refine Below.alloc ?_ (by first | exact HL.out | exact Nat.le_trans HL.out HK.out.1) _))
       rintro e wp ⟨rfl, hi, hb, hk⟩
       refine ⟨_, rfl, ?_⟩
       have n1_ := am_ (IsG.row (show IsG 27 (fun k => ok k ∧ k < w.heap.size) w0 _ g ins gs os from by repeat (first | (with_reducible first | exact HI.out | apply IsG.alloc | apply IsG.drewN | apply IsG.drew) | exact HI.out)) (by first | exact HO.out | exact Sh.rl HO.out) hk (by decide))
       have n2_ := am_ ((by first | exact KeepG.trans HK.out hk | exact KeepG.trans (KeepG.alloc HK.out _) hk) : KeepG w wp g)
       clear HI HB HK HO
       have HI := am_ hi
       have HB := am_ hb
       have HK := n2_
       have HO := n1_
       clear hi hb hk n2_ n1_
       refine Sh.kN hK ⟨(HB.out.cell (World.block_lt_of_cell? w0 _ hx1)).trans hx1, (HB.out.cell (World.block_lt_of_cell? w0 _ hx2)).trans hx2⟩ fun hHeld => ?_
       clear hK K
       refine Sh.qA 10 ?_
       refine done_ (done_of HT_.out (by kernel_rfl)) ?_
       go_wp2_with (first | (go_at_call 55; (with_reducible refine (impl_put.calls g (fun k => ok k ∧ k < w.heap.size) ins gp os 3 xx xc xq gq w0 _ ?side1 ?side2 Fq.out).mono ?_); (case side1 => repeat (first | (with_reducible first | exact HI.out | apply IsG.alloc | apply IsG.drewN | apply IsG.drew) | exact HI.out)); (case side2 => repeat (first | (with_reducible first | exact HB.out | apply below_alloc | apply pw_below_drewN | apply below_drew1) | exact HB.out | with_reducible refine Below.alloc ?_ (by first | exact HL.out | exact Nat.le_trans HL.out HK.out.1) _)); rintro e wq ⟨rfl, hi, hb, hk⟩; have n1_ := am_ (IsG.row (show IsG 27 (fun k => ok k ∧ k < w.heap.size) w0 _ g ins gp os from by repeat (first | (with_reducible first | exact HI.out | apply IsG.alloc | apply IsG.drewN | apply IsG.drew) | exact HI.out)) (by first | exact HO.out | exact Sh.rl HO.out) hk (by decide)); have n2_ := am_ ((by first | exact KeepG.trans HK.out hk | exact KeepG.trans (KeepG.alloc HK.out _) hk) : KeepG w wq g); clear HI HB HK HO; have HI := am_ hi; have HB := am_ hb; have HK := n2_; have HO := n1_; clear hi hb hk n2_ n1_) | (go_at_call 55; (with_reducible refine (impl_put.calls g (fun k => ok k ∧ k < w.heap.size) ins gq os 4 xp xq xu gu w0 _ ?side1 ?side2 Fu.out).mono ?_); (case side1 => repeat (first | (with_reducible first | exact HI.out | apply IsG.alloc | apply IsG.drewN | apply IsG.drew) | exact HI.out)); (case side2 => repeat (first | (with_reducible first | exact HB.out | apply below_alloc | apply pw_below_drewN | apply below_drew1) | exact HB.out | with_reducible refine Below.alloc ?_ (by first | exact HL.out | exact Nat.le_trans HL.out HK.out.1) _)); rintro e wu ⟨rfl, hi, hb, hk⟩; have n1_ := am_ (IsG.row (show IsG 27 (fun k => ok k ∧ k < w.heap.size) w0 _ g ins gq os from by repeat (first | (with_reducible first | exact HI.out | apply IsG.alloc | apply IsG.drewN | apply IsG.drew) | exact HI.out)) (by first | exact HO.out | exact Sh.rl HO.out) hk (by decide)); have n2_ := am_ ((by first | exact KeepG.trans HK.out hk | exact KeepG.trans (KeepG.alloc HK.out _) hk) : KeepG w wu g); clear HI HB HK HO; have HI := am_ hi; have HB := am_ hb; have HK := n2_; have HO := n1_; clear hi hb hk n2_ n1_))
       go_roundg k1
       case measure => have := HK1.out; omega
       case rel => exact ⟨(wrap64 (xi + 1)), _, _, _, rfl, rfl, H', ⟨by have := HK1.out; omega⟩, ⟨HO.out⟩, ⟨HI.out⟩, ⟨HK.out⟩, ⟨HB.out⟩⟩
      ·rw [if_neg c7] at H
       exact absurd H (by simp)
     ·rw [if_neg c6] at H
      exact absurd H (by simp)
    ·rw [if_neg c5] at H
     exact absurd H (by simp)
   ·rw [if_neg c4] at H
    have c4b0 := decide_eq_false c4
    simp only [Option.some.injEq, Prod.mk.injEq] at H
    obtain ⟨rfl, rfl⟩ := H
    go_wp2
    go_ret
    exact ⟨_, Sh.eR, HO.out, HI.out, HB.out, HK.out⟩

def impl_AddGates.f (k : Nat) (a0_0 : Int) (l0_1 : List S66) (l0_2 : List Int) (l1 l2 : List Int) (a3 : Int) : Option (Int × List S66 × List Int × List Int × Bool) :=
 (impl_areLists.f k a0_0 l0_1 l0_2 l1 l2).bind fun t1 => (if t1 = true then ((impl_Circuit_wires.f a0_0 l0_1 l0_2).bind fun t2 => ((impl_areWiresBelow.f [a3] t2).bind fun t3 => (if t3 = true then ((impl_copyCircuit.f a0_0 l0_1 l0_2).bind fun c => ((impl_putAdd.f k c.1 c.2.1 l1 l2 a3).bind fun p => ((impl_GoodCircuit.f k c.1 p.2 c.2.2).bind fun t4 => (if t4 = true then (some (c.1, p.2, c.2.2, p.1, true)) else (some (0, [], [], [], false)))))) else (some (0, [], [], [], false))))) else (some (0, [], [], [], false)))
theorem impl_AddGates.mono : ∀ a0 a1 a2 a3 a4 a5 k, LeO (impl_AddGates.f k a0 a1 a2 a3 a4 a5) (impl_AddGates.f (k + 1) a0 a1 a2 a3 a4 a5) := by
 intro a0 a1 a2 a3 a4 a5 k
 unfold impl_AddGates.f
 repeat' with_reducible first | apply impl_areLists.mono | apply impl_putAdd.mono | apply impl_GoodCircuit.mono | exact LeO.refl _ | exact LeO.none _ | apply LeO.ite | refine LeO.bind ?_ fun _ => ?_
theorem impl_AddGates.calls (k : Nat) (a0_0 : Int) (A0_1 : Option Addr) (c0_1 : Nat) (l0_1 : List (S66)) (A0_2 : Option Addr) (c0_2 : Nat) (l0_2 : List Int) (A1 : Option Addr) (c1 : Nat) (l1 : List Int) (A2 : Option Addr) (c2 : Nat) (l2 : List Int) (a3 : Int) (r1 : Int) (r2 : List (S66)) (r3 : List Int) (r4 : List Int) (r5 : Bool) (w : World) (hr0_1 : Kd.C k66 w A0_1 l0_1.length l0_1) (hc0_1 : l0_1.length ≤ c0_1) (hr0_2 : Kd.C (Kd.int .i64) w A0_2 l0_2.length l0_2) (hc0_2 : l0_2.length ≤ c0_2) (hr1 : Kd.C (Kd.int .i64) w A1 l1.length l1) (hc1 : l1.length ≤ c1) (hr2 : Kd.C (Kd.int .i64) w A2 l2.length l2) (hc2 : l2.length ≤ c2) (h : impl_AddGates.f k a0_0 l0_1 l0_2 l1 l2 a3 = some (r1, r2, r3, r4, r5)) :
  Calls Try.prog 7 #[.agg #[.int .i64 a0_0, .slice A0_1 l0_1.length c0_1, .slice A0_2 l0_2.length c0_2], .slice A1 l1.length c1, .slice A2 l2.length c2, .int .i64 a3] w fun e w' => ∃ v1_ v2_ v3_ : Value, e = .returned (.tuple #[.agg #[.int .i64 r1, v1_, v2_], v3_, .bool r5]) ∧ Kd.R k66 66 w' w.heap.size (fun _ => True) v1_ r2 ∧ Kd.R (Kd.int .i64) 3 w' w.heap.size (fun k_ => some k_ ≠ (v3_ : Value).ownBlock) v2_ r3 ∧ Kd.R (Kd.int .i64) 3 w' w.heap.size (fun k_ => some k_ ≠ (v2_ : Value).ownBlock) v3_ r4 ∧ Below w.heap.size w w' := by
 have hu27 := Try.underlying27
 have HR0_1 := am_ hr0_1
 have HC0_1 := am_ hc0_1
 have HR0_2 := am_ hr0_2
 have HC0_2 := am_ hc0_2
 have HR1 := am_ hr1
 have HC1 := am_ hc1
 have HR2 := am_ hr2
 have HC2 := am_ hc2
 clear hr0_1 hc0_1 hr0_2 hc0_2 hr1 hc1 hr2 hc2
 have HB := am_ (Below.refl w.heap.size w)
 have H := h
 clear h
 unfold impl_AddGates.f at H
 obtain ⟨t1, A1_, H⟩ := Sh.ba H
 by_cases b1_ : t1 = true
 ·subst b1_
  rw [if_pos rfl] at H
  obtain ⟨t2, A2_, H⟩ := Sh.ba H
  obtain ⟨t3, A3_, H⟩ := Sh.ba H
  by_cases b3_ : t3 = true
  ·subst b3_
   rw [if_pos rfl] at H
   obtain ⟨⟨q1, q2, q3⟩, A4_, H⟩ := Sh.ba H
   obtain ⟨⟨s1, s2⟩, A5_, H⟩ := Sh.ba H
   obtain ⟨t4, A6_, H⟩ := Sh.ba H
   by_cases b4_ : t4 = true
   ·subst b4_
    rw [if_pos rfl] at H
    simp only [Option.some.injEq, Prod.mk.injEq] at H
    obtain ⟨rfl, rfl, rfl, rfl, rfl⟩ := H
    go_enter Try.func7, Try.ntmps7
    go_wp2_with (first | ((with_reducible refine Sh.d 4 ?_); refine Sh.bz w (N := 4) (cs := #[.int .i64 a0_0, .slice A0_1 l0_1.length c0_1, .slice A0_2 l0_2.length c0_2]) (t := 27) (h := ?_); clear HB; intro gb4 w4 BK4 GE4 HB) | ((with_reducible refine Sh.d 8 ?_); refine Sh.bx (N := 8) (cs := #[.int .i64 0, .slice none 0 0, .slice none 0 0]) (t := 27) (h := ?_); intro gb8 hg w5 hbox hb; have BK8 := am_ hbox; have GE8 := Sh.ag w hg; replace HB := Sh.hb hb; replace BK4 := Sh.ab BK4 hb; clear hb hbox hg; obtain ⟨hcz1_0, hcz1_1, hcz1_2, hfz1_0, hfz1_1, hfz1_2⟩ := Sh.b3 BK4.out) | (go_at_call 29; (with_reducible refine (impl_areLists.calls k a0_0 _ _ l0_1 _ _ l0_2 _ _ l1 _ _ l2 true _ (Sh.cB HR0_1.out) HC0_1.out (Sh.cB HR0_2.out) HC0_2.out (Sh.cB HR1.out) HC1.out (Sh.cB HR2.out) HC2.out A1_.out).mono ?_); rintro e w6 ⟨rfl, hb⟩; replace BK4 := Sh.ab BK4 hb; replace BK8 := Sh.ab BK8 hb; replace HB := Sh.hb hb; clear hb; clear hcz1_0 hcz1_1 hcz1_2 hfz1_0 hfz1_1 hfz1_2; obtain ⟨hcz1_0, hcz1_1, hcz1_2, hfz1_0, hfz1_1, hfz1_2⟩ := Sh.b3 BK4.out) | ((with_reducible refine Sh.d 20 ?_); (try (refine gate_guard (by rfl) ?_; dsimp only)); refine Kd.R_lit (Kd.int .i64) _ 3 ?hg (N := 20) ?hd (xs := ([a3] : List Int)) (inner := [.int .i64 a3]) (ok := fun _ => True) (okp := fun _ => True) ?hr ?hp (fun _ hk => hk) trivial (Below.refl _ _) (Nat.le_refl _) (by simp) ?_; (case hd => rfl); (case hg => rfl); (case hr => first | (go_simp; done) | (go_simp; rfl)); (case hp => exact (Reps.one (show Kd.M (Kd.int .i64) _ _ _ a3 [.int .i64 a3] from rfl) (Reps.none _ _))); intro v20 w7 ho hb hg_ hnew_; clear hg_ hnew_; have HO20 := am_ ho; replace BK4 := Sh.ab BK4 hb; replace BK8 := Sh.ab BK8 hb; replace HB := Sh.hb hb; clear ho hb; obtain ⟨A20, c20, e20⟩ := Kd.R_slice HO20.out; subst e20; clear hcz1_0 hcz1_1 hcz1_2 hfz1_0 hfz1_1 hfz1_2; obtain ⟨hcz1_0, hcz1_1, hcz1_2, hfz1_0, hfz1_1, hfz1_2⟩ := Sh.b3 BK4.out) | (go_at_call 31; (with_reducible refine (impl_Circuit_wires.calls a0_0 _ _ l0_1 _ _ l0_2 t2 _ (Sh.cB HR0_1.out) HC0_1.out (Sh.cB HR0_2.out) HC0_2.out A2_.out).mono ?_); rintro e w8 ⟨rfl, hb⟩; replace HO20 := am_ (Kd.R_below (Sh.rl HO20.out) hb); replace BK4 := Sh.ab BK4 hb; replace BK8 := Sh.ab BK8 hb; replace HB := Sh.hb hb; clear hb) | (go_at_call 30; refine (impl_areWiresBelow.calls _ _ [a3] t2 true _ (Kd.R_reads' HO20.out).2.2 (Kd.R_reads' HO20.out).2.1 A3_.out).mono ?_; rintro e w9 ⟨rfl, hb⟩; replace BK4 := Sh.ab BK4 hb; replace BK8 := Sh.ab BK8 hb; replace HB := Sh.hb hb; clear hb HO20; clear hcz1_0 hcz1_1 hcz1_2 hfz1_0 hfz1_1 hfz1_2; obtain ⟨hcz1_0, hcz1_1, hcz1_2, hfz1_0, hfz1_1, hfz1_2⟩ := Sh.b3 BK4.out) | (go_at_call 32; (with_reducible refine (impl_copyCircuit.calls a0_0 _ _ l0_1 _ _ l0_2 q1 q2 q3 _ (Sh.cB HR0_1.out) HC0_1.out (Sh.cB HR0_2.out) HC0_2.out A4_.out).mono ?_); rintro e w10 ⟨v1, v2, rfl, ho1, ho2, hb⟩; have HO1 := am_ (Kd.R_lower ho1 (below_size Sh.bw)); have HO2 := am_ (Kd.R_lower ho2 (below_size Sh.bw)); replace BK8 := Sh.ab BK8 hb; replace HB := Sh.hb hb; clear hb ho1 ho2 BK4; obtain ⟨Ao1, co1, eo1⟩ := Kd.R_slice HO1.out; subst eo1; obtain ⟨Ao2, co2, eo2⟩ := Kd.R_slice HO2.out; subst eo2; clear hcz1_0 hcz1_1 hcz1_2 hfz1_0 hfz1_1 hfz1_2) | ((with_reducible refine Sh.d 11 ?_); refine Sh.bx (N := 11) (cs := #[.int .i64 0, .slice none 0 0, .slice none 0 0]) (t := 27) (h := ?_); intro gs_ hg w11 hbox hb; have BKs := am_ hbox; have GEs := Sh.ag w hg; replace HB := Sh.hb hb; have NB8_s := am_ (Sh.nl hg BK8.out); have NBs_8 := am_ (Sh.ng hg BK8.out); replace BK8 := Sh.ab BK8 hb; have n1_ := am_ (Kd.R_below (Sh.rl HO1.out) hb); have n2_ := am_ (Kd.R_below (Sh.rl HO2.out) hb); clear HO1 HO2; have HO1 := n1_; have HO2 := n2_; clear n1_ n2_ hb hbox hg; obtain ⟨hcz1_0, hcz1_1, hcz1_2, hfz1_0, hfz1_1, hfz1_2⟩ := Sh.b3 BKs.out) | (go_at_call 33; have hb3 := blk_put (cs := #[.int .i64 q1, .slice Ao1 q2.length co1, .slice none 0 0]) (blk_put (cs := #[.int .i64 q1, .slice none 0 0, .slice none 0 0]) (blk_put (cs := #[.int .i64 0, .slice none 0 0, .slice none 0 0]) BKs.out 0 (.int .i64 q1) rfl) 1 (.slice Ao1 q2.length co1) rfl) 2 (.slice Ao2 q3.length co2) rfl; have ho1 : Kd.R k66 66 (((w11.setCell ⟨gs_, 0, none⟩ (.int .i64 q1)).setCell ⟨gs_, 1, none⟩ (.slice Ao1 q2.length co1)).setCell ⟨gs_, 2, none⟩ (.slice Ao2 q3.length co2)) w.heap.size (fun _ => True) (.slice Ao1 q2.length co1) q2 := Kd.R_mono (Kd.R_far (p := ⟨gs_, 2, none⟩) (Kd.R_far (p := ⟨gs_, 1, none⟩) (Kd.R_far (p := ⟨gs_, 0, none⟩) (Kd.R_types HO1.out BKs.out (by decide)) (fun _ hk => hk.2) (.int .i64 q1)) (fun _ hk => hk.2) (.slice Ao1 q2.length co1)) (fun _ hk => hk.2) (.slice Ao2 q3.length co2)) (fun _ _ => trivial); have ho2 : Kd.R (Kd.int .i64) 3 (((w11.setCell ⟨gs_, 0, none⟩ (.int .i64 q1)).setCell ⟨gs_, 1, none⟩ (.slice Ao1 q2.length co1)).setCell ⟨gs_, 2, none⟩ (.slice Ao2 q3.length co2)) w.heap.size (fun _ => True) (.slice Ao2 q3.length co2) q3 := Kd.R_mono (Kd.R_far (p := ⟨gs_, 2, none⟩) (Kd.R_far (p := ⟨gs_, 1, none⟩) (Kd.R_far (p := ⟨gs_, 0, none⟩) (Kd.R_types HO2.out BKs.out (by decide)) (fun _ hk => hk.2) (.int .i64 q1)) (fun _ hk => hk.2) (.slice Ao1 q2.length co1)) (fun _ hk => hk.2) (.slice Ao2 q3.length co2)) (fun _ _ => trivial); have hB3 := below_set (j := 2) (v := .slice Ao2 q3.length co2) (below_set (j := 1) (v := .slice Ao1 q2.length co1) (below_set (j := 0) (v := .int .i64 q1) HB.out GEs.out) GEs.out) GEs.out; have hr8 := blk_far (blk_far (blk_far BK8.out NB8_s.out (p := ⟨gs_, 0, none⟩) (.int .i64 q1)) NB8_s.out (p := ⟨gs_, 1, none⟩) (.slice Ao1 q2.length co1)) NB8_s.out (p := ⟨gs_, 2, none⟩) (.slice Ao2 q3.length co2); have hI : IsG 27 (fun _ => True) w _ gs_ q1 q2 q3 := ⟨Ao1, co1, Ao2, co2, hb3, GEs.out, ho1, ho2⟩; (with_reducible refine (impl_putAdd.calls k gs_ (fun _ => True) q1 q2 q3 _ _ l1 _ _ l2 a3 s1 s2 w _ hI hB3 HR1.out HR2.out A5_.out).mono ?_); rintro e w12 ⟨v3, rfl, ho3, hi, hb, hk⟩; have n1_ := am_ (KeepG.blk hk hr8 NB8_s.out (by decide)); obtain ⟨Ap1, cp1, Ap2, cp2, bs, ge_, og, oo⟩ := hi; have HO3 := am_ (Kd.R_lower (Kd.R_mono (Kd.R_bound ho3) (ok' := fun k_ => some k_ ≠ (Value.slice Ap2 q3.length cp2).ownBlock) (fun k_ hk_ e_ => absurd (oo.1 k_ e_.symm).2 (Nat.not_lt.2 hk_.2.1))) hB3.size); clear HO1 HO2 HB BKs BK8 hb3 ho1 ho2 hB3 hr8 hI hk; have BK8 := n1_; have BKs := am_ bs; have HO1 := am_ og; have HO2 := am_ (Kd.R_mono oo (ok' := fun k_ => some k_ ≠ v3.ownBlock) (fun k_ hk_ => base_ne (Kd.R_base2 ho3) hk_.2)); have HB := am_ hb; clear n1_ bs ge_ og oo hb; clear hcz1_0 hcz1_1 hcz1_2 hfz1_0 hfz1_1 hfz1_2; obtain ⟨hcz1_0, hcz1_1, hcz1_2, hfz1_0, hfz1_1, hfz1_2⟩ := Sh.b3 BKs.out) | (go_at_call 11; (refine (impl_GoodCircuit.calls k q1 _ _ s2 _ _ q3 true _ (Kd.R_reads' HO1.out).2.2 (Kd.R_reads' HO1.out).2.1 (Kd.R_reads' HO2.out).2.2 (Kd.R_reads' HO2.out).2.1 A6_.out).mono ?_); rintro e w13 ⟨rfl, hb⟩; replace HO1 := am_ (Kd.R_below HO1.out hb); replace HO2 := am_ (Kd.R_below HO2.out hb); replace HO3 := am_ (Kd.R_below HO3.out hb); replace BK8 := Sh.ab BK8 hb; replace BKs := Sh.ab BKs hb; replace HB := Sh.hb hb; clear hb; clear hcz1_0 hcz1_1 hcz1_2 hfz1_0 hfz1_1 hfz1_2; obtain ⟨hcz1_0, hcz1_1, hcz1_2, hfz1_0, hfz1_1, hfz1_2⟩ := Sh.b3 BKs.out; obtain ⟨hdz1_0, hdz1_1, hdz1_2, hgz1_0, hgz1_1, hgz1_2⟩ := Sh.b3 BK8.out))
    refine bodyPost_ret (results_list (rs := [.cell 8 27, .tmp 9, .tmp 10]) rfl (by simp) (.cell gb8 27 #[.int .i64 q1, .slice Ap1 s2.length cp1, .slice Ap2 q3.length cp2] (0, 0) _ rfl (by refine Sh.pl ?_; refine blk_put (cs := #[.int .i64 q1, .slice Ap1 s2.length cp1, .slice none 0 0]) ?_ 2 _ rfl; refine Sh.pl ?_; refine blk_put (cs := #[.int .i64 q1, .slice none 0 0, .slice none 0 0]) ?_ 1 _ rfl; refine Sh.pl ?_; refine blk_put (cs := #[.int .i64 0, .slice none 0 0, .slice none 0 0]) ?_ 0 _ rfl; refine Sh.pl ?_; exact BK8.out) Try.underlying27 rfl (by kernel_rfl) (.tmp (.tmp .nil)))) rfl ?_
    exact ⟨_, _, _, rfl, (Kd.R_mono (Kd.R_far (p := ⟨gb8, 2, none⟩) (Kd.R_far (p := ⟨gb8, 1, none⟩) (Kd.R_far (p := ⟨gb8, 0, none⟩) (Kd.R_types HO1.out BK8.out (by decide)) (fun _ hk => hk.2) (.int .i64 q1)) (fun _ hk => hk.2) (.slice Ap1 s2.length cp1)) (fun _ hk => hk.2) (.slice Ap2 q3.length cp2)) (fun _ hk => trivial)), (Kd.R_mono (Kd.R_far (p := ⟨gb8, 2, none⟩) (Kd.R_far (p := ⟨gb8, 1, none⟩) (Kd.R_far (p := ⟨gb8, 0, none⟩) (Kd.R_types HO2.out BK8.out (by decide)) (fun _ hk => hk.2) (.int .i64 q1)) (fun _ hk => hk.2) (.slice Ap1 s2.length cp1)) (fun _ hk => hk.2) (.slice Ap2 q3.length cp2)) (fun _ hk => hk.1)), (Kd.R_mono (Kd.R_far (p := ⟨gb8, 2, none⟩) (Kd.R_far (p := ⟨gb8, 1, none⟩) (Kd.R_far (p := ⟨gb8, 0, none⟩) (Kd.R_types HO3.out BK8.out (by decide)) (fun _ hk => hk.2) (.int .i64 q1)) (fun _ hk => hk.2) (.slice Ap1 s2.length cp1)) (fun _ hk => hk.2) (.slice Ap2 q3.length cp2)) (fun _ hk => hk.1)), (below_set (below_set (below_set HB.out GE8.out) GE8.out) GE8.out)⟩
   ·replace b4_ := Bool.eq_false_iff.mpr b4_
    subst b4_
    rw [Sh.nf] at H
    simp only [Option.some.injEq, Prod.mk.injEq] at H
    obtain ⟨rfl, rfl, rfl, rfl, rfl⟩ := H
    go_enter Try.func7, Try.ntmps7
    go_wp2_with (first | ((with_reducible refine Sh.d 4 ?_); refine Sh.bz w (N := 4) (cs := #[.int .i64 a0_0, .slice A0_1 l0_1.length c0_1, .slice A0_2 l0_2.length c0_2]) (t := 27) (h := ?_); clear HB; intro gb4 w4 BK4 GE4 HB) | ((with_reducible refine Sh.d 8 ?_); refine Sh.bx (N := 8) (cs := #[.int .i64 0, .slice none 0 0, .slice none 0 0]) (t := 27) (h := ?_); intro gb8 hg w5 hbox hb; have BK8 := am_ hbox; have GE8 := Sh.ag w hg; replace HB := Sh.hb hb; replace BK4 := Sh.ab BK4 hb; clear hb hbox hg; obtain ⟨hcz1_0, hcz1_1, hcz1_2, hfz1_0, hfz1_1, hfz1_2⟩ := Sh.b3 BK4.out) | (go_at_call 29; (with_reducible refine (impl_areLists.calls k a0_0 _ _ l0_1 _ _ l0_2 _ _ l1 _ _ l2 true _ (Sh.cB HR0_1.out) HC0_1.out (Sh.cB HR0_2.out) HC0_2.out (Sh.cB HR1.out) HC1.out (Sh.cB HR2.out) HC2.out A1_.out).mono ?_); rintro e w6 ⟨rfl, hb⟩; replace BK4 := Sh.ab BK4 hb; replace BK8 := Sh.ab BK8 hb; replace HB := Sh.hb hb; clear hb; clear hcz1_0 hcz1_1 hcz1_2 hfz1_0 hfz1_1 hfz1_2; obtain ⟨hcz1_0, hcz1_1, hcz1_2, hfz1_0, hfz1_1, hfz1_2⟩ := Sh.b3 BK4.out) | ((with_reducible refine Sh.d 20 ?_); (try (refine gate_guard (by rfl) ?_; dsimp only)); refine Kd.R_lit (Kd.int .i64) _ 3 ?hg (N := 20) ?hd (xs := ([a3] : List Int)) (inner := [.int .i64 a3]) (ok := fun _ => True) (okp := fun _ => True) ?hr ?hp (fun _ hk => hk) trivial (Below.refl _ _) (Nat.le_refl _) (by simp) ?_; (case hd => rfl); (case hg => rfl); (case hr => first | (go_simp; done) | (go_simp; rfl)); (case hp => exact (Reps.one (show Kd.M (Kd.int .i64) _ _ _ a3 [.int .i64 a3] from rfl) (Reps.none _ _))); intro v20 w7 ho hb hg_ hnew_; clear hg_ hnew_; have HO20 := am_ ho; replace BK4 := Sh.ab BK4 hb; replace BK8 := Sh.ab BK8 hb; replace HB := Sh.hb hb; clear ho hb; obtain ⟨A20, c20, e20⟩ := Kd.R_slice HO20.out; subst e20; clear hcz1_0 hcz1_1 hcz1_2 hfz1_0 hfz1_1 hfz1_2; obtain ⟨hcz1_0, hcz1_1, hcz1_2, hfz1_0, hfz1_1, hfz1_2⟩ := Sh.b3 BK4.out) | (go_at_call 31; (with_reducible refine (impl_Circuit_wires.calls a0_0 _ _ l0_1 _ _ l0_2 t2 _ (Sh.cB HR0_1.out) HC0_1.out (Sh.cB HR0_2.out) HC0_2.out A2_.out).mono ?_); rintro e w8 ⟨rfl, hb⟩; replace HO20 := am_ (Kd.R_below (Sh.rl HO20.out) hb); replace BK4 := Sh.ab BK4 hb; replace BK8 := Sh.ab BK8 hb; replace HB := Sh.hb hb; clear hb) | (go_at_call 30; refine (impl_areWiresBelow.calls _ _ [a3] t2 true _ (Kd.R_reads' HO20.out).2.2 (Kd.R_reads' HO20.out).2.1 A3_.out).mono ?_; rintro e w9 ⟨rfl, hb⟩; replace BK4 := Sh.ab BK4 hb; replace BK8 := Sh.ab BK8 hb; replace HB := Sh.hb hb; clear hb HO20; clear hcz1_0 hcz1_1 hcz1_2 hfz1_0 hfz1_1 hfz1_2; obtain ⟨hcz1_0, hcz1_1, hcz1_2, hfz1_0, hfz1_1, hfz1_2⟩ := Sh.b3 BK4.out) | (go_at_call 32; (with_reducible refine (impl_copyCircuit.calls a0_0 _ _ l0_1 _ _ l0_2 q1 q2 q3 _ (Sh.cB HR0_1.out) HC0_1.out (Sh.cB HR0_2.out) HC0_2.out A4_.out).mono ?_); rintro e w10 ⟨v1, v2, rfl, ho1, ho2, hb⟩; have HO1 := am_ (Kd.R_lower ho1 (below_size Sh.bw)); have HO2 := am_ (Kd.R_lower ho2 (below_size Sh.bw)); replace BK8 := Sh.ab BK8 hb; replace HB := Sh.hb hb; clear hb ho1 ho2 BK4; obtain ⟨Ao1, co1, eo1⟩ := Kd.R_slice HO1.out; subst eo1; obtain ⟨Ao2, co2, eo2⟩ := Kd.R_slice HO2.out; subst eo2; clear hcz1_0 hcz1_1 hcz1_2 hfz1_0 hfz1_1 hfz1_2) | ((with_reducible refine Sh.d 11 ?_); refine Sh.bx (N := 11) (cs := #[.int .i64 0, .slice none 0 0, .slice none 0 0]) (t := 27) (h := ?_); intro gs_ hg w11 hbox hb; have BKs := am_ hbox; have GEs := Sh.ag w hg; replace HB := Sh.hb hb; have NB8_s := am_ (Sh.nl hg BK8.out); have NBs_8 := am_ (Sh.ng hg BK8.out); replace BK8 := Sh.ab BK8 hb; have n1_ := am_ (Kd.R_below (Sh.rl HO1.out) hb); have n2_ := am_ (Kd.R_below (Sh.rl HO2.out) hb); clear HO1 HO2; have HO1 := n1_; have HO2 := n2_; clear n1_ n2_ hb hbox hg; obtain ⟨hcz1_0, hcz1_1, hcz1_2, hfz1_0, hfz1_1, hfz1_2⟩ := Sh.b3 BKs.out) | (go_at_call 33; have hb3 := blk_put (cs := #[.int .i64 q1, .slice Ao1 q2.length co1, .slice none 0 0]) (blk_put (cs := #[.int .i64 q1, .slice none 0 0, .slice none 0 0]) (blk_put (cs := #[.int .i64 0, .slice none 0 0, .slice none 0 0]) BKs.out 0 (.int .i64 q1) rfl) 1 (.slice Ao1 q2.length co1) rfl) 2 (.slice Ao2 q3.length co2) rfl; have ho1 : Kd.R k66 66 (((w11.setCell ⟨gs_, 0, none⟩ (.int .i64 q1)).setCell ⟨gs_, 1, none⟩ (.slice Ao1 q2.length co1)).setCell ⟨gs_, 2, none⟩ (.slice Ao2 q3.length co2)) w.heap.size (fun _ => True) (.slice Ao1 q2.length co1) q2 := Kd.R_mono (Kd.R_far (p := ⟨gs_, 2, none⟩) (Kd.R_far (p := ⟨gs_, 1, none⟩) (Kd.R_far (p := ⟨gs_, 0, none⟩) (Kd.R_types HO1.out BKs.out (by decide)) (fun _ hk => hk.2) (.int .i64 q1)) (fun _ hk => hk.2) (.slice Ao1 q2.length co1)) (fun _ hk => hk.2) (.slice Ao2 q3.length co2)) (fun _ _ => trivial); have ho2 : Kd.R (Kd.int .i64) 3 (((w11.setCell ⟨gs_, 0, none⟩ (.int .i64 q1)).setCell ⟨gs_, 1, none⟩ (.slice Ao1 q2.length co1)).setCell ⟨gs_, 2, none⟩ (.slice Ao2 q3.length co2)) w.heap.size (fun _ => True) (.slice Ao2 q3.length co2) q3 := Kd.R_mono (Kd.R_far (p := ⟨gs_, 2, none⟩) (Kd.R_far (p := ⟨gs_, 1, none⟩) (Kd.R_far (p := ⟨gs_, 0, none⟩) (Kd.R_types HO2.out BKs.out (by decide)) (fun _ hk => hk.2) (.int .i64 q1)) (fun _ hk => hk.2) (.slice Ao1 q2.length co1)) (fun _ hk => hk.2) (.slice Ao2 q3.length co2)) (fun _ _ => trivial); have hB3 := below_set (j := 2) (v := .slice Ao2 q3.length co2) (below_set (j := 1) (v := .slice Ao1 q2.length co1) (below_set (j := 0) (v := .int .i64 q1) HB.out GEs.out) GEs.out) GEs.out; have hr8 := blk_far (blk_far (blk_far BK8.out NB8_s.out (p := ⟨gs_, 0, none⟩) (.int .i64 q1)) NB8_s.out (p := ⟨gs_, 1, none⟩) (.slice Ao1 q2.length co1)) NB8_s.out (p := ⟨gs_, 2, none⟩) (.slice Ao2 q3.length co2); have hI : IsG 27 (fun _ => True) w _ gs_ q1 q2 q3 := ⟨Ao1, co1, Ao2, co2, hb3, GEs.out, ho1, ho2⟩; (with_reducible refine (impl_putAdd.calls k gs_ (fun _ => True) q1 q2 q3 _ _ l1 _ _ l2 a3 s1 s2 w _ hI hB3 HR1.out HR2.out A5_.out).mono ?_); rintro e w12 ⟨v3, rfl, ho3, hi, hb, hk⟩; have n1_ := am_ (KeepG.blk hk hr8 NB8_s.out (by decide)); obtain ⟨Ap1, cp1, Ap2, cp2, bs, ge_, og, oo⟩ := hi; have HO3 := am_ (Kd.R_lower (Kd.R_mono (Kd.R_bound ho3) (ok' := fun k_ => some k_ ≠ (Value.slice Ap2 q3.length cp2).ownBlock) (fun k_ hk_ e_ => absurd (oo.1 k_ e_.symm).2 (Nat.not_lt.2 hk_.2.1))) hB3.size); clear HO1 HO2 HB BKs BK8 hb3 ho1 ho2 hB3 hr8 hI hk; have BK8 := n1_; have BKs := am_ bs; have HO1 := am_ og; have HO2 := am_ (Kd.R_mono oo (ok' := fun k_ => some k_ ≠ v3.ownBlock) (fun k_ hk_ => base_ne (Kd.R_base2 ho3) hk_.2)); have HB := am_ hb; clear n1_ bs ge_ og oo hb; clear hcz1_0 hcz1_1 hcz1_2 hfz1_0 hfz1_1 hfz1_2; obtain ⟨hcz1_0, hcz1_1, hcz1_2, hfz1_0, hfz1_1, hfz1_2⟩ := Sh.b3 BKs.out) | (go_at_call 11; (refine (impl_GoodCircuit.calls k q1 _ _ s2 _ _ q3 false _ (Kd.R_reads' HO1.out).2.2 (Kd.R_reads' HO1.out).2.1 (Kd.R_reads' HO2.out).2.2 (Kd.R_reads' HO2.out).2.1 A6_.out).mono ?_); rintro e w13 ⟨rfl, hb⟩; replace HO1 := am_ (Kd.R_below HO1.out hb); replace HO2 := am_ (Kd.R_below HO2.out hb); replace HO3 := am_ (Kd.R_below HO3.out hb); replace BK8 := Sh.ab BK8 hb; replace BKs := Sh.ab BKs hb; replace HB := Sh.hb hb; clear hb; clear hcz1_0 hcz1_1 hcz1_2 hfz1_0 hfz1_1 hfz1_2; obtain ⟨hcz1_0, hcz1_1, hcz1_2, hfz1_0, hfz1_1, hfz1_2⟩ := Sh.b3 BK8.out))
    have hw_ := BK8.out
    refine bodyPost_ret (results_list (rs := [.cell 8 27, .tmp 9, .tmp 10]) rfl (by simp) (.cell gb8 27 #[.int .i64 0, .slice none 0 0, .slice none 0 0] (0, 0) _ rfl (by refine Sh.pl ?_; refine blk_put (cs := #[.int .i64 0, .slice none 0 0, .slice none 0 0]) ?_ 2 _ rfl; refine Sh.pl ?_; refine blk_put (cs := #[.int .i64 0, .slice none 0 0, .slice none 0 0]) ?_ 1 _ rfl; refine Sh.pl ?_; refine blk_put (cs := #[.int .i64 0, .slice none 0 0, .slice none 0 0]) ?_ 0 _ rfl; refine Sh.pl ?_; exact BK8.out) Try.underlying27 rfl (by kernel_rfl) (.tmp (.tmp .nil)))) rfl ?_
    exact ⟨_, _, _, rfl, Kd.R_nil _ _ _ _ _, Kd.R_nil _ _ _ _ _, Kd.R_nil _ _ _ _ _, (below_set (below_set (below_set HB.out GE8.out) GE8.out) GE8.out)⟩
  ·replace b3_ := Bool.eq_false_iff.mpr b3_
   subst b3_
   rw [Sh.nf] at H
   simp only [Option.some.injEq, Prod.mk.injEq] at H
   obtain ⟨rfl, rfl, rfl, rfl, rfl⟩ := H
   go_enter Try.func7, Try.ntmps7
   go_wp2_with (first | ((with_reducible refine Sh.d 4 ?_); refine Sh.bz w (N := 4) (cs := #[.int .i64 a0_0, .slice A0_1 l0_1.length c0_1, .slice A0_2 l0_2.length c0_2]) (t := 27) (h := ?_); clear HB; intro gb4 w4 BK4 GE4 HB) | ((with_reducible refine Sh.d 8 ?_); refine Sh.bx (N := 8) (cs := #[.int .i64 0, .slice none 0 0, .slice none 0 0]) (t := 27) (h := ?_); intro gb8 hg w5 hbox hb; have BK8 := am_ hbox; have GE8 := Sh.ag w hg; replace HB := Sh.hb hb; replace BK4 := Sh.ab BK4 hb; clear hb hbox hg; obtain ⟨hcz1_0, hcz1_1, hcz1_2, hfz1_0, hfz1_1, hfz1_2⟩ := Sh.b3 BK4.out) | (go_at_call 29; (with_reducible refine (impl_areLists.calls k a0_0 _ _ l0_1 _ _ l0_2 _ _ l1 _ _ l2 true _ (Sh.cB HR0_1.out) HC0_1.out (Sh.cB HR0_2.out) HC0_2.out (Sh.cB HR1.out) HC1.out (Sh.cB HR2.out) HC2.out A1_.out).mono ?_); rintro e w6 ⟨rfl, hb⟩; replace BK4 := Sh.ab BK4 hb; replace BK8 := Sh.ab BK8 hb; replace HB := Sh.hb hb; clear hb; clear hcz1_0 hcz1_1 hcz1_2 hfz1_0 hfz1_1 hfz1_2; obtain ⟨hcz1_0, hcz1_1, hcz1_2, hfz1_0, hfz1_1, hfz1_2⟩ := Sh.b3 BK4.out) | ((with_reducible refine Sh.d 20 ?_); (try (refine gate_guard (by rfl) ?_; dsimp only)); refine Kd.R_lit (Kd.int .i64) _ 3 ?hg (N := 20) ?hd (xs := ([a3] : List Int)) (inner := [.int .i64 a3]) (ok := fun _ => True) (okp := fun _ => True) ?hr ?hp (fun _ hk => hk) trivial (Below.refl _ _) (Nat.le_refl _) (by simp) ?_; (case hd => rfl); (case hg => rfl); (case hr => first | (go_simp; done) | (go_simp; rfl)); (case hp => exact (Reps.one (show Kd.M (Kd.int .i64) _ _ _ a3 [.int .i64 a3] from rfl) (Reps.none _ _))); intro v20 w7 ho hb hg_ hnew_; clear hg_ hnew_; have HO20 := am_ ho; replace BK4 := Sh.ab BK4 hb; replace BK8 := Sh.ab BK8 hb; replace HB := Sh.hb hb; clear ho hb; obtain ⟨A20, c20, e20⟩ := Kd.R_slice HO20.out; subst e20; clear hcz1_0 hcz1_1 hcz1_2 hfz1_0 hfz1_1 hfz1_2; obtain ⟨hcz1_0, hcz1_1, hcz1_2, hfz1_0, hfz1_1, hfz1_2⟩ := Sh.b3 BK4.out) | (go_at_call 31; (with_reducible refine (impl_Circuit_wires.calls a0_0 _ _ l0_1 _ _ l0_2 t2 _ (Sh.cB HR0_1.out) HC0_1.out (Sh.cB HR0_2.out) HC0_2.out A2_.out).mono ?_); rintro e w8 ⟨rfl, hb⟩; replace HO20 := am_ (Kd.R_below (Sh.rl HO20.out) hb); replace BK4 := Sh.ab BK4 hb; replace BK8 := Sh.ab BK8 hb; replace HB := Sh.hb hb; clear hb) | (go_at_call 30; refine (impl_areWiresBelow.calls _ _ [a3] t2 false _ (Kd.R_reads' HO20.out).2.2 (Kd.R_reads' HO20.out).2.1 A3_.out).mono ?_; rintro e w9 ⟨rfl, hb⟩; replace BK4 := Sh.ab BK4 hb; replace BK8 := Sh.ab BK8 hb; replace HB := Sh.hb hb; clear hb HO20; clear hcz1_0 hcz1_1 hcz1_2 hfz1_0 hfz1_1 hfz1_2; obtain ⟨hcz1_0, hcz1_1, hcz1_2, hfz1_0, hfz1_1, hfz1_2⟩ := Sh.b3 BK8.out))
   have hw_ := BK8.out
   refine bodyPost_ret (results_list (rs := [.cell 8 27, .tmp 9, .tmp 10]) rfl (by simp) (.cell gb8 27 #[.int .i64 0, .slice none 0 0, .slice none 0 0] (0, 0) _ rfl (by refine Sh.pl ?_; refine blk_put (cs := #[.int .i64 0, .slice none 0 0, .slice none 0 0]) ?_ 2 _ rfl; refine Sh.pl ?_; refine blk_put (cs := #[.int .i64 0, .slice none 0 0, .slice none 0 0]) ?_ 1 _ rfl; refine Sh.pl ?_; refine blk_put (cs := #[.int .i64 0, .slice none 0 0, .slice none 0 0]) ?_ 0 _ rfl; refine Sh.pl ?_; exact BK8.out) Try.underlying27 rfl (by kernel_rfl) (.tmp (.tmp .nil)))) rfl ?_
   exact ⟨_, _, _, rfl, Kd.R_nil _ _ _ _ _, Kd.R_nil _ _ _ _ _, Kd.R_nil _ _ _ _ _, (below_set (below_set (below_set HB.out GE8.out) GE8.out) GE8.out)⟩
 ·replace b1_ := Bool.eq_false_iff.mpr b1_
  subst b1_
  rw [Sh.nf] at H
  simp only [Option.some.injEq, Prod.mk.injEq] at H
  obtain ⟨rfl, rfl, rfl, rfl, rfl⟩ := H
  go_enter Try.func7, Try.ntmps7
  go_wp2_with (first | ((with_reducible refine Sh.d 4 ?_); refine Sh.bz w (N := 4) (cs := #[.int .i64 a0_0, .slice A0_1 l0_1.length c0_1, .slice A0_2 l0_2.length c0_2]) (t := 27) (h := ?_); clear HB; intro gb4 w4 BK4 GE4 HB) | ((with_reducible refine Sh.d 8 ?_); refine Sh.bx (N := 8) (cs := #[.int .i64 0, .slice none 0 0, .slice none 0 0]) (t := 27) (h := ?_); intro gb8 hg w5 hbox hb; have BK8 := am_ hbox; have GE8 := Sh.ag w hg; replace HB := Sh.hb hb; replace BK4 := Sh.ab BK4 hb; clear hb hbox hg; obtain ⟨hcz1_0, hcz1_1, hcz1_2, hfz1_0, hfz1_1, hfz1_2⟩ := Sh.b3 BK4.out) | (go_at_call 29; (with_reducible refine (impl_areLists.calls k a0_0 _ _ l0_1 _ _ l0_2 _ _ l1 _ _ l2 false _ (Sh.cB HR0_1.out) HC0_1.out (Sh.cB HR0_2.out) HC0_2.out (Sh.cB HR1.out) HC1.out (Sh.cB HR2.out) HC2.out A1_.out).mono ?_); rintro e w6 ⟨rfl, hb⟩; replace BK4 := Sh.ab BK4 hb; replace BK8 := Sh.ab BK8 hb; replace HB := Sh.hb hb; clear hb; clear hcz1_0 hcz1_1 hcz1_2 hfz1_0 hfz1_1 hfz1_2; obtain ⟨hcz1_0, hcz1_1, hcz1_2, hfz1_0, hfz1_1, hfz1_2⟩ := Sh.b3 BK8.out))
  have hw_ := BK8.out
  refine bodyPost_ret (results_list (rs := [.cell 8 27, .tmp 9, .tmp 10]) rfl (by simp) (.cell gb8 27 #[.int .i64 0, .slice none 0 0, .slice none 0 0] (0, 0) _ rfl (by refine Sh.pl ?_; refine blk_put (cs := #[.int .i64 0, .slice none 0 0, .slice none 0 0]) ?_ 2 _ rfl; refine Sh.pl ?_; refine blk_put (cs := #[.int .i64 0, .slice none 0 0, .slice none 0 0]) ?_ 1 _ rfl; refine Sh.pl ?_; refine blk_put (cs := #[.int .i64 0, .slice none 0 0, .slice none 0 0]) ?_ 0 _ rfl; refine Sh.pl ?_; exact BK8.out) Try.underlying27 rfl (by kernel_rfl) (.tmp (.tmp .nil)))) rfl ?_
  exact ⟨_, _, _, rfl, Kd.R_nil _ _ _ _ _, Kd.R_nil _ _ _ _ _, Kd.R_nil _ _ _ _ _, (below_set (below_set (below_set HB.out GE8.out) GE8.out) GE8.out)⟩
def spec_l1In.f (a0 : Int) (a1 : Int) (a2 : Int) : Option (Bool) := if a0 ≥ a1 then (some (decide (a0 ≤ a2))) else (some false)
theorem spec_l1In.calls (a0 : Int) (a1 : Int) (a2 : Int) (r : Bool) (w : World) (h : spec_l1In.f a0 a1 a2 = some r) :
  Calls Try.prog 35 #[.int .i64 a0, .int .i64 a1, .int .i64 a2] w fun e w' => e = .returned (.bool r) ∧ Drawn0 w w' := by
 have H := h
 clear h
 unfold spec_l1In.f at H
 by_cases c4 : a0 ≥ a1
 ·rw [if_pos c4] at H
  have c4b0 : decide (a1 ≤ a0) = true := decide_eq_true c4
  clear c4
  obtain rfl := Option.some.inj H
  go_enter Try.func35, Try.ntmps35
  go_wp2
  go_ret
  exact ⟨Sh.es, Sh.dr⟩
 ·rw [if_neg c4] at H
  have c4b0 : decide (a1 ≤ a0) = false := decide_eq_false c4
  clear c4
  obtain rfl := Option.some.inj H
  go_enter Try.func35, Try.ntmps35
  go_wp2
  go_ret
  exact ⟨Sh.es, Sh.dr⟩
def spec_l4Gate.j0 : Nat → Int → Bool → Int → Int → Int → Option (Bool)
 | 0, _, _, _, _, _ => none
 | k + 1, x1, x29, x260000, x260001, x260002 => if x29 = true then ((spec_l1In.f x260001 0 (wrap64 (x1 - 1))).bind fun t262 => (if t262 = true then ((spec_l1In.f x260002 0 (wrap64 (x1 - 1))).bind fun t263 => (some t263)) else (some false))) else (some false)
def spec_l4Gate.f (k : Nat) (a0_0 : Int) (a0_1 : Int) (a0_2 : Int) (a1 : Int) : Option (Bool) := if a0_0 = 1 then ((spec_l1In.f a0_1 0 1).bind fun t260 => (if t260 = true then (some (a0_2 == 0)) else (some false))) else (if a0_0 = 2 then ((spec_l1In.f a0_1 0 (wrap64 (a1 - 1))).bind fun t261 => (if t261 = true then (some (a0_2 == 0)) else (some false))) else (if a0_0 = 3 then (spec_l4Gate.j0 k a1 (a0_0 == 3) a0_0 a0_1 a0_2) else (if a0_0 = 4 then (spec_l4Gate.j0 k a1 (a0_0 == 4) a0_0 a0_1 a0_2) else (spec_l4Gate.j0 k a1 (a0_0 == 5) a0_0 a0_1 a0_2))))
theorem spec_l4Gate.mono_l : ∀ k, (∀ y0 y1 y2 y3 y4, LeO (spec_l4Gate.j0 k y0 y1 y2 y3 y4) (spec_l4Gate.j0 (k + 1) y0 y1 y2 y3 y4))
 | 0 => fun _ _ _ _ _ r h => by simp [spec_l4Gate.j0] at h
 | k + 1 => by
  have ih0 := spec_l4Gate.mono_l k
  ·intro y0 y1 y2 y3 y4
   unfold spec_l4Gate.j0
   repeat' with_reducible first | apply ih0 | exact LeO.refl _ | exact LeO.none _ | apply LeO.ite | refine LeO.bind ?_ fun _ => ?_
theorem spec_l4Gate.mono : ∀ a0 a1 a2 a3 k, LeO (spec_l4Gate.f k a0 a1 a2 a3) (spec_l4Gate.f (k + 1) a0 a1 a2 a3) := by
 intro a0 a1 a2 a3 k
 have ih0 := spec_l4Gate.mono_l k
 unfold spec_l4Gate.f
 repeat' with_reducible first | apply ih0 | exact LeO.refl _ | exact LeO.none _ | apply LeO.ite | refine LeO.bind ?_ fun _ => ?_
theorem spec_l4Gate.calls (k : Nat) (a0_0 : Int) (a0_1 : Int) (a0_2 : Int) (a1 : Int) (r : Bool) (w : World) (h : spec_l4Gate.f k a0_0 a0_1 a0_2 a1 = some r) :
  Calls Try.prog 39 #[.agg #[.int .i64 a0_0, .int .i64 a0_1, .int .i64 a0_2], .int .i64 a1] w fun e w' => e = .returned (.bool r) ∧ Below w.heap.size w w' := by
 have hu66 := Try.underlying66
 have HB := am_ (Below.refl w.heap.size w)
 have H := h
 clear h
 unfold spec_l4Gate.f at H
 by_cases c3 : a0_0 = 1
 ·rw [if_pos c3] at H
  have c3b0 : (a0_0 == 1) = true := beq_iff_eq.mpr c3
  have c3b1 : (a0_0 != 1) = false := bne_eq_false_iff_eq.mpr c3
  clear c3
  obtain ⟨t260, A4, H⟩ := Sh.ba H
  by_cases c5 : t260 = true
  ·subst c5
   rw [if_pos rfl] at H
   obtain rfl := Option.some.inj H
   go_enter Try.func39, Try.ntmps39
   go_wp2_with (first | ((with_reducible refine Sh.d 2 ?_); refine Sh.bz w (N := 2) (cs := #[.int .i64 a0_0, .int .i64 a0_1, .int .i64 a0_2]) (t := 66) (h := ?_); clear HB; intro gb259 w6 BK259 GE259 HB; obtain ⟨hcz7_0, hcz7_1, hcz7_2, hfz7_0, hfz7_1, hfz7_2⟩ := Sh.b3 BK259.out) | ((with_reducible refine Sh.k 35 ?_); refine Sh.gD (some 11) Try.func35 #[.int .i64 a0_1, .int .i64 0, .int .i64 1] (spec_l1In.calls a0_1 0 1 true _ A4.out) fun nd => ?_))
   go_ret
   exact ⟨Sh.eR, Sh.bw⟩
  ·replace c5 := Bool.eq_false_iff.mpr c5
   subst c5
   rw [Sh.nf] at H
   obtain rfl := Option.some.inj H
   go_enter Try.func39, Try.ntmps39
   go_wp2_with (first | ((with_reducible refine Sh.d 2 ?_); refine Sh.bz w (N := 2) (cs := #[.int .i64 a0_0, .int .i64 a0_1, .int .i64 a0_2]) (t := 66) (h := ?_); clear HB; intro gb259 w8 BK259 GE259 HB; obtain ⟨hcz9_0, hcz9_1, hcz9_2, hfz9_0, hfz9_1, hfz9_2⟩ := Sh.b3 BK259.out) | ((with_reducible refine Sh.k 35 ?_); refine Sh.gD (some 11) Try.func35 #[.int .i64 a0_1, .int .i64 0, .int .i64 1] (spec_l1In.calls a0_1 0 1 false _ A4.out) fun nd => ?_))
   go_ret
   exact ⟨Sh.eR, Sh.bw⟩
 ·rw [if_neg c3] at H
  have c3b0 : (a0_0 == 1) = false := beq_eq_false_iff_ne.mpr c3
  have c3b1 : (a0_0 != 1) = true := bne_iff_ne.mpr c3
  by_cases c10 : a0_0 = 2
  ·rw [if_pos c10] at H
   have c10b0 : (a0_0 == 2) = true := beq_iff_eq.mpr c10
   have c10b1 : (a0_0 != 2) = false := bne_eq_false_iff_eq.mpr c10
   clear c10
   obtain ⟨t261, A11, H⟩ := Sh.ba H
   by_cases c12 : t261 = true
   ·subst c12
    rw [if_pos rfl] at H
    obtain rfl := Option.some.inj H
    go_enter Try.func39, Try.ntmps39
    go_wp2_with (first | ((with_reducible refine Sh.d 2 ?_); refine Sh.bz w (N := 2) (cs := #[.int .i64 a0_0, .int .i64 a0_1, .int .i64 a0_2]) (t := 66) (h := ?_); clear HB; intro gb259 w13 BK259 GE259 HB; obtain ⟨hcz14_0, hcz14_1, hcz14_2, hfz14_0, hfz14_1, hfz14_2⟩ := Sh.b3 BK259.out) | ((with_reducible refine Sh.k 35 ?_); refine Sh.gD (some 23) Try.func35 #[.int .i64 a0_1, .int .i64 0, .int .i64 (wrap64 (a1 - 1))] (spec_l1In.calls a0_1 0 (wrap64 (a1 - 1)) true _ A11.out) fun nd => ?_))
    go_ret
    exact ⟨Sh.eR, Sh.bw⟩
   ·replace c12 := Bool.eq_false_iff.mpr c12
    subst c12
    rw [Sh.nf] at H
    obtain rfl := Option.some.inj H
    go_enter Try.func39, Try.ntmps39
    go_wp2_with (first | ((with_reducible refine Sh.d 2 ?_); refine Sh.bz w (N := 2) (cs := #[.int .i64 a0_0, .int .i64 a0_1, .int .i64 a0_2]) (t := 66) (h := ?_); clear HB; intro gb259 w15 BK259 GE259 HB; obtain ⟨hcz16_0, hcz16_1, hcz16_2, hfz16_0, hfz16_1, hfz16_2⟩ := Sh.b3 BK259.out) | ((with_reducible refine Sh.k 35 ?_); refine Sh.gD (some 23) Try.func35 #[.int .i64 a0_1, .int .i64 0, .int .i64 (wrap64 (a1 - 1))] (spec_l1In.calls a0_1 0 (wrap64 (a1 - 1)) false _ A11.out) fun nd => ?_))
    go_ret
    exact ⟨Sh.eR, Sh.bw⟩
  ·rw [if_neg c10] at H
   have c10b0 : (a0_0 == 2) = false := beq_eq_false_iff_ne.mpr c10
   have c10b1 : (a0_0 != 2) = true := bne_iff_ne.mpr c10
   have HC17 := am_ H
   clear H
   go_enter Try.func39, Try.ntmps39
   go_upto_if 29 with (first | ((with_reducible refine Sh.d 2 ?_); refine Sh.bz w (N := 2) (cs := #[.int .i64 a0_0, .int .i64 a0_1, .int .i64 a0_2]) (t := 66) (h := ?_); clear HB; intro gb259 w18 BK259 GE259 HB; obtain ⟨hcz19_0, hcz19_1, hcz19_2, hfz19_0, hfz19_1, hfz19_2⟩ := Sh.b3 BK259.out))
   (try simp only [Act.put, List.setIfInBounds_toArray, List.set_cons_zero, List.set_cons_succ])
   go_cut [29] (fun v29 wc => ∃ (kq : Nat) (x29_16 : Bool), v29 = .bool x29_16 ∧ Aside0 (spec_l4Gate.j0 kq a1 x29_16 a0_0 a0_1 a0_2 = some r) ∧ Aside0 (kq ≤ k) ∧ Aside0 (wc.heap[gb259]? = some (.cells #[.int .i64 a0_0, .int .i64 a0_1, .int .i64 a0_2] 66 (0, 0))) ∧ Aside0 (Below w.heap.size w wc))
   case first =>
    have H := HC17.out
    clear HC17
    by_cases c20 : a0_0 = 3
    ·rw [if_pos c20] at H
     have c20b0 : (a0_0 == 3) = true := beq_iff_eq.mpr c20
     have c20b1 : (a0_0 != 3) = false := bne_eq_false_iff_eq.mpr c20
     clear c20
     first | rw [c20b0] | (simp only [i64_w, i32_w]; rw [c20b0]) | skip
     have H' := am_ H
     clear H
     go_wp2
     go_meet
     case rel => exact ⟨_, ((a0_0 == 3)), (Sh.es), H', ⟨Sh.om⟩, ⟨by refine Sh.pl ?_; exact BK259.out⟩, ⟨Sh.bw⟩⟩
    ·rw [if_neg c20] at H
     have c20b0 : (a0_0 == 3) = false := beq_eq_false_iff_ne.mpr c20
     have c20b1 : (a0_0 != 3) = true := bne_iff_ne.mpr c20
     first | rw [c20b0] | (simp only [i64_w, i32_w]; rw [c20b0]) | skip
     by_cases c21 : a0_0 = 4
     ·rw [if_pos c21] at H
      have c21b0 : (a0_0 == 4) = true := beq_iff_eq.mpr c21
      have c21b1 : (a0_0 != 4) = false := bne_eq_false_iff_eq.mpr c21
      clear c21
      have H' := am_ H
      clear H
      go_wp2
      go_meet
      case rel => exact ⟨_, ((a0_0 == 4)), (Sh.es), H', ⟨Sh.om⟩, ⟨by refine Sh.pl ?_; exact BK259.out⟩, ⟨Sh.bw⟩⟩
     ·rw [if_neg c21] at H
      have c21b0 : (a0_0 == 4) = false := beq_eq_false_iff_ne.mpr c21
      have c21b1 : (a0_0 != 4) = true := bne_iff_ne.mpr c21
      have H' := am_ H
      clear H
      go_wp2
      go_meet
      case rel => exact ⟨_, ((a0_0 == 5)), (Sh.es), H', ⟨Sh.om⟩, ⟨by refine Sh.pl ?_; exact BK259.out⟩, ⟨Sh.bw⟩⟩
   case rest =>
    clear HC17
    try clear hcz14_0
    try clear hcz14_1
    try clear hcz14_2
    try clear hcz16_0
    try clear hcz16_1
    try clear hcz16_2
    try clear hcz19_0
    try clear hcz19_1
    try clear hcz19_2
    try clear hcz7_0
    try clear hcz7_1
    try clear hcz7_2
    try clear hcz9_0
    try clear hcz9_1
    try clear hcz9_2
    try clear hfz14_0
    try clear hfz14_1
    try clear hfz14_2
    try clear hfz16_0
    try clear hfz16_1
    try clear hfz16_2
    try clear hfz19_0
    try clear hfz19_1
    try clear hfz19_2
    try clear hfz7_0
    try clear hfz7_1
    try clear hfz7_2
    try clear hfz9_0
    try clear hfz9_1
    try clear hfz9_2
    obtain ⟨kq, x29_16, rfl, HA, HJ16, BK259, HB⟩ := hcut
    cases kq with
    | zero => exact absurd HA.out (by simp [spec_l4Gate.j0])
    | succ kj16 =>
     have H := HA.out
     clear HA
     simp only [spec_l4Gate.j0] at H
     by_cases c22 : x29_16 = true
     ·subst c22
      rw [if_pos rfl] at H
      obtain ⟨t262, A23, H⟩ := Sh.ba H
      by_cases c24 : t262 = true
      ·subst c24
       rw [if_pos rfl] at H
       obtain ⟨t263, A25, H⟩ := Sh.ba H
       obtain rfl := Option.some.inj H
       have hcz26_0 := Sh.bc BK259.out 0
       have hcz26_1 := Sh.bc BK259.out 1
       have hcz26_2 := Sh.bc BK259.out 2
       have hfz26_0 := blk_frozen BK259.out 0
       have hfz26_1 := blk_frozen BK259.out 1
       have hfz26_2 := blk_frozen BK259.out 2
       go_wp2_with (first | ((with_reducible refine Sh.k 35 ?_); refine Sh.gD (some 37) Try.func35 #[.int .i64 a0_1, .int .i64 0, .int .i64 (wrap64 (a1 - 1))] (spec_l1In.calls a0_1 0 (wrap64 (a1 - 1)) true _ A23.out) fun nd => ?_) | (go_at_call 35; (with_reducible refine (spec_l1In.calls a0_2 0 (wrap64 (a1 - 1)) t263 _ A25.out).mono ?_); rintro e w' ⟨rfl, ⟨nd, rfl⟩⟩))
       go_ret
       exact ⟨Sh.eR, Sh.bw⟩
      ·replace c24 := Bool.eq_false_iff.mpr c24
       subst c24
       rw [Sh.nf] at H
       obtain rfl := Option.some.inj H
       have hcz27_0 := Sh.bc BK259.out 0
       have hcz27_1 := Sh.bc BK259.out 1
       have hcz27_2 := Sh.bc BK259.out 2
       have hfz27_0 := blk_frozen BK259.out 0
       have hfz27_1 := blk_frozen BK259.out 1
       have hfz27_2 := blk_frozen BK259.out 2
       go_wp2_with (first | ((with_reducible refine Sh.k 35 ?_); refine Sh.gD (some 37) Try.func35 #[.int .i64 a0_1, .int .i64 0, .int .i64 (wrap64 (a1 - 1))] (spec_l1In.calls a0_1 0 (wrap64 (a1 - 1)) false _ A23.out) fun nd => ?_))
       go_ret
       exact ⟨Sh.eR, Sh.bw⟩
     ·replace c22 := Bool.eq_false_iff.mpr c22
      subst c22
      rw [Sh.nf] at H
      obtain rfl := Option.some.inj H
      go_wp2
      go_ret
      exact ⟨Sh.eR, Sh.bw⟩
def spec_l1All.l0 : Nat → Int → Int → List Int → Int → Int → Option (Bool)
 | 0, _, _, _, _, _ => none
 | k + 1, x1, x2, x9, x10, x11 => if x11 < x10 then (if 0 ≤ x11 then (if x11 < (x9.length : Int) then ((spec_l1In.f (rd x9 x11) x1 x2).bind fun t265 => (if t265 = true then (spec_l1All.l0 k x1 x2 x9 x10 (wrap64 (x11 + 1))) else (some false))) else (none)) else (none)) else (some true)
def spec_l1All.f (k : Nat) (l0 : List Int) (a1 : Int) (a2 : Int) : Option (Bool) := spec_l1All.l0 k a1 a2 l0 (l0.length : Int) 0
theorem spec_l1All.mono_l : ∀ k, (∀ y0 y1 y2 y3 y4, LeO (spec_l1All.l0 k y0 y1 y2 y3 y4) (spec_l1All.l0 (k + 1) y0 y1 y2 y3 y4))
 | 0 => fun _ _ _ _ _ r h => by simp [spec_l1All.l0] at h
 | k + 1 => by
  have ih0 := spec_l1All.mono_l k
  ·intro y0 y1 y2 y3 y4
   unfold spec_l1All.l0
   repeat' with_reducible first | apply ih0 | exact LeO.refl _ | exact LeO.none _ | apply LeO.ite | refine LeO.bind ?_ fun _ => ?_
theorem spec_l1All.mono : ∀ a0 a1 a2 k, LeO (spec_l1All.f k a0 a1 a2) (spec_l1All.f (k + 1) a0 a1 a2) := by
 intro a0 a1 a2 k
 have ih0 := spec_l1All.mono_l k
 unfold spec_l1All.f
 repeat' with_reducible first | apply ih0 | exact LeO.refl _ | exact LeO.none _ | apply LeO.ite | refine LeO.bind ?_ fun _ => ?_
theorem spec_l1All.calls (k : Nat) (A0 : Option Addr) (c0 : Nat) (l0 : List Int) (a1 : Int) (a2 : Int) (r : Bool) (w : World) (hr0 : Kd.C (Kd.int .i64) w A0 l0.length l0) (hc0 : l0.length ≤ c0) (h : spec_l1All.f k l0 a1 a2 = some r) :
  Calls Try.prog 40 #[.slice A0 l0.length c0, .int .i64 a1, .int .i64 a2] w fun e w' => e = .returned (.bool r) ∧ Drawn0 w w' := by
 have HR0 := am_ hr0
 have HC0 := am_ hc0
 clear hr0 hc0
 have H := h
 clear h
 unfold spec_l1All.f at H
 have H' := am_ H
 clear H
 go_enter Try.func40, Try.ntmps40
 go_wp2
 go_loopg [11] k (fun kq v11 w' => ∃ (x11_1 : Int), v11 = .int .i64 x11_1 ∧ Aside0 (spec_l1All.l0 kq a1 a2 l0 (l0.length : Int) x11_1 = some r) ∧ Aside0 (kq ≤ k) ∧ Drawn0 w w')
 case atStart => exact ⟨(0), (Sh.es), H', ⟨Nat.le_refl _⟩, Sh.dr⟩
 case round =>
  clear H'
  obtain ⟨x11_1, rfl, HA, HK1, ⟨m1, rfl⟩⟩ := hrel
  cases gk with
  | zero => exact absurd HA.out (by simp [spec_l1All.l0])
  | succ k1 =>
   have H := HA.out
   clear HA
   simp only [spec_l1All.l0] at H
   by_cases c4 : x11_1 < (l0.length : Int)
   ·rw [if_pos c4] at H
    have c4b0 := decide_eq_true c4
    clear c4
    by_cases c5 : 0 ≤ x11_1
    ·rw [if_pos c5] at H
     have c5b0 := decide_eq_true c5
     clear c5
     by_cases c6 : x11_1 < (l0.length : Int)
     ·rw [if_pos c6] at H
      have c6b0 := decide_eq_true c6
      clear c6
      obtain ⟨t265, A7, H⟩ := Sh.ba H
      by_cases c8 : t265 = true
      ·subst c8
       rw [if_pos rfl] at H
       have H' := am_ H
       clear H
       have p264 : 0 ≤ (x11_1 : Int) := Sh.od
       have q264 : x11_1 < (l0.length : Int) := Sh.od
       obtain ⟨ad264, e264, hx264_0⟩ := Kd.at_int HR0.out x11_1 p264 q264
       cases e264
       replace p264 := eq_true p264
       replace q264 := eq_true q264
       go_wp2_with (first | ((with_reducible refine Sh.k 35 ?_); refine Sh.gD (some 18) Try.func35 #[.int .i64 (rd l0 x11_1), .int .i64 a1, .int .i64 a2] (spec_l1In.calls (rd l0 x11_1) a1 a2 true _ A7.out) fun nd => ?_))
       go_roundg k1
       case measure => have := HK1.out; omega
       case rel => exact ⟨(wrap64 (x11_1 + 1)), (Sh.es), H', ⟨by have := HK1.out; omega⟩, Sh.dr⟩
      ·replace c8 := Bool.eq_false_iff.mpr c8
       subst c8
       rw [Sh.nf] at H
       obtain rfl := Option.some.inj H
       have p264 : 0 ≤ (x11_1 : Int) := Sh.od
       have q264 : x11_1 < (l0.length : Int) := Sh.od
       obtain ⟨ad264, e264, hx264_0⟩ := Kd.at_int HR0.out x11_1 p264 q264
       cases e264
       replace p264 := eq_true p264
       replace q264 := eq_true q264
       go_wp2_with (first | ((with_reducible refine Sh.k 35 ?_); refine Sh.gD (some 18) Try.func35 #[.int .i64 (rd l0 x11_1), .int .i64 a1, .int .i64 a2] (spec_l1In.calls (rd l0 x11_1) a1 a2 false _ A7.out) fun nd => ?_))
       go_ret
       exact ⟨Sh.es, Sh.dr⟩
     ·rw [if_neg c6] at H
      exact absurd H (by simp)
    ·rw [if_neg c5] at H
     exact absurd H (by simp)
   ·rw [if_neg c4] at H
    have c4b0 := decide_eq_false c4
    clear c4
    obtain rfl := Option.some.inj H
    go_wp2
    go_ret
    exact ⟨Sh.es, Sh.dr⟩
mutual
def spec_GoodCircuit.j0 : Nat → Bool → Int → List (S66) → List Int → Option (Bool)
 | 0, _, _, _, _ => none
 | k + 1, x20, x267000, x267001, x267002 => if x20 = true then (some false) else (spec_GoodCircuit.l0 k x267001 (x267001.length : Int) 0 x267000 x267001 x267002)
def spec_GoodCircuit.l0 : Nat → List (S66) → Int → Int → Int → List (S66) → List Int → Option (Bool)
 | 0, _, _, _, _, _, _ => none
 | k + 1, x22, x23, x24, x267000, x267001, x267002 => if x24 < x23 then (if 0 ≤ x24 then (if x24 < (x22.length : Int) then ((spec_l4Gate.f k ((rd_T66 x22 x24).f0) ((rd_T66 x22 x24).f1) ((rd_T66 x22 x24).f2) (wrap64 (x267000 + x24))).bind fun t270 => (if t270 = true then (spec_GoodCircuit.l0 k x22 x23 (wrap64 (x24 + 1)) x267000 x267001 x267002) else (some false))) else (none)) else (none)) else ((spec_l4Wires.f x267000 x267001 x267002).bind fun t271 => ((spec_l1All.f k x267002 0 (wrap64 (t271 - 1))).bind fun t272 => (some t272)))
end
def spec_GoodCircuit.f (k : Nat) (a0_0 : Int) (l0_1 : List (S66)) (l0_2 : List Int) : Option (Bool) := (spec_l1In.f a0_0 0 16).bind fun t267 => (if t267 = true then (if (l0_1.length : Int) > 300 then (spec_GoodCircuit.j0 k true a0_0 l0_1 l0_2) else (spec_GoodCircuit.j0 k (decide ((l0_2.length : Int) > 16)) a0_0 l0_1 l0_2)) else (spec_GoodCircuit.j0 k true a0_0 l0_1 l0_2))
theorem spec_GoodCircuit.mono_l : ∀ k, (∀ y0 y1 y2 y3, LeO (spec_GoodCircuit.j0 k y0 y1 y2 y3) (spec_GoodCircuit.j0 (k + 1) y0 y1 y2 y3)) ∧ (∀ y0 y1 y2 y3 y4 y5, LeO (spec_GoodCircuit.l0 k y0 y1 y2 y3 y4 y5) (spec_GoodCircuit.l0 (k + 1) y0 y1 y2 y3 y4 y5))
 | 0 => ⟨fun _ _ _ _ r h => by simp [spec_GoodCircuit.j0] at h, fun _ _ _ _ _ _ r h => by simp [spec_GoodCircuit.l0] at h⟩
 | k + 1 => by
  obtain ⟨ih0, ih1⟩ := spec_GoodCircuit.mono_l k
  and_intros <;> intros
  all_goals (first | unfold spec_GoodCircuit.j0 | unfold spec_GoodCircuit.l0)
  all_goals repeat' with_reducible first | apply ih0 | apply ih1 | apply spec_l1All.mono | apply spec_l4Gate.mono | exact LeO.refl _ | exact LeO.none _ | apply LeO.ite | refine LeO.bind ?_ fun _ => ?_
theorem spec_GoodCircuit.mono : ∀ a0 a1 a2 k, LeO (spec_GoodCircuit.f k a0 a1 a2) (spec_GoodCircuit.f (k + 1) a0 a1 a2) := by
 intro a0 a1 a2 k
 obtain ⟨ih0, ih1⟩ := spec_GoodCircuit.mono_l k
 unfold spec_GoodCircuit.f
 repeat' with_reducible first | apply ih0 | apply ih1 | apply spec_l1All.mono | apply spec_l4Gate.mono | exact LeO.refl _ | exact LeO.none _ | apply LeO.ite | refine LeO.bind ?_ fun _ => ?_
theorem spec_GoodCircuit.calls (k : Nat) (a0_0 : Int) (A0_1 : Option Addr) (c0_1 : Nat) (l0_1 : List (S66)) (A0_2 : Option Addr) (c0_2 : Nat) (l0_2 : List Int) (r : Bool) (w : World) (hr0_1 : Kd.C k66 w A0_1 l0_1.length l0_1) (hc0_1 : l0_1.length ≤ c0_1) (hr0_2 : Kd.C (Kd.int .i64) w A0_2 l0_2.length l0_2) (hc0_2 : l0_2.length ≤ c0_2) (h : spec_GoodCircuit.f k a0_0 l0_1 l0_2 = some r) :
  Calls Try.prog 12 #[.agg #[.int .i64 a0_0, .slice A0_1 l0_1.length c0_1, .slice A0_2 l0_2.length c0_2]] w fun e w' => e = .returned (.bool r) ∧ Below w.heap.size w w' := by
 have hu27 := Try.underlying27
 have hu66 := Try.underlying66
 have HR0_1 := am_ hr0_1
 have HC0_1 := am_ hc0_1
 clear hr0_1 hc0_1
 have HR0_2 := am_ hr0_2
 have HC0_2 := am_ hc0_2
 clear hr0_2 hc0_2
 have HB := am_ (Below.refl w.heap.size w)
 have H := h
 clear h
 unfold spec_GoodCircuit.f at H
 have HC2 := am_ H
 clear H
 go_enter Try.func12, Try.ntmps12
 go_upto_region 1 with (first | ((with_reducible refine Sh.d 1 ?_); (try (refine gate_guard (by rfl) ?_; dsimp only)); refine Sh.bz w (N := 1) (cs := #[.int .i64 a0_0, .slice A0_1 l0_1.length c0_1, .slice A0_2 l0_2.length c0_2]) (t := 27) (h := ?_); clear HB; intro gb266 w3 BK266 GE266 HB))
 (try simp only [Act.put, List.setIfInBounds_toArray, List.set_cons_zero, List.set_cons_succ])
 go_cut [20] (fun v20 wc => ∃ (kq : Nat) (x20_1 : Bool), v20 = .bool x20_1 ∧ Aside0 (spec_GoodCircuit.j0 kq x20_1 a0_0 l0_1 l0_2 = some r) ∧ Aside0 (kq ≤ k) ∧ Aside0 (wc.heap[gb266]? = some (.cells #[.int .i64 a0_0, (.slice A0_1 l0_1.length c0_1), (.slice A0_2 l0_2.length c0_2)] 27 (0, 0))) ∧ Aside0 (Below w.heap.size w wc))
 case first =>
  have H := HC2.out
  clear HC2
  obtain ⟨t267, A4, H⟩ := Sh.ba H
  by_cases c5 : t267 = true
  ·subst c5
   rw [if_pos rfl] at H
   by_cases c6 : (l0_1.length : Int) > 300
   ·rw [if_pos c6] at H
    have c6b0 : decide (300 < (l0_1.length : Int)) = true := decide_eq_true c6
    have c6b1 : decide (300 < l0_1.length) = true := decide_eq_true (by omega)
    clear c6
    first | rw [c6b0] | (simp only [i64_w, i32_w]; rw [c6b0]) | skip
    have H' := am_ H
    clear H
    have hcz7_0 := Sh.bc BK266.out 0
    have hcz7_1 := Sh.bc BK266.out 1
    have hcz7_2 := Sh.bc BK266.out 2
    have hfz7_0 := blk_frozen BK266.out 0
    have hfz7_1 := blk_frozen BK266.out 1
    have hfz7_2 := blk_frozen BK266.out 2
    go_wp2_with (first | ((with_reducible refine Sh.k 35 ?_); refine Sh.gD (some 7) Try.func35 #[.int .i64 a0_0, .int .i64 0, .int .i64 16] (spec_l1In.calls a0_0 0 16 true _ A4.out) fun nd => ?_))
    go_meet
    case rel => exact ⟨_, (true), (Sh.es), H', ⟨Sh.om⟩, ⟨by refine Sh.pl ?_; exact BK266.out⟩, ⟨Sh.bw⟩⟩
   ·rw [if_neg c6] at H
    have c6b0 : decide (300 < (l0_1.length : Int)) = false := decide_eq_false c6
    have c6b1 : decide (300 < l0_1.length) = false := decide_eq_false (by omega)
    clear c6
    first | rw [c6b0] | (simp only [i64_w, i32_w]; rw [c6b0]) | skip
    have H' := am_ H
    clear H
    have hcz8_0 := Sh.bc BK266.out 0
    have hcz8_1 := Sh.bc BK266.out 1
    have hcz8_2 := Sh.bc BK266.out 2
    have hfz8_0 := blk_frozen BK266.out 0
    have hfz8_1 := blk_frozen BK266.out 1
    have hfz8_2 := blk_frozen BK266.out 2
    go_wp2_with (first | ((with_reducible refine Sh.k 35 ?_); refine Sh.gD (some 7) Try.func35 #[.int .i64 a0_0, .int .i64 0, .int .i64 16] (spec_l1In.calls a0_0 0 16 true _ A4.out) fun nd => ?_))
    go_meet
    case rel => exact ⟨_, (decide ((l0_2.length : Int) > 16)), (Sh.es), H', ⟨Sh.om⟩, ⟨by refine Sh.pl ?_; exact BK266.out⟩, ⟨Sh.bw⟩⟩
  ·replace c5 := Bool.eq_false_iff.mpr c5
   subst c5
   rw [Sh.nf] at H
   have H' := am_ H
   clear H
   have hcz9_0 := Sh.bc BK266.out 0
   have hcz9_1 := Sh.bc BK266.out 1
   have hcz9_2 := Sh.bc BK266.out 2
   have hfz9_0 := blk_frozen BK266.out 0
   have hfz9_1 := blk_frozen BK266.out 1
   have hfz9_2 := blk_frozen BK266.out 2
   go_wp2_with (first | ((with_reducible refine Sh.k 35 ?_); refine Sh.gD (some 7) Try.func35 #[.int .i64 a0_0, .int .i64 0, .int .i64 16] (spec_l1In.calls a0_0 0 16 false _ A4.out) fun nd => ?_))
   go_meet
   case rel => exact ⟨_, (true), (Sh.es), H', ⟨Sh.om⟩, ⟨by refine Sh.pl ?_; exact BK266.out⟩, ⟨Sh.bw⟩⟩
 case rest =>
  clear HC2
  try clear hcz7_0
  try clear hcz7_1
  try clear hcz7_2
  try clear hcz8_0
  try clear hcz8_1
  try clear hcz8_2
  try clear hcz9_0
  try clear hcz9_1
  try clear hcz9_2
  try clear hfz7_0
  try clear hfz7_1
  try clear hfz7_2
  try clear hfz8_0
  try clear hfz8_1
  try clear hfz8_2
  try clear hfz9_0
  try clear hfz9_1
  try clear hfz9_2
  obtain ⟨kq, x20_1, rfl, HA, HJ1, BK266, HB⟩ := hcut
  cases kq with
  | zero => exact absurd HA.out (by simp [spec_GoodCircuit.j0])
  | succ kj1 =>
   have H := HA.out
   clear HA
   simp only [spec_GoodCircuit.j0] at H
   by_cases c10 : x20_1 = true
   ·subst c10
    rw [if_pos rfl] at H
    obtain rfl := Option.some.inj H
    go_wp2
    go_ret
    exact ⟨Sh.eR, Sh.bw⟩
   ·replace c10 := Bool.eq_false_iff.mpr c10
    subst c10
    rw [Sh.nf] at H
    have H' := am_ H
    clear H
    have hcz11_0 := Sh.bc BK266.out 0
    have hcz11_1 := Sh.bc BK266.out 1
    have hcz11_2 := Sh.bc BK266.out 2
    have hfz11_0 := blk_frozen BK266.out 0
    have hfz11_1 := blk_frozen BK266.out 1
    have hfz11_2 := blk_frozen BK266.out 2
    go_wp2
    go_loopg [24] kj1 (fun kq v24 w' => ∃ (x24_2 : Int), v24 = .int .i64 x24_2 ∧ Aside0 (spec_GoodCircuit.l0 kq l0_1 (l0_1.length : Int) x24_2 a0_0 l0_1 l0_2 = some r) ∧ Aside0 (kq ≤ kj1) ∧ Aside0 (w'.heap[gb266]? = some (.cells #[.int .i64 a0_0, (.slice A0_1 l0_1.length c0_1), (.slice A0_2 l0_2.length c0_2)] 27 (0, 0))) ∧ Aside0 (Below w.heap.size w w'))
    case atStart => exact ⟨(0), (Sh.es), H', ⟨Nat.le_refl _⟩, ⟨by refine Sh.pl ?_; exact BK266.out⟩, ⟨Sh.bw⟩⟩
    case round =>
     clear H'
     try clear hcz11_0
     try clear hcz11_1
     try clear hcz11_2
     try clear hcz7_0
     try clear hcz7_1
     try clear hcz7_2
     try clear hcz8_0
     try clear hcz8_1
     try clear hcz8_2
     try clear hcz9_0
     try clear hcz9_1
     try clear hcz9_2
     try clear hfz11_0
     try clear hfz11_1
     try clear hfz11_2
     try clear hfz7_0
     try clear hfz7_1
     try clear hfz7_2
     try clear hfz8_0
     try clear hfz8_1
     try clear hfz8_2
     try clear hfz9_0
     try clear hfz9_1
     try clear hfz9_2
     obtain ⟨x24_2, rfl, HA, HK2, BK266, HB⟩ := hrel
     cases gk with
     | zero => exact absurd HA.out (by simp [spec_GoodCircuit.l0])
     | succ k2 =>
      have H := HA.out
      clear HA
      simp only [spec_GoodCircuit.l0] at H
      by_cases c12 : x24_2 < (l0_1.length : Int)
      ·rw [if_pos c12] at H
       have c12b0 := decide_eq_true c12
       clear c12
       by_cases c13 : 0 ≤ x24_2
       ·rw [if_pos c13] at H
        have c13b0 := decide_eq_true c13
        clear c13
        by_cases c14 : x24_2 < (l0_1.length : Int)
        ·rw [if_pos c14] at H
         have c14b0 := decide_eq_true c14
         clear c14
         obtain ⟨t270, A15, H⟩ := Sh.ba H
         by_cases c16 : t270 = true
         ·subst c16
          rw [if_pos rfl] at H
          have H' := am_ H
          clear H
          have p268 : 0 ≤ (x24_2 : Int) := Sh.od
          have q268 : x24_2 < (l0_1.length : Int) := Sh.od
          obtain ⟨ad268, e268, hx268_0, hx268_1, hx268_2⟩ := at_T66 HR0_1.out x24_2 p268 q268
          cases e268
          try replace hx268_0 := Sh.cw hx268_0
          try replace hx268_1 := Sh.cw hx268_1
          try replace hx268_2 := Sh.cw hx268_2
          replace p268 := eq_true p268
          replace q268 := eq_true q268
          go_wp2_with (first | ((with_reducible refine Sh.d 4 ?_); (try (refine gate_guard (by rfl) ?_; dsimp only)); refine Sh.bx (N := 4) (cs := #[.int .i64 0, .int .i64 0, .int .i64 0]) (t := 66) (h := ?_); intro gb269 hg w17 hbox hb; have BK269 := am_ hbox; have GE269 := Sh.ag w hg; replace HB := Sh.hb hb; have NB266_269 := am_ (Sh.nl hg BK266.out); have NB269_266 := am_ (Sh.ng hg BK266.out); replace BK266 := Sh.ab BK266 hb; clear hb hbox hg; have hnb18 := NB269_266.out; have hnc18 := NB266_269.out; obtain ⟨hcz19_0, hcz19_1, hcz19_2, hfz19_0, hfz19_1, hfz19_2⟩ := Sh.b3 BK269.out; obtain ⟨hcz20_0, hcz20_1, hcz20_2, hfz20_0, hfz20_1, hfz20_2⟩ := Sh.b3 BK266.out) | ((with_reducible refine Sh.k 39 ?_); refine Sh.gB (some 34) Try.func39 #[.agg #[.int .i64 ((rd_T66 l0_1 x24_2).f0), .int .i64 ((rd_T66 l0_1 x24_2).f1), .int .i64 ((rd_T66 l0_1 x24_2).f2)], .int .i64 (wrap64 (a0_0 + x24_2))] (spec_l4Gate.calls k2 ((rd_T66 l0_1 x24_2).f0) ((rd_T66 l0_1 x24_2).f1) ((rd_T66 l0_1 x24_2).f2) (wrap64 (a0_0 + x24_2)) true _ A15.out) fun w21 hb => ?_; replace BK266 := am_ (blk_below (g := gb266) (o := .cells #[.int .i64 a0_0, .slice (some ad268) l0_1.length c0_1, .slice A0_2 l0_2.length c0_2] 27 (0, 0)) (by refine Sh.pl ?_; refine blk_far ?_ NB266_269.out _; refine Sh.pl ?_; refine blk_far ?_ NB266_269.out _; refine Sh.pl ?_; refine blk_far ?_ NB266_269.out _; refine Sh.pl ?_; exact BK266.out) hb); replace BK269 := am_ (blk_below (g := gb269) (o := .cells #[.int .i64 ((rd_T66 l0_1 x24_2).f0), .int .i64 ((rd_T66 l0_1 x24_2).f1), .int .i64 ((rd_T66 l0_1 x24_2).f2)] 66 (0, 0)) (by refine Sh.pl ?_; refine blk_put (cs := #[.int .i64 ((rd_T66 l0_1 x24_2).f0), .int .i64 ((rd_T66 l0_1 x24_2).f1), .int .i64 0]) ?_ 2 _ rfl; refine Sh.pl ?_; refine blk_put (cs := #[.int .i64 ((rd_T66 l0_1 x24_2).f0), .int .i64 0, .int .i64 0]) ?_ 1 _ rfl; refine Sh.pl ?_; refine blk_put (cs := #[.int .i64 0, .int .i64 0, .int .i64 0]) ?_ 0 _ rfl; refine Sh.pl ?_; exact BK269.out) hb); replace HB := Sh.hb hb; (try clear hb); (try clear hb2); (try clear hk); (try clear hi)))
          go_roundg k2
          case measure => have := HJ1.out; have := HK2.out; omega
          case rel => exact ⟨(wrap64 (x24_2 + 1)), (Sh.es), H', ⟨by have := HJ1.out; have := HK2.out; omega⟩, ⟨by refine Sh.pl ?_; exact BK266.out⟩, ⟨Sh.bw⟩⟩
         ·replace c16 := Bool.eq_false_iff.mpr c16
          subst c16
          rw [Sh.nf] at H
          obtain rfl := Option.some.inj H
          have p268 : 0 ≤ (x24_2 : Int) := Sh.od
          have q268 : x24_2 < (l0_1.length : Int) := Sh.od
          obtain ⟨ad268, e268, hx268_0, hx268_1, hx268_2⟩ := at_T66 HR0_1.out x24_2 p268 q268
          cases e268
          try replace hx268_0 := Sh.cw hx268_0
          try replace hx268_1 := Sh.cw hx268_1
          try replace hx268_2 := Sh.cw hx268_2
          replace p268 := eq_true p268
          replace q268 := eq_true q268
          go_wp2_with (first | ((with_reducible refine Sh.d 4 ?_); (try (refine gate_guard (by rfl) ?_; dsimp only)); refine Sh.bx (N := 4) (cs := #[.int .i64 0, .int .i64 0, .int .i64 0]) (t := 66) (h := ?_); intro gb269 hg w22 hbox hb; have BK269 := am_ hbox; have GE269 := Sh.ag w hg; replace HB := Sh.hb hb; have NB266_269 := am_ (Sh.nl hg BK266.out); have NB269_266 := am_ (Sh.ng hg BK266.out); replace BK266 := Sh.ab BK266 hb; clear hb hbox hg; have hnb23 := NB269_266.out; have hnc23 := NB266_269.out; obtain ⟨hcz24_0, hcz24_1, hcz24_2, hfz24_0, hfz24_1, hfz24_2⟩ := Sh.b3 BK269.out; obtain ⟨hcz25_0, hcz25_1, hcz25_2, hfz25_0, hfz25_1, hfz25_2⟩ := Sh.b3 BK266.out) | ((with_reducible refine Sh.k 39 ?_); refine Sh.gB (some 34) Try.func39 #[.agg #[.int .i64 ((rd_T66 l0_1 x24_2).f0), .int .i64 ((rd_T66 l0_1 x24_2).f1), .int .i64 ((rd_T66 l0_1 x24_2).f2)], .int .i64 (wrap64 (a0_0 + x24_2))] (spec_l4Gate.calls k2 ((rd_T66 l0_1 x24_2).f0) ((rd_T66 l0_1 x24_2).f1) ((rd_T66 l0_1 x24_2).f2) (wrap64 (a0_0 + x24_2)) false _ A15.out) fun w26 hb => ?_; replace BK266 := am_ (blk_below (g := gb266) (o := .cells #[.int .i64 a0_0, .slice (some ad268) l0_1.length c0_1, .slice A0_2 l0_2.length c0_2] 27 (0, 0)) (by refine Sh.pl ?_; refine blk_far ?_ NB266_269.out _; refine Sh.pl ?_; refine blk_far ?_ NB266_269.out _; refine Sh.pl ?_; refine blk_far ?_ NB266_269.out _; refine Sh.pl ?_; exact BK266.out) hb); replace BK269 := am_ (blk_below (g := gb269) (o := .cells #[.int .i64 ((rd_T66 l0_1 x24_2).f0), .int .i64 ((rd_T66 l0_1 x24_2).f1), .int .i64 ((rd_T66 l0_1 x24_2).f2)] 66 (0, 0)) (by refine Sh.pl ?_; refine blk_put (cs := #[.int .i64 ((rd_T66 l0_1 x24_2).f0), .int .i64 ((rd_T66 l0_1 x24_2).f1), .int .i64 0]) ?_ 2 _ rfl; refine Sh.pl ?_; refine blk_put (cs := #[.int .i64 ((rd_T66 l0_1 x24_2).f0), .int .i64 0, .int .i64 0]) ?_ 1 _ rfl; refine Sh.pl ?_; refine blk_put (cs := #[.int .i64 0, .int .i64 0, .int .i64 0]) ?_ 0 _ rfl; refine Sh.pl ?_; exact BK269.out) hb); replace HB := Sh.hb hb; (try clear hb); (try clear hb2); (try clear hk); (try clear hi)))
          go_ret
          exact ⟨Sh.eR, Sh.bw⟩
        ·rw [if_neg c14] at H
         exact absurd H (by simp)
       ·rw [if_neg c13] at H
        exact absurd H (by simp)
      ·rw [if_neg c12] at H
       have c12b0 := decide_eq_false c12
       clear c12
       obtain ⟨t271, A27, H⟩ := Sh.ba H
       obtain ⟨t272, A28, H⟩ := Sh.ba H
       obtain rfl := Option.some.inj H
       try go_wp2
       replace BK266 := am_ (blk_drew BK266.out)
       replace HB := am_ (below_drew1 HB.out)
       refine start_ (n := 7) (S := fun w' => w'.cell? ⟨gb266, 0, none⟩ = some (.int .i64 a0_0) ∧ w'.cell? ⟨gb266, 1, none⟩ = some (.slice A0_1 l0_1.length c0_1) ∧ w'.cell? ⟨gb266, 2, none⟩ = some (.slice A0_2 l0_2.length c0_2)) (ds := []) (Sh.nm 7 0) (by kernel_rfl) rfl rfl Sh.cs (fun hHeld => ?_)
       generalize wr.drew = w29 at BK266 HB hHeld ⊢
       refine Sh.pA 0 37 (Sh.pre 7 1) (by kernel_rfl) ?_
       refine Sh.tA 1 38 (Sh.pre 7 2) (by kernel_rfl) hHeld ?_ (hy := by rintro w' ⟨s0, s1, s2⟩; go_simp; with_reducible rfl)
       refine Sh.tA 2 39 (Sh.pre 7 3) (by kernel_rfl) hHeld ?_ (hy := by rintro w' ⟨s0, s1, s2⟩; go_simp; with_reducible rfl)
       refine one_ (i := 3) (N := some 40) (Sh.nm 7 15) rfl rfl (by kernel_rfl) (by decide) (fun K hK => ?_)
       refine goes_ Try.func28 (by kernel_rfl) rfl #[.agg #[.int .i64 a0_0, .slice A0_1 l0_1.length c0_1, .slice A0_2 l0_2.length c0_2]] (by rfl) rfl rfl (by (try simp only [List.map_toArray, List.map_cons, List.map_nil]); first | done | rfl | (simp only [List.length_drop, List.length_take]; rfl)) ?_
       with_reducible refine (spec_l4Wires.calls a0_0 _ _ l0_1 _ _ l0_2 t271 _ (Sh.cB HR0_1.out) HC0_1.out (Sh.cB HR0_2.out) HC0_2.out A27.out).mono ?_
       rintro e w30 ⟨rfl, hb⟩
       refine ⟨_, rfl, ?_⟩
       replace BK266 := Sh.ab BK266 hb
       replace HB := Sh.hb hb
       (try clear hb)
       (try clear hb2)
       (try clear hk)
       (try clear hi)
       refine Sh.kN hK Sh.cs fun hHeld => ?_
       clear hK K
       refine Sh.pA 4 41 (Sh.pre 7 5) (by kernel_rfl) ?_
       refine one_ (i := 5) (N := some 42) (Sh.nm 7 63) rfl rfl (by kernel_rfl) (by decide) (fun K hK => ?_)
       refine goes_ Try.func40 (by kernel_rfl) rfl #[.slice A0_2 l0_2.length c0_2, .int .i64 0, .int .i64 (wrap64 (t271 - 1))] (by rfl) rfl rfl (by (try simp only [List.map_toArray, List.map_cons, List.map_nil]); first | done | rfl | (simp only [List.length_drop, List.length_take]; rfl)) ?_
       with_reducible refine (spec_l1All.calls k2 _ _ l0_2 0 (wrap64 (t271 - 1)) t272 _ (Sh.cB HR0_2.out) HC0_2.out A28.out).mono ?_
       rintro e w' ⟨rfl, ⟨nd, rfl⟩⟩
       refine ⟨_, rfl, ?_⟩
       refine Sh.kN hK Sh.cs fun hHeld => ?_
       clear hK K
       refine Sh.pA 6 2 (Sh.pre 7 7) (by kernel_rfl) ?_
       refine done_ (by kernel_rfl) ?_
       try go_wp2
       go_ret
       exact ⟨Sh.eR, Sh.bw⟩
def spec_l4Lists.f (k : Nat) (a0_0 : Int) (l0_1 : List (S66)) (l0_2 : List Int) (l1 : List Int) (l2 : List Int) : Option (Bool) := (spec_GoodCircuit.f k a0_0 l0_1 l0_2).bind fun t274 => (if t274 = true then (if (l1.length : Int) = (l2.length : Int) then (if (l1.length : Int) ≤ 16 then ((spec_l4Wires.f a0_0 l0_1 l0_2).bind fun t275 => ((spec_l1All.f k l1 0 (wrap64 (t275 - 1))).bind fun t276 => (if t276 = true then ((spec_l4Wires.f a0_0 l0_1 l0_2).bind fun t277 => ((spec_l1All.f k l2 0 (wrap64 (t277 - 1))).bind fun t278 => (some t278))) else (some false)))) else (some false)) else (some false)) else (some false))
theorem spec_l4Lists.mono : ∀ a0 a1 a2 a3 a4 k, LeO (spec_l4Lists.f k a0 a1 a2 a3 a4) (spec_l4Lists.f (k + 1) a0 a1 a2 a3 a4) := by
 intro a0 a1 a2 a3 a4 k
 unfold spec_l4Lists.f
 repeat' with_reducible first | apply spec_GoodCircuit.mono | apply spec_l1All.mono | exact LeO.refl _ | exact LeO.none _ | apply LeO.ite | refine LeO.bind ?_ fun _ => ?_
theorem spec_l4Lists.calls (k : Nat) (a0_0 : Int) (A0_1 : Option Addr) (c0_1 : Nat) (l0_1 : List (S66)) (A0_2 : Option Addr) (c0_2 : Nat) (l0_2 : List Int) (A1 : Option Addr) (c1 : Nat) (l1 : List Int) (A2 : Option Addr) (c2 : Nat) (l2 : List Int) (r : Bool) (w : World) (hr0_1 : Kd.C k66 w A0_1 l0_1.length l0_1) (hc0_1 : l0_1.length ≤ c0_1) (hr0_2 : Kd.C (Kd.int .i64) w A0_2 l0_2.length l0_2) (hc0_2 : l0_2.length ≤ c0_2) (hr1 : Kd.C (Kd.int .i64) w A1 l1.length l1) (hc1 : l1.length ≤ c1) (hr2 : Kd.C (Kd.int .i64) w A2 l2.length l2) (hc2 : l2.length ≤ c2) (h : spec_l4Lists.f k a0_0 l0_1 l0_2 l1 l2 = some r) :
  Calls Try.prog 34 #[.agg #[.int .i64 a0_0, .slice A0_1 l0_1.length c0_1, .slice A0_2 l0_2.length c0_2], .slice A1 l1.length c1, .slice A2 l2.length c2] w fun e w' => e = .returned (.bool r) ∧ Below w.heap.size w w' := by
 have hu27 := Try.underlying27
 have HR0_1 := am_ hr0_1
 have HC0_1 := am_ hc0_1
 clear hr0_1 hc0_1
 have HR0_2 := am_ hr0_2
 have HC0_2 := am_ hc0_2
 clear hr0_2 hc0_2
 have HR1 := am_ hr1
 have HC1 := am_ hc1
 clear hr1 hc1
 have HR2 := am_ hr2
 have HC2 := am_ hc2
 clear hr2 hc2
 have HB := am_ (Below.refl w.heap.size w)
 have H := h
 clear h
 unfold spec_l4Lists.f at H
 obtain ⟨t274, A4, H⟩ := Sh.ba H
 by_cases c5 : t274 = true
 ·subst c5
  rw [if_pos rfl] at H
  by_cases c6 : (l1.length : Int) = (l2.length : Int)
  ·rw [if_pos c6] at H
   have c6b0 : ((l1.length : Int) == (l2.length : Int)) = true := beq_iff_eq.mpr c6
   have c6b1 : ((l1.length : Int) != (l2.length : Int)) = false := bne_eq_false_iff_eq.mpr c6
   have c6b2 : (l1.length == l2.length) = true := by first | simpa using c6 | (simp at c6 ⊢; omega)
   clear c6
   by_cases c7 : (l1.length : Int) ≤ 16
   ·rw [if_pos c7] at H
    have c7b0 := decide_eq_true c7
    have c7b1 : decide (l1.length ≤ 16) = true := decide_eq_true (by omega)
    clear c7
    obtain ⟨t275, A8, H⟩ := Sh.ba H
    obtain ⟨t276, A9, H⟩ := Sh.ba H
    by_cases c10 : t276 = true
    ·subst c10
     rw [if_pos rfl] at H
     obtain ⟨t277, A11, H⟩ := Sh.ba H
     obtain rfl : t275 = t277 := Option.some.inj (A8.out.symm.trans A11.out)
     obtain ⟨t278, A12, H⟩ := Sh.ba H
     obtain rfl := Option.some.inj H
     go_enter Try.func34, Try.ntmps34
     go_wp2_with (first | ((with_reducible refine Sh.d 3 ?_); (try (refine gate_guard (by rfl) ?_; dsimp only)); refine Sh.bz w (N := 3) (cs := #[.int .i64 a0_0, .slice A0_1 l0_1.length c0_1, .slice A0_2 l0_2.length c0_2]) (t := 27) (h := ?_); clear HB; intro gb273 w13 BK273 GE273 HB; obtain ⟨hcz14_0, hcz14_1, hcz14_2, hfz14_0, hfz14_1, hfz14_2⟩ := Sh.b3 BK273.out) | ((with_reducible refine Sh.k 12 ?_); refine Sh.gB (some 8) Try.func12 #[.agg #[.int .i64 a0_0, .slice A0_1 l0_1.length c0_1, .slice A0_2 l0_2.length c0_2]] (spec_GoodCircuit.calls k a0_0 _ _ l0_1 _ _ l0_2 true _ (Sh.cB HR0_1.out) HC0_1.out (Sh.cB HR0_2.out) HC0_2.out A4.out) fun w15 hb => ?_; replace BK273 := Sh.ab BK273 hb; replace HB := Sh.hb hb; (try clear hb); (try clear hb2); (try clear hk); (try clear hi); obtain ⟨hcz16_0, hcz16_1, hcz16_2, hfz16_0, hfz16_1, hfz16_2⟩ := Sh.b3 BK273.out) | (go_at_call 28; (with_reducible refine (spec_l4Wires.calls a0_0 _ _ l0_1 _ _ l0_2 t275 _ (Sh.cB HR0_1.out) HC0_1.out (Sh.cB HR0_2.out) HC0_2.out A8.out).mono ?_); rintro e w17 ⟨rfl, hb⟩; replace BK273 := Sh.ab BK273 hb; replace HB := Sh.hb hb; (try clear hb); (try clear hb2); (try clear hk); (try clear hi)) | (go_at_call 40; (with_reducible refine (spec_l1All.calls k _ _ l1 0 (wrap64 (t275 - 1)) true _ (Sh.cB HR1.out) HC1.out A9.out).mono ?_); rintro e w' ⟨rfl, ⟨nd, rfl⟩⟩; obtain ⟨hcz18_0, hcz18_1, hcz18_2, hfz18_0, hfz18_1, hfz18_2⟩ := Sh.b3 BK273.out) | (go_at_call 28; (with_reducible refine (spec_l4Wires.calls a0_0 _ _ l0_1 _ _ l0_2 t275 _ (Sh.cB HR0_1.out) HC0_1.out (Sh.cB HR0_2.out) HC0_2.out A11.out).mono ?_); rintro e w19 ⟨rfl, hb⟩; replace BK273 := Sh.ab BK273 hb; replace HB := Sh.hb hb; (try clear hb); (try clear hb2); (try clear hk); (try clear hi)) | (go_at_call 40; (with_reducible refine (spec_l1All.calls k _ _ l2 0 (wrap64 (t275 - 1)) t278 _ (Sh.cB HR2.out) HC2.out A12.out).mono ?_); rintro e w' ⟨rfl, ⟨nd, rfl⟩⟩))
     go_ret
     exact ⟨Sh.eR, Sh.bw⟩
    ·replace c10 := Bool.eq_false_iff.mpr c10
     subst c10
     rw [Sh.nf] at H
     obtain rfl := Option.some.inj H
     go_enter Try.func34, Try.ntmps34
     go_wp2_with (first | ((with_reducible refine Sh.d 3 ?_); (try (refine gate_guard (by rfl) ?_; dsimp only)); refine Sh.bz w (N := 3) (cs := #[.int .i64 a0_0, .slice A0_1 l0_1.length c0_1, .slice A0_2 l0_2.length c0_2]) (t := 27) (h := ?_); clear HB; intro gb273 w20 BK273 GE273 HB; obtain ⟨hcz21_0, hcz21_1, hcz21_2, hfz21_0, hfz21_1, hfz21_2⟩ := Sh.b3 BK273.out) | ((with_reducible refine Sh.k 12 ?_); refine Sh.gB (some 8) Try.func12 #[.agg #[.int .i64 a0_0, .slice A0_1 l0_1.length c0_1, .slice A0_2 l0_2.length c0_2]] (spec_GoodCircuit.calls k a0_0 _ _ l0_1 _ _ l0_2 true _ (Sh.cB HR0_1.out) HC0_1.out (Sh.cB HR0_2.out) HC0_2.out A4.out) fun w22 hb => ?_; replace BK273 := Sh.ab BK273 hb; replace HB := Sh.hb hb; (try clear hb); (try clear hb2); (try clear hk); (try clear hi); obtain ⟨hcz23_0, hcz23_1, hcz23_2, hfz23_0, hfz23_1, hfz23_2⟩ := Sh.b3 BK273.out) | (go_at_call 28; (with_reducible refine (spec_l4Wires.calls a0_0 _ _ l0_1 _ _ l0_2 t275 _ (Sh.cB HR0_1.out) HC0_1.out (Sh.cB HR0_2.out) HC0_2.out A8.out).mono ?_); rintro e w24 ⟨rfl, hb⟩; replace BK273 := Sh.ab BK273 hb; replace HB := Sh.hb hb; (try clear hb); (try clear hb2); (try clear hk); (try clear hi)) | (go_at_call 40; (with_reducible refine (spec_l1All.calls k _ _ l1 0 (wrap64 (t275 - 1)) false _ (Sh.cB HR1.out) HC1.out A9.out).mono ?_); rintro e w' ⟨rfl, ⟨nd, rfl⟩⟩))
     go_ret
     exact ⟨Sh.eR, Sh.bw⟩
   ·rw [if_neg c7] at H
    have c7b0 := decide_eq_false c7
    have c7b1 : decide (l1.length ≤ 16) = false := decide_eq_false (by omega)
    clear c7
    obtain rfl := Option.some.inj H
    go_enter Try.func34, Try.ntmps34
    go_wp2_with (first | ((with_reducible refine Sh.d 3 ?_); (try (refine gate_guard (by rfl) ?_; dsimp only)); refine Sh.bz w (N := 3) (cs := #[.int .i64 a0_0, .slice A0_1 l0_1.length c0_1, .slice A0_2 l0_2.length c0_2]) (t := 27) (h := ?_); clear HB; intro gb273 w25 BK273 GE273 HB; obtain ⟨hcz26_0, hcz26_1, hcz26_2, hfz26_0, hfz26_1, hfz26_2⟩ := Sh.b3 BK273.out) | ((with_reducible refine Sh.k 12 ?_); refine Sh.gB (some 8) Try.func12 #[.agg #[.int .i64 a0_0, .slice A0_1 l0_1.length c0_1, .slice A0_2 l0_2.length c0_2]] (spec_GoodCircuit.calls k a0_0 _ _ l0_1 _ _ l0_2 true _ (Sh.cB HR0_1.out) HC0_1.out (Sh.cB HR0_2.out) HC0_2.out A4.out) fun w27 hb => ?_; replace BK273 := Sh.ab BK273 hb; replace HB := Sh.hb hb; (try clear hb); (try clear hb2); (try clear hk); (try clear hi)))
    go_ret
    exact ⟨Sh.eR, Sh.bw⟩
  ·rw [if_neg c6] at H
   have c6b0 : ((l1.length : Int) == (l2.length : Int)) = false := beq_eq_false_iff_ne.mpr c6
   have c6b1 : ((l1.length : Int) != (l2.length : Int)) = true := bne_iff_ne.mpr c6
   have c6b2 : (l1.length == l2.length) = false := by first | simpa using c6 | (simp at c6 ⊢; omega)
   obtain rfl := Option.some.inj H
   go_enter Try.func34, Try.ntmps34
   go_wp2_with (first | ((with_reducible refine Sh.d 3 ?_); (try (refine gate_guard (by rfl) ?_; dsimp only)); refine Sh.bz w (N := 3) (cs := #[.int .i64 a0_0, .slice A0_1 l0_1.length c0_1, .slice A0_2 l0_2.length c0_2]) (t := 27) (h := ?_); clear HB; intro gb273 w28 BK273 GE273 HB; obtain ⟨hcz29_0, hcz29_1, hcz29_2, hfz29_0, hfz29_1, hfz29_2⟩ := Sh.b3 BK273.out) | ((with_reducible refine Sh.k 12 ?_); refine Sh.gB (some 8) Try.func12 #[.agg #[.int .i64 a0_0, .slice A0_1 l0_1.length c0_1, .slice A0_2 l0_2.length c0_2]] (spec_GoodCircuit.calls k a0_0 _ _ l0_1 _ _ l0_2 true _ (Sh.cB HR0_1.out) HC0_1.out (Sh.cB HR0_2.out) HC0_2.out A4.out) fun w30 hb => ?_; replace BK273 := Sh.ab BK273 hb; replace HB := Sh.hb hb; (try clear hb); (try clear hb2); (try clear hk); (try clear hi)))
   go_ret
   exact ⟨Sh.eR, Sh.bw⟩
 ·replace c5 := Bool.eq_false_iff.mpr c5
  subst c5
  rw [Sh.nf] at H
  obtain rfl := Option.some.inj H
  go_enter Try.func34, Try.ntmps34
  go_wp2_with (first | ((with_reducible refine Sh.d 3 ?_); (try (refine gate_guard (by rfl) ?_; dsimp only)); refine Sh.bz w (N := 3) (cs := #[.int .i64 a0_0, .slice A0_1 l0_1.length c0_1, .slice A0_2 l0_2.length c0_2]) (t := 27) (h := ?_); clear HB; intro gb273 w31 BK273 GE273 HB; obtain ⟨hcz32_0, hcz32_1, hcz32_2, hfz32_0, hfz32_1, hfz32_2⟩ := Sh.b3 BK273.out) | ((with_reducible refine Sh.k 12 ?_); refine Sh.gB (some 8) Try.func12 #[.agg #[.int .i64 a0_0, .slice A0_1 l0_1.length c0_1, .slice A0_2 l0_2.length c0_2]] (spec_GoodCircuit.calls k a0_0 _ _ l0_1 _ _ l0_2 false _ (Sh.cB HR0_1.out) HC0_1.out (Sh.cB HR0_2.out) HC0_2.out A4.out) fun w33 hb => ?_; replace BK273 := Sh.ab BK273 hb; replace HB := Sh.hb hb; (try clear hb); (try clear hb2); (try clear hk); (try clear hi)))
  go_ret
  exact ⟨Sh.eR, Sh.bw⟩
def spec_l1Own.f (l0 : List Int) : Option (List Int) := (some (([] : List Int) : List Int)).bind fun y279 => (if y279.length + l0.length < 17592186044416 then (some (y279 ++ l0)) else (none))
theorem spec_l1Own.calls (A0 : Option Addr) (c0 : Nat) (l0 : List Int) (r : List Int) (w : World) (hr0 : Kd.C (Kd.int .i64) w A0 l0.length l0) (hc0 : l0.length ≤ c0) (h : spec_l1Own.f l0 = some r) :
  Calls Try.prog 56 #[.slice A0 l0.length c0] w fun e w' => ∃ v0_ : Value, e = .returned (v0_) ∧ Kd.R (Kd.int .i64) 3 w' w.heap.size (fun _ => True) v0_ r ∧ Below w.heap.size w w' := by
 have HR0 := am_ hr0
 have HC0 := am_ hc0
 clear hr0 hc0
 have HB := am_ (Below.refl w.heap.size w)
 have H := h
 clear h
 unfold spec_l1Own.f at H
 obtain ⟨y279, hy279⟩ : ∃ y_ : List Int, y_ = (([] : List Int)) := ⟨_, rfl⟩
 replace H : (if y279.length + l0.length < 17592186044416 then (some (y279 ++ l0)) else (none)) = some r := by first | (rw [hy279]; with_reducible exact H) | (have H2_ := (Option.bind_some _ _).symm.trans H; rw [hy279]; with_reducible exact H2_) | (have H2_ := (Option.bind_some _ _).symm.trans H; with_reducible exact H2_) | with_reducible exact H | (rw [hy279]; exact H) | exact H
 have Ny279 := am_ hy279
 clear hy279
 by_cases c2 : y279.length + l0.length < 17592186044416
 ·rw [if_pos c2] at H
  have LMc2 := am_ c2
  clear c2
  obtain ⟨y282, hy282⟩ : ∃ y_ : List Int, y_ = (y279 ++ l0) := ⟨_, rfl⟩
  replace H : (some y282) = some r := by first | (rw [hy282]; with_reducible exact H) | (have H2_ := (Option.bind_some _ _).symm.trans H; rw [hy282]; with_reducible exact H2_) | (have H2_ := (Option.bind_some _ _).symm.trans H; with_reducible exact H2_) | with_reducible exact H | (rw [hy282]; exact H) | exact H
  have Ny282 := am_ hy282
  clear hy282
  obtain rfl := Option.some.inj H
  go_enter Try.func56, Try.ntmps56
  go_wp2_with (first | ((with_reducible refine Sh.d 3 ?_); refine Kd.R_lit (Kd.int .i64) _ 3 ?hg (N := 3) ?hd (xs := ([] : List Int)) (inner := []) (ok := fun _ => True) (okp := fun _ => True) ?hr ?hp (fun _ hk => hk) trivial (Below.refl _ _) (Nat.le_refl _) (by simp) ?_; (case hd => rfl); (case hg => rfl); (case hr => first | (go_simp; done) | (go_simp; rfl)); (case hp => exact (Reps.none _ _)); intro v280 w3 ho4 hb hg_ hnew_; clear hg_ hnew_; (first | rw [← Ny279.out] at ho4 | (simp only [Int.reduceToNat] at ho4; rw [← Ny279.out] at ho4)); have HO281 := am_ (Kd.R_lower ho4 (below_size Sh.bw)); replace HB := Sh.hb hb; clear hb ho4) | ((with_reducible refine gate_builtin (b := .append) (xs := #[.tmp 3, .tmp 4]) rfl ?_); at_builtin; refine Kd.R_append_rows (Kd.int .i64) (w0 := w) w.heap.size rfl (.tmp 3) (.tmp 4) 25 3 (.int .i64 0) 8 rfl Try.underlying25 info3 rfl (by decide) (by omega) v280 y279 l0 _ _ _ (fun _ => True) (fun _ => False) rfl rfl ?aO ?aR (fun _ _ h => h) (fun _ h => h.elim) ?aF ?aB ?aS ?aL ?_; (case aR => repeat (first | exact (Kd.C_below HR0.out HB.out) | (with_reducible first | refine Kd.C_alloc ?_ _ | refine Kd.C_drewN ?_ _ | refine Kd.C_drew ?_))); (case aB => exact Sh.bw); (case aF => exact (fun _ _ => trivial)); (case aO => exact (Sh.rl HO281.out)); (case aS => exact (below_size Sh.bw)); (case aL => have := LMc2.out; omega); intro v283 w5 ho hb hg hat; rw [← Ny282.out] at ho; have n0_ := am_ hb; have n1_ := am_ ho; clear HB; clear HO281; have HB := n0_; have HO284 := n1_; clear n0_ n1_; clear ho hb hg hat))
  go_ret
  exact ⟨_, Sh.eR, Sh.rl HO284.out, Sh.bw⟩
 ·rw [if_neg c2] at H
  exact absurd H (by simp)
def spec_l4Own.f (a0_0 : Int) (l0_1 : List (S66)) (l0_2 : List Int) : Option (Int × (List (S66)) × List Int) := (some (([] : List (S66)) : List (S66))).bind fun y287 => (if y287.length + l0_1.length < 5864062014805 then ((spec_l1Own.f l0_2).bind fun t293 => (some (a0_0, (y287 ++ l0_1), t293))) else (none))
def spec_l4Own.T1 : Bool × List (List Nat × List Nat) := (true, [([], []), ([0], [0]), ([], []), ([], []), ([3], [3]), ([2, 4], [2, 4]), ([], []), ([6], [6]), ([7, 5], [7]), ([1, 5, 8], [1, 5, 8]), ([9, 8, 0, 1, 2, 3, 4, 5, 6, 7, 8, 9], [9])])
def spec_l4Own.B1 : List Nat := [0, 1, 0, 0, 8, 28, 0, 64, 252, 511, 1023]
theorem spec_l4Own.tab1 : rtab .any (opsOf Try.f36 1) = spec_l4Own.T1 := by kernel_rfl
theorem spec_l4Own.bits1 : waitsOk spec_l4Own.T1.2 spec_l4Own.B1 = true := by kernel_rfl
theorem spec_l4Own.calls (a0_0 : Int) (A0_1 : Option Addr) (c0_1 : Nat) (l0_1 : List (S66)) (A0_2 : Option Addr) (c0_2 : Nat) (l0_2 : List Int) (r1 : Int) (r2 : List (S66)) (r3 : List Int) (w : World) (hr0_1 : Kd.C k66 w A0_1 l0_1.length l0_1) (hc0_1 : l0_1.length ≤ c0_1) (hr0_2 : Kd.C (Kd.int .i64) w A0_2 l0_2.length l0_2) (hc0_2 : l0_2.length ≤ c0_2) (h : spec_l4Own.f a0_0 l0_1 l0_2 = some (r1, r2, r3)) :
  Calls Try.prog 36 #[.agg #[.int .i64 a0_0, .slice A0_1 l0_1.length c0_1, .slice A0_2 l0_2.length c0_2]] w fun e w' => ∃ v1_ v2_ : Value, e = .returned (.agg #[.int .i64 r1, v1_, v2_]) ∧ Kd.R k66 66 w' w.heap.size (fun _ => True) v1_ r2 ∧ Kd.R (Kd.int .i64) 3 w' w.heap.size (fun _ => True) v2_ r3 ∧ Below w.heap.size w w' := by
 have hu27 := Try.underlying27
 have HR0_1 := am_ hr0_1
 have HC0_1 := am_ hc0_1
 clear hr0_1 hc0_1
 have HR0_2 := am_ hr0_2
 have HC0_2 := am_ hc0_2
 clear hr0_2 hc0_2
 have HB := am_ (Below.refl w.heap.size w)
 have H := h
 clear h
 unfold spec_l4Own.f at H
 obtain ⟨y287, hy287⟩ : ∃ y_ : List (S66), y_ = (([] : List (S66))) := ⟨_, rfl⟩
 replace H : (if y287.length + l0_1.length < 5864062014805 then ((spec_l1Own.f l0_2).bind fun t293 => (some (a0_0, (y287 ++ l0_1), t293))) else (none)) = some (r1, r2, r3) := by first | (rw [hy287]; with_reducible exact H) | (have H2_ := (Option.bind_some _ _).symm.trans H; rw [hy287]; with_reducible exact H2_) | (have H2_ := (Option.bind_some _ _).symm.trans H; with_reducible exact H2_) | with_reducible exact H | (rw [hy287]; exact H) | exact H
 have Ny287 := am_ hy287
 clear hy287
 by_cases c2 : y287.length + l0_1.length < 5864062014805
 ·rw [if_pos c2] at H
  have LMc2 := am_ c2
  clear c2
  obtain ⟨y290, hy290⟩ : ∃ y_ : List (S66), y_ = (y287 ++ l0_1) := ⟨_, rfl⟩
  replace H : ((spec_l1Own.f l0_2).bind fun t293 => (some (a0_0, y290, t293))) = some (r1, r2, r3) := by first | (rw [hy290]; with_reducible exact H) | (have H2_ := (Option.bind_some _ _).symm.trans H; rw [hy290]; with_reducible exact H2_) | (have H2_ := (Option.bind_some _ _).symm.trans H; with_reducible exact H2_) | with_reducible exact H | (rw [hy290]; exact H) | exact H
  have Ny290 := am_ hy290
  clear hy290
  obtain ⟨t293, A3, H⟩ := Sh.ba H
  simp only [Option.some.injEq, Prod.mk.injEq] at H
  obtain ⟨rfl, rfl, rfl⟩ := H
  go_enter Try.func36, Try.ntmps36
  try go_wp2_with (first | ((with_reducible refine Sh.d 1 ?_); refine Sh.bz w (N := 1) (cs := #[.int .i64 a0_0, .slice A0_1 l0_1.length c0_1, .slice A0_2 l0_2.length c0_2]) (t := 27) (h := ?_); clear HB; intro gb285 w4 BK285 GE285 HB) | ((with_reducible refine Sh.d 2 ?_); refine Sh.bx (N := 2) (cs := #[.int .i64 0, .slice none 0 0, .slice none 0 0]) (t := 27) (h := ?_); intro gb286 hg w5 hbox hb; have BK286 := am_ hbox; have GE286 := Sh.ag w hg; replace HB := Sh.hb hb; have NB285_286 := am_ (Sh.nl hg BK285.out); have NB286_285 := am_ (Sh.ng hg BK285.out); replace BK285 := Sh.ab BK285 hb; clear hb hbox hg))
  replace BK285 := am_ (blk_drew BK285.out)
  replace BK286 := am_ (blk_drew BK286.out)
  replace HB := am_ (below_drew1 HB.out)
  refine start_ (n := 11) (S := fun w' => w'.cell? ⟨gb285, 0, none⟩ = some (.int .i64 a0_0) ∧ w'.cell? ⟨gb285, 1, none⟩ = some (.slice A0_1 l0_1.length c0_1) ∧ w'.cell? ⟨gb285, 2, none⟩ = some (.slice A0_2 l0_2.length c0_2)) (ds := []) (Sh.nm 11 0) (by kernel_rfl) rfl rfl Sh.cs (fun hHeld => ?_); refine with_tabW spec_l4Own.tab1 spec_l4Own.bits1 (fun HT_ HW_ => ?_)
  generalize w5.drew = w6 at BK285 BK286 HB hHeld ⊢
  refine Sh.qA 0 ?_; refine Sh.qA 3 ?_; refine Sh.qA 6 ?_; refine Sh.qT 1 hHeld ?_; refine Sh.qT 4 hHeld ?_; refine Sh.qT 7 hHeld ?_
  refine one_ (i := 2) (N := some 5) (Sh.nm 11 223) rfl rfl (one_of HT_.out (by kernel_rfl)) (by decide) (fun K hK => ?_)
  refine Kd.R_lit_step k66 _ 66 ?hg (N := 5) ?hd (xs := ([] : List (S66))) (inner := []) (ok := fun _ => True) (okp := fun _ => True) ?hr ?hp (fun _ hk => hk) trivial (Below.refl _ _) (Nat.le_refl _) (by simp) ?_; (case hd => rfl); (case hg => rfl); (case hr => first | (go_simp; done) | (go_simp; rfl)); (case hp => exact (Reps.none _ _))
  intro v288 w7 ho8 hb hg_ hnew_
  clear hg_ hnew_
  (first | rw [← Ny287.out] at ho8 | (simp only [Int.reduceToNat] at ho8; rw [← Ny287.out] at ho8))
  have HO289 := am_ (Kd.R_lower ho8 (below_size Sh.bw))
  replace BK285 := Sh.ab BK285 hb
  replace BK286 := Sh.ab BK286 hb
  replace HB := Sh.hb hb
  clear hb ho8
  refine Sh.kN hK Sh.cs fun hHeld => ?_
  clear hK K
  refine one_ (i := 5) (N := some 8) (Sh.nm 11 255) rfl rfl (one_of HT_.out (by kernel_rfl)) (by decide) (fun K hK => ?_)
  refine Kd.R_append_rows_step k66 (w0 := w) w.heap.size (by rfl) (.tmp 5) (.tmp 7) 24 66 (.agg #[(.int .i64 0), (.int .i64 0), (.int .i64 0)]) 24 rfl Try.underlying24 info66 rfl (by decide) (by omega) v288 y287 l0_1 _ _ _ (fun _ => True) (fun _ => False) rfl rfl ?aO ?aR (fun _ _ h => h) (fun _ h => h.elim) ?aF ?aB ?aS ?aL ?_
  (case aR => repeat (first | exact (Kd.C_below HR0_1.out HB.out) | (with_reducible first | refine Kd.C_alloc ?_ _ | refine Kd.C_drewN ?_ _ | refine Kd.C_drew ?_)))
  (case aB => exact Sh.bw)
  (case aF => exact (fun _ _ => trivial))
  (case aO => exact (Sh.rl HO289.out))
  (case aS => exact (below_size Sh.bw))
  (case aL => have := LMc2.out; omega)
  intro v291 w9 ho hb hg hat
  rw [← Ny290.out] at ho
  have n0_ := am_ (blk_grown (g := gb285) (o := .cells #[.int .i64 a0_0, .slice A0_1 l0_1.length c0_1, .slice A0_2 l0_2.length c0_2] 27 (0, 0)) (Sh.pl BK285.out) hg (Kd.R_ne HO289.out BK285.out (by decide)))
  have n1_ := am_ (blk_grown (g := gb286) (o := .cells #[.int .i64 0, .slice none 0 0, .slice none 0 0] 27 (0, 0)) (Sh.pl BK286.out) hg (Kd.R_ne HO289.out BK286.out (by decide)))
  have n2_ := am_ hb
  have n3_ := am_ ho
  clear BK285
  clear BK286
  clear HB
  clear HO289
  have BK285 := n0_
  have BK286 := n1_
  have HB := n2_
  have HO292 := n3_
  clear n0_ n1_ n2_ n3_
  clear ho hb hg hat
  refine Sh.kN hK Sh.cs fun hHeld => ?_
  clear hK K
  refine Sh.oC 8 Try.func56 #[.slice A0_2 l0_2.length c0_2] fun K hK => ?_
  with_reducible refine (spec_l1Own.calls _ _ l0_2 t293 _ (Sh.cB HR0_2.out) HC0_2.out A3.out).mono ?_
  rintro e w10 ⟨v294, rfl, ho0, hb⟩
  refine ⟨_, rfl, ?_⟩
  replace HO292 := am_ (Kd.R_below (Sh.rl HO292.out) hb)
  have HO295 := am_ (Kd.R_lower ho0 (below_size Sh.bw))
  replace BK285 := Sh.ab BK285 hb
  replace BK286 := Sh.ab BK286 hb
  replace HB := Sh.hb hb
  (try clear hb)
  (try clear hb2)
  (try clear hk)
  (try clear hi)
  (try clear ho0)
  obtain ⟨Ao11, co11, eo11⟩ := Kd.R_slice HO295.out
  (first | subst eo11 | (injection eo11 with f1_ f2_ f3_; have f4_ := f1_.symm; have f5_ := f3_.symm; clear f1_ f2_ f3_; subst f4_; subst f5_))
  obtain ⟨Ao12, co12, eo12⟩ := Kd.R_slice HO292.out
  (first | subst eo12 | (injection eo12 with f1_ f2_ f3_; have f4_ := f1_.symm; have f5_ := f3_.symm; clear f1_ f2_ f3_; subst f4_; subst f5_))
  refine Sh.kN hK Sh.cs fun hHeld => ?_
  clear hK K
  refine Sh.qA 9 ?_
  refine one_ (i := 10) (N := none) (Sh.nm 11 2047) rfl rfl (one_of HT_.out (by kernel_rfl)) (by decide) (fun K hK => ?_)
  have hs13 : w10.cell? ⟨gb286, 0, none⟩ = some (.int .i64 0) := (blk_cell BK286.out 0).trans rfl
  have hfs13 := blk_frozen BK286.out 0
  have hns13_0 := NB285_286.out
  have hms13_0 := NB286_285.out
  have hs14 : w10.cell? ⟨gb286, 1, none⟩ = some (.slice none 0 0) := (blk_cell BK286.out 1).trans rfl
  have hfs14 := blk_frozen BK286.out 1
  have hns14_0 := NB285_286.out
  have hms14_0 := NB286_285.out
  have hs15 : w10.cell? ⟨gb286, 2, none⟩ = some (.slice none 0 0) := (blk_cell BK286.out 2).trans rfl
  have hfs15 := blk_frozen BK286.out 2
  have hns15_0 := NB285_286.out
  have hms15_0 := NB286_285.out
  refine skip_ (w1 := ?_) (by rfl) rfl ?_ ?_
  rotate_left
  ·go_simp
   rfl
  refine hK.out _ _ ⟨((cell_far (p := ⟨gb286, _, none⟩) NB285_286.out _).trans (((cell_far (p := ⟨gb286, _, none⟩) NB285_286.out _).trans (((cell_far (p := ⟨gb286, _, none⟩) NB285_286.out _).trans (hHeld.1)))))), ((cell_far (p := ⟨gb286, _, none⟩) NB285_286.out _).trans (((cell_far (p := ⟨gb286, _, none⟩) NB285_286.out _).trans (((cell_far (p := ⟨gb286, _, none⟩) NB285_286.out _).trans (hHeld.2.1)))))), ((cell_far (p := ⟨gb286, _, none⟩) NB285_286.out _).trans (((cell_far (p := ⟨gb286, _, none⟩) NB285_286.out _).trans (((cell_far (p := ⟨gb286, _, none⟩) NB285_286.out _).trans (hHeld.2.2))))))⟩ (fun hHeld => ?_)
  clear hK K
  refine done_ (done_of HT_.out (by kernel_rfl)) ?_
  try go_wp2
  refine bodyPost_ret (results_cell_row rfl _ _ gb286 27 #[.int .i64 a0_0, .slice Ao12 y290.length co12, .slice Ao11 t293.length co11] (0, 0) _ rfl (by refine Sh.pl ?_; refine blk_put (cs := #[.int .i64 a0_0, .slice Ao12 y290.length co12, .slice none 0 0]) ?_ 2 _ rfl; refine Sh.pl ?_; refine blk_put (cs := #[.int .i64 a0_0, .slice none 0 0, .slice none 0 0]) ?_ 1 _ rfl; refine Sh.pl ?_; refine blk_put (cs := #[.int .i64 0, .slice none 0 0, .slice none 0 0]) ?_ 0 _ rfl; refine Sh.pl ?_; exact BK286.out) Try.underlying27 rfl (by kernel_rfl)) rfl ?_
  exact ⟨_, _, by first | rfl | (simp [errW_none, errW_some] <;> rfl) | (simp [*, errW_none, errW_some] <;> rfl), Sh.rl (Kd.R_mono (Kd.R_far (p := ⟨gb286, 2, none⟩) (Kd.R_far (p := ⟨gb286, 1, none⟩) (Kd.R_far (p := ⟨gb286, 0, none⟩) (Kd.R_types HO292.out BK286.out (by decide)) (fun _ hk => hk.2) (.int .i64 a0_0)) (fun _ hk => hk.2) (.slice Ao12 y290.length co12)) (fun _ hk => hk.2) (.slice Ao11 t293.length co11)) (fun _ hk => trivial)), Sh.rl (Kd.R_mono (Kd.R_far (p := ⟨gb286, 2, none⟩) (Kd.R_far (p := ⟨gb286, 1, none⟩) (Kd.R_far (p := ⟨gb286, 0, none⟩) (Kd.R_types HO295.out BK286.out (by decide)) (fun _ hk => hk.2) (.int .i64 a0_0)) (fun _ hk => hk.2) (.slice Ao12 y290.length co12)) (fun _ hk => hk.2) (.slice Ao11 t293.length co11)) (fun _ hk => trivial)), Sh.bw⟩
 ·rw [if_neg c2] at H
  exact absurd H (by simp)
def spec_gate.f (ins : Int) (gs : List S66) (kind a b : Int) : Option (Int × List S66) := if gs.length < 5864062014805 then some (wrap64 (wrap64 (ins + ((gs ++ [(⟨kind, a, b⟩ : S66)]).length : Int)) - 1), gs ++ [(⟨kind, a, b⟩ : S66)]) else none
theorem spec_gate.calls (g : Nat) (ok : Nat → Prop) (ins : Int) (gs : List S66) (os : List Int) (kind a b r1 : Int) (r2 : List S66) (w0 w : World) (hI : IsG 64 ok w0 w g ins gs os) (hB : Below w0.heap.size w0 w) (h : spec_gate.f ins gs kind a b = some (r1, r2)) :
  Calls Try.prog 57 #[.pointer (some ⟨g, 0, none⟩), .int .i64 kind, .int .i64 a, .int .i64 b] w fun e w' => e = .returned (.int .i64 r1) ∧ IsG 64 ok w0 w' g ins r2 os ∧ Below w0.heap.size w0 w' ∧ KeepG w w' g := by
 have hu27 := Try.underlying27
 have hu64 := Try.underlying64
 have hu66 := Try.underlying66
 obtain ⟨A, c, A2, c2, bk, ge, ho, hs⟩ := hI
 have BK := am_ bk
 have GE := am_ ge
 have HO := am_ ho
 have HS := am_ hs
 have HL := am_ hB.size
 have HB := am_ hB
 clear bk ge ho hs hB
 have LM : gs.length < 5864062014805 := by
  rcases Nat.lt_or_ge gs.length 5864062014805 with h1 | h1
  · exact h1
  · rw [spec_gate.f, if_neg (by omega)] at h; cases h
 rw [spec_gate.f, if_pos LM] at h
 have LM := am_ LM
 simp only [Option.some.injEq, Prod.mk.injEq] at h
 obtain ⟨rfl, rfl⟩ := h
 go_enter Try.func57, Try.ntmps57
 obtain ⟨hcz1_0, hcz1_1, hcz1_2, hfz1_0, hfz1_1, hfz1_2⟩ := Sh.b3 BK.out
 have HK := am_ (KeepG.refl w g)
 obtain ⟨y, hy⟩ : ∃ y_ : List S66, y_ = gs ++ [(⟨kind, a, b⟩ : S66)] := ⟨_, rfl⟩
 rw [← hy]
 have Ny := am_ hy
 clear hy
 go_wp2_with (first | ((with_reducible refine gate_builtin (b := .append) (xs := #[.tmp 14, .tmp 19]) rfl ?_); at_builtin; refine Kd.R_append k66 w0.heap.size rfl (.tmp 14) (.tmp 19) 24 66 (.agg #[(.int .i64 0), (.int .i64 0), (.int .i64 0)]) 24 rfl Try.underlying24 info66 rfl (by decide) (by omega) (.slice A gs.length c) gs (⟨kind, a, b⟩ : S66) [.int .i64 kind, .int .i64 a, .int .i64 b] (fun _ => True) (fun _ => False) rfl rfl ?aP (fun _ hk => hk.elim) ?aF ?aO (Below.refl _ _) ?aS ?aL ?_; (case aP => exact k66_mkM _ _ _ (⟨kind, a, b⟩ : S66)); (case aF => exact (fun _ _ => trivial)); (case aO => exact (Sh.rl HO.out)); (case aS => exact HL.out); (case aL => have := LM.out; omega); intro v1 w1 ho hb hg hat; rw [← Ny.out] at ho; have n1_ := am_ (blk_grown (g := g) (o := .cells #[.int .i64 ins, .slice A gs.length c, .slice A2 os.length c2] 64 (0, 0)) (Sh.pl BK.out) hg (Kd.R_ne HO.out BK.out (by decide))); have n2_ := am_ (Kd.R_over' (Sh.rl HS.out) (Kd.R_typed (Sh.rl HO.out)) (by decide) hg); have n3_ := am_ (HB.out.trans hb); have n4_ := am_ (KeepG.of_grown hg (Kd.R_typed (Sh.rl HO.out)) g); clear BK; clear HS; clear HO; clear HB; clear HK; clear hcz1_0 hcz1_1 hcz1_2 hfz1_0 hfz1_1 hfz1_2; have BK := n1_; have HS := n2_; have HB := n3_; have HK := n4_; have HO := am_ ho; clear n1_ n2_ n3_ n4_; clear ho hb hg hat; obtain ⟨Ao, co, eo⟩ := Kd.R_slice HO.out; subst eo; obtain ⟨hcz1_0, hcz1_1, hcz1_2, hfz1_0, hfz1_1, hfz1_2⟩ := Sh.b3 BK.out))
 have hb2 := blk_put (cs := #[.int .i64 ins, .slice A gs.length c, .slice A2 os.length c2]) BK.out 1 (.slice Ao y.length co) rfl
 have ho2 : Kd.R k66 66 (w1.setCell ⟨g, 1, none⟩ (.slice Ao y.length co)) w0.heap.size (fun _ => True) (.slice Ao y.length co) y := Kd.R_mono (Kd.R_far (p := ⟨g, 1, none⟩) (Kd.R_types HO.out BK.out (by decide)) (fun _ hk => hk.2) _) (fun _ _ => trivial)
 have hs2 : Kd.R (Kd.int .i64) 3 (w1.setCell ⟨g, 1, none⟩ (.slice Ao y.length co)) w0.heap.size ok (.slice A2 os.length c2) os := Kd.R_mono (Kd.R_far (p := ⟨g, 1, none⟩) (Kd.R_types HS.out BK.out (by decide)) (fun _ hk => hk.2) _) (fun _ hk => hk.1)
 have HB2 := am_ (below_set (j := 1) (v := .slice Ao y.length co) HB.out GE.out)
 have HK2 := am_ (KeepG.set_ HK.out 1 (.slice Ao y.length co))
 clear HB HK BK HO HS hcz1_0 hcz1_1 hcz1_2 hfz1_0 hfz1_1 hfz1_2
 generalize w1.setCell ⟨g, 1, none⟩ (.slice Ao y.length co) = w2 at hb2 ho2 hs2 HB2 HK2 ⊢
 have HI2 : Aside0 (IsG 64 ok w0 w2 g ins y os) := ⟨⟨Ao, co, A2, c2, hb2, GE.out, ho2, hs2⟩⟩
 refine (spec_l4Wires.calls ins _ _ y _ _ os _ w2 (Kd.R_reads' ho2).2.2 (Kd.R_reads' ho2).2.1 (Kd.R_reads' hs2).2.2 (Kd.R_reads' hs2).2.1 rfl).mono ?_
 rintro e w3 ⟨rfl, hb3⟩
 go_wp2
 go_ret
 exact ⟨rfl, HI2.out.below hb3, below_step HB2.out hb3, HK2.out.trans (KeepG.of_below hb3 g)⟩

def spec_add.l0 : Nat → Int → List Int → List Int → Int → Int → Int → List Int → List S66 → Option (List Int × List S66)
 | 0, _, _, _, _, _, _, _, _ => none
 | k + 1, ins, a, b, n, i, carry, out, gs => if i < n then (if 0 ≤ i then (if i < (a.length : Int) then (if i < (b.length : Int) then ((spec_gate.f ins gs 5 (rd a i) (rd b i)).bind fun p0 => ((spec_gate.f ins p0.2 5 p0.1 carry).bind fun p1 => ((spec_gate.f ins p1.2 3 (rd a i) (rd b i)).bind fun p2 => ((spec_gate.f ins p2.2 3 p0.1 carry).bind fun p3 => ((spec_gate.f ins p3.2 4 p2.1 p3.1).bind fun p4 => (if out.length < 17592186044416 then ((spec_add.l0 k ins a b n (wrap64 (i + 1)) p4.1 (out ++ [p1.1]) p4.2)) else (none))))))) else (none)) else (none)) else (none)) else (some (out, gs))
def spec_add.f (k : Nat) (ins : Int) (gs : List S66) (a b : List Int) (carry : Int) : Option (List Int × List S66) := spec_add.l0 k ins a b (a.length : Int) 0 carry ([] : List Int) gs
theorem spec_add.mono_l : ∀ k, (∀ y0 y1 y2 y3 y4 y5 y6 y7, LeO (spec_add.l0 k y0 y1 y2 y3 y4 y5 y6 y7) (spec_add.l0 (k + 1) y0 y1 y2 y3 y4 y5 y6 y7))
 | 0 => fun _ _ _ _ _ _ _ _ r h => by simp [spec_add.l0] at h
 | k + 1 => by
  have ih0 := spec_add.mono_l k
  intro y0 y1 y2 y3 y4 y5 y6 y7
  unfold spec_add.l0
  repeat' with_reducible first | apply ih0 | exact LeO.refl _ | exact LeO.none _ | apply LeO.ite | refine LeO.bind ?_ fun _ => ?_
theorem spec_add.mono : ∀ a0 a1 a2 a3 a4 k, LeO (spec_add.f k a0 a1 a2 a3 a4) (spec_add.f (k + 1) a0 a1 a2 a3 a4) := by
 intro a0 a1 a2 a3 a4 k
 have ih0 := spec_add.mono_l k
 unfold spec_add.f
 repeat' with_reducible first | apply ih0 | exact LeO.refl _ | exact LeO.none _ | apply LeO.ite | refine LeO.bind ?_ fun _ => ?_
def spec_add.T : Bool × List (List Nat × List Nat) := (true, [([], []), ([], []), ([], []), ([1, 2], [1, 2]), ([3], [3]), ([], []), ([], []), ([5, 6], [5, 6]), ([7], [7]), ([0, 4, 8], [0, 4, 8]), ([9, 9, 0, 1, 2, 3, 4, 5, 6, 7, 8, 9], [9])])
def spec_add.B : List Nat := [0, 0, 0, 6, 14, 0, 0, 96, 224, 511, 1023]
theorem spec_add.tab5 : rtab .any (opsOf Try.f37 5) = spec_add.T := by kernel_rfl
theorem spec_add.tab7 : rtab .any (opsOf Try.f37 7) = spec_add.T := by kernel_rfl
theorem spec_add.bits : waitsOk spec_add.T.2 spec_add.B = true := by kernel_rfl
theorem spec_add.calls (k : Nat) (g : Nat) (ok : Nat → Prop) (ins : Int) (gs : List S66) (os : List Int) (A1 : Option Addr) (c1 : Nat) (l1 : List Int) (A2 : Option Addr) (c2 : Nat) (l2 : List Int) (a3 : Int) (r1 : List Int) (r2 : List S66) (w0 w : World) (hI : IsG 64 ok w0 w g ins gs os) (hB : Below w0.heap.size w0 w) (hr1 : Kd.C (Kd.int .i64) w0 A1 l1.length l1) (hr2 : Kd.C (Kd.int .i64) w0 A2 l2.length l2) (h : spec_add.f k ins gs l1 l2 a3 = some (r1, r2)) :
  Calls Try.prog 37 #[.pointer (some ⟨g, 0, none⟩), .slice A1 l1.length c1, .slice A2 l2.length c2, .int .i64 a3] w fun e w' => ∃ v : Value, e = .returned v ∧ Kd.R (Kd.int .i64) 3 w' w.heap.size (fun _ => True) v r1 ∧ IsG 64 (fun k => ok k ∧ k < w.heap.size) w0 w' g ins r2 os ∧ Below w0.heap.size w0 w' ∧ KeepG w w' g := by
 have HI := am_ (IsG.bound hI)
 have HB := am_ hB
 have HL := am_ hB.size
 have HK := am_ (KeepG.refl w g)
 have HR1 := am_ hr1
 have HR2 := am_ hr2
 clear hI hB hr1 hr2
 unfold spec_add.f at h
 have H' := am_ h
 clear h
 go_enter Try.func37, Try.ntmps37
 go_wp2
 go_loopg [3, 9, 17] k (fun kq v3 v9 v17 w' => ∃ (xi xc : Int) (xo : List Int) (xg : List S66), v3 = .int .i64 xc ∧ v17 = .int .i64 xi ∧ Aside0 (spec_add.l0 kq ins l1 l2 (l1.length : Int) xi xc xo xg = some (r1, r2)) ∧ Aside0 (kq ≤ k) ∧ Aside0 (Kd.R (Kd.int .i64) 3 w' w.heap.size (fun _ => True) v9 xo) ∧ Aside0 (IsG 64 (fun k => ok k ∧ k < w.heap.size) w0 w' g ins xg os) ∧ Aside0 (KeepG w w' g) ∧ Aside0 (Below w0.heap.size w0 w'))
 case atStart => exact ⟨0, a3, [], gs, rfl, rfl, H', ⟨Nat.le_refl _⟩, ⟨Kd.R_nil _ _ _ _ _⟩, ⟨by repeat (first | (with_reducible first | exact HI.out | apply IsG.alloc | apply IsG.drewN | apply IsG.drew) | exact HI.out)⟩, ⟨by first | exact HK.out | exact KeepG.alloc HK.out _⟩, ⟨by repeat (first | (with_reducible first | exact HB.out | apply below_alloc | apply pw_below_drewN | apply below_drew1) | exact HB.out | with_reducible refine Below.alloc ?_ (by first | exact HL.out | exact Nat.le_trans HL.out HK.out.1) _)⟩⟩
 case round =>
  clear H'
  obtain ⟨xi, xc, xo, xg, rfl, rfl, HA, HK1, HO, HI, HK, HB⟩ := hrel
  cases gk with
  | zero => exact absurd HA.out (by simp [spec_add.l0])
  | succ k1 =>
   have H := HA.out
   clear HA
   simp only [spec_add.l0] at H
   by_cases c4 : xi < (l1.length : Int)
   ·rw [if_pos c4] at H
    have c4b0 := decide_eq_true c4
    by_cases c5 : 0 ≤ xi
    ·rw [if_pos c5, if_pos c4] at H
     by_cases c6 : xi < (l2.length : Int)
     ·rw [if_pos c6] at H
      obtain ⟨⟨xx, gx⟩, Fx, H⟩ := Sh.ba H
      obtain ⟨⟨xs, gs⟩, Fs, H⟩ := Sh.ba H
      obtain ⟨⟨xp, gp⟩, Fp, H⟩ := Sh.ba H
      obtain ⟨⟨xq, gq⟩, Fq, H⟩ := Sh.ba H
      obtain ⟨⟨xu, gu⟩, Fu, H⟩ := Sh.ba H
      by_cases c7 : xo.length < 17592186044416
      ·rw [if_pos c7] at H
       have LM := am_ c7
       obtain ⟨yo, hyo⟩ : ∃ y_ : List Int, y_ = xo ++ [xs] := ⟨_, rfl⟩
       rw [← hyo] at H
       have Ny := am_ hyo
       clear hyo
       have H' := am_ H
       clear H
       obtain ⟨ad1, e1, hx1⟩ := Kd.at_int HR1.out xi c5 c4
       subst e1
       obtain ⟨ad2, e2, hx2⟩ := Kd.at_int HR2.out xi c5 c6
       subst e2
       go_wp2
       refine start_ (n := 11) (S := fun w' => w'.cell? (ad1.add xi.toNat) = some (.int .i64 (rd l1 xi)) ∧ w'.cell? (ad2.add xi.toNat) = some (.int .i64 (rd l2 xi))) (ds := []) (Sh.nm 11 0) (by kernel_rfl) rfl rfl ⟨(HB.out.cell (World.block_lt_of_cell? w0 _ hx1)).trans hx1, (HB.out.cell (World.block_lt_of_cell? w0 _ hx2)).trans hx2⟩ (fun hHeld => ?_)
       refine with_tabW spec_add.tab5 spec_add.bits (fun HT_ HW_ => ?_)
       refine Sh.qA 0 ?_; refine Sh.qA 1 ?_; refine Sh.qA 2 ?_; refine Sh.qA 3 ?_; refine Sh.qT 4 hHeld ?_; refine Sh.qA 5 ?_; refine Sh.qA 6 ?_; refine Sh.qA 7 ?_; refine Sh.qT 8 hHeld ?_
       refine Sh.oC 9 Try.func57 #[.pointer (some ⟨g, 0, none⟩), .int .i64 5, .int .i64 (rd l1 xi), .int .i64 (rd l2 xi)] fun K hK => ?_
       (with_reducible refine (spec_gate.calls g (fun k => ok k ∧ k < w.heap.size) ins xg os 5 (rd l1 xi) (rd l2 xi) xx gx w0 _ ?side1 ?side2 Fx.out).mono ?_)
       (case side1 => repeat (first | (with_reducible first | exact HI.out | apply IsG.alloc | apply IsG.drewN | apply IsG.drew) | exact HI.out))
       (case side2 => repeat (first | (with_reducible first | exact HB.out | apply below_alloc | apply pw_below_drewN | apply below_drew1) | exact HB.out | with_reducible refine Below.alloc ?_ (by first | exact HL.out | exact Nat.le_trans HL.out HK.out.1) _))
       rintro e wx ⟨rfl, hi, hb, hk⟩
       refine ⟨_, rfl, ?_⟩
       have n1_ := am_ (IsG.row (show IsG 64 (fun k => ok k ∧ k < w.heap.size) w0 _ g ins xg os from by repeat (first | (with_reducible first | exact HI.out | apply IsG.alloc | apply IsG.drewN | apply IsG.drew) | exact HI.out)) (by first | exact HO.out | exact Sh.rl HO.out) hk (by decide))
       have n2_ := am_ ((by first | exact KeepG.trans HK.out hk | exact KeepG.trans (KeepG.alloc HK.out _) hk) : KeepG w wx g)
       clear HI HB HK HO
       have HI := am_ hi
       have HB := am_ hb
       have HK := n2_
       have HO := n1_
       clear hi hb hk n2_ n1_
       refine Sh.kN hK ⟨(HB.out.cell (World.block_lt_of_cell? w0 _ hx1)).trans hx1, (HB.out.cell (World.block_lt_of_cell? w0 _ hx2)).trans hx2⟩ fun hHeld => ?_
       clear hK K
       refine Sh.qA 10 ?_
       refine done_ (done_of HT_.out (by kernel_rfl)) ?_
       go_wp2_with (first | (go_at_call 57; (with_reducible refine (spec_gate.calls g (fun k => ok k ∧ k < w.heap.size) ins gx os 5 xx xc xs gs w0 _ ?side1 ?side2 Fs.out).mono ?_); (case side1 => repeat (first | (with_reducible first | exact HI.out | apply IsG.alloc | apply IsG.drewN | apply IsG.drew) | exact HI.out)); (case side2 => repeat (first | (with_reducible first | exact HB.out | apply below_alloc | apply pw_below_drewN | apply below_drew1) | exact HB.out | with_reducible refine Below.alloc ?_ (by first | exact HL.out | exact Nat.le_trans HL.out HK.out.1) _)); rintro e ws ⟨rfl, hi, hb, hk⟩; have n1_ := am_ (IsG.row (show IsG 64 (fun k => ok k ∧ k < w.heap.size) w0 _ g ins gx os from by repeat (first | (with_reducible first | exact HI.out | apply IsG.alloc | apply IsG.drewN | apply IsG.drew) | exact HI.out)) (by first | exact HO.out | exact Sh.rl HO.out) hk (by decide)); have n2_ := am_ ((by first | exact KeepG.trans HK.out hk | exact KeepG.trans (KeepG.alloc HK.out _) hk) : KeepG w ws g); clear HI HB HK HO; have HI := am_ hi; have HB := am_ hb; have HK := n2_; have HO := n1_; clear hi hb hk n2_ n1_))
       refine start_ (n := 11) (S := fun w' => w'.cell? (ad1.add xi.toNat) = some (.int .i64 (rd l1 xi)) ∧ w'.cell? (ad2.add xi.toNat) = some (.int .i64 (rd l2 xi))) (ds := []) (Sh.nm 11 0) (by kernel_rfl) rfl rfl ⟨(HB.out.cell (World.block_lt_of_cell? w0 _ hx1)).trans hx1, (HB.out.cell (World.block_lt_of_cell? w0 _ hx2)).trans hx2⟩ (fun hHeld => ?_)
       refine with_tabW spec_add.tab7 spec_add.bits (fun HT_ HW_ => ?_)
       refine Sh.qA 0 ?_; refine Sh.qA 1 ?_; refine Sh.qA 2 ?_; refine Sh.qA 3 ?_; refine Sh.qT 4 hHeld ?_; refine Sh.qA 5 ?_; refine Sh.qA 6 ?_; refine Sh.qA 7 ?_; refine Sh.qT 8 hHeld ?_
       refine Sh.oC 9 Try.func57 #[.pointer (some ⟨g, 0, none⟩), .int .i64 3, .int .i64 (rd l1 xi), .int .i64 (rd l2 xi)] fun K hK => ?_
       (with_reducible refine (spec_gate.calls g (fun k => ok k ∧ k < w.heap.size) ins gs os 3 (rd l1 xi) (rd l2 xi) xp gp w0 _ ?side1 ?side2 Fp.out).mono ?_)
       (case side1 => repeat (first | (with_reducible first | exact HI.out | apply IsG.alloc | apply IsG.drewN | apply IsG.drew) | exact HI.out))
       (case side2 => repeat (first | (with_reducible first | exact HB.out | apply below_alloc | apply pw_below_drewN | apply below_drew1) | exact HB.out | with_reducible refine Below.alloc ?_ (by first | exact HL.out | exact Nat.le_trans HL.out HK.out.1) _))
       rintro e wp ⟨rfl, hi, hb, hk⟩
       refine ⟨_, rfl, ?_⟩
       have n1_ := am_ (IsG.row (show IsG 64 (fun k => ok k ∧ k < w.heap.size) w0 _ g ins gs os from by repeat (first | (with_reducible first | exact HI.out | apply IsG.alloc | apply IsG.drewN | apply IsG.drew) | exact HI.out)) (by first | exact HO.out | exact Sh.rl HO.out) hk (by decide))
       have n2_ := am_ ((by first | exact KeepG.trans HK.out hk | exact KeepG.trans (KeepG.alloc HK.out _) hk) : KeepG w wp g)
       clear HI HB HK HO
       have HI := am_ hi
       have HB := am_ hb
       have HK := n2_
       have HO := n1_
       clear hi hb hk n2_ n1_
       refine Sh.kN hK ⟨(HB.out.cell (World.block_lt_of_cell? w0 _ hx1)).trans hx1, (HB.out.cell (World.block_lt_of_cell? w0 _ hx2)).trans hx2⟩ fun hHeld => ?_
       clear hK K
       refine Sh.qA 10 ?_
       refine done_ (done_of HT_.out (by kernel_rfl)) ?_
       go_wp2_with (first | (go_at_call 57; (with_reducible refine (spec_gate.calls g (fun k => ok k ∧ k < w.heap.size) ins gp os 3 xx xc xq gq w0 _ ?side1 ?side2 Fq.out).mono ?_); (case side1 => repeat (first | (with_reducible first | exact HI.out | apply IsG.alloc | apply IsG.drewN | apply IsG.drew) | exact HI.out)); (case side2 => repeat (first | (with_reducible first | exact HB.out | apply below_alloc | apply pw_below_drewN | apply below_drew1) | exact HB.out | with_reducible refine Below.alloc ?_ (by first | exact HL.out | exact Nat.le_trans HL.out HK.out.1) _)); rintro e wq ⟨rfl, hi, hb, hk⟩; have n1_ := am_ (IsG.row (show IsG 64 (fun k => ok k ∧ k < w.heap.size) w0 _ g ins gp os from by repeat (first | (with_reducible first | exact HI.out | apply IsG.alloc | apply IsG.drewN | apply IsG.drew) | exact HI.out)) (by first | exact HO.out | exact Sh.rl HO.out) hk (by decide)); have n2_ := am_ ((by first | exact KeepG.trans HK.out hk | exact KeepG.trans (KeepG.alloc HK.out _) hk) : KeepG w wq g); clear HI HB HK HO; have HI := am_ hi; have HB := am_ hb; have HK := n2_; have HO := n1_; clear hi hb hk n2_ n1_) | (go_at_call 57; (with_reducible refine (spec_gate.calls g (fun k => ok k ∧ k < w.heap.size) ins gq os 4 xp xq xu gu w0 _ ?side1 ?side2 Fu.out).mono ?_); (case side1 => repeat (first | (with_reducible first | exact HI.out | apply IsG.alloc | apply IsG.drewN | apply IsG.drew) | exact HI.out)); (case side2 => repeat (first | (with_reducible first | exact HB.out | apply below_alloc | apply pw_below_drewN | apply below_drew1) | exact HB.out | with_reducible refine Below.alloc ?_ (by first | exact HL.out | exact Nat.le_trans HL.out HK.out.1) _)); rintro e wu ⟨rfl, hi, hb, hk⟩; have n1_ := am_ (IsG.row (show IsG 64 (fun k => ok k ∧ k < w.heap.size) w0 _ g ins gq os from by repeat (first | (with_reducible first | exact HI.out | apply IsG.alloc | apply IsG.drewN | apply IsG.drew) | exact HI.out)) (by first | exact HO.out | exact Sh.rl HO.out) hk (by decide)); have n2_ := am_ ((by first | exact KeepG.trans HK.out hk | exact KeepG.trans (KeepG.alloc HK.out _) hk) : KeepG w wu g); clear HI HB HK HO; have HI := am_ hi; have HB := am_ hb; have HK := n2_; have HO := n1_; clear hi hb hk n2_ n1_) | ((with_reducible refine gate_builtin (b := .append) (xs := #[.tmp 52, .tmp 54]) rfl ?_); at_builtin; refine Kd.R_append (Kd.int .i64) w.heap.size rfl (.tmp 52) (.tmp 54) 25 3 (.int .i64 0) 8 rfl Try.underlying25 info3 rfl (by decide) (by omega) u9 xo xs [.int .i64 xs] (fun _ => True) (fun _ => False) rfl rfl ?aP (fun _ hk => hk.elim) ?aF ?aO (Below.refl _ _) ?aS ?aL ?_; (case aP => exact rfl); (case aF => exact (fun _ _ => trivial)); (case aO => exact (Sh.rl HO.out)); (case aS => exact HK.out.1); (case aL => have := LM.out; omega); intro v1 w1 ho hb hg hat; rw [← Ny.out] at ho; have n1_ := am_ (IsG.grown (by repeat (first | (with_reducible first | exact HI.out | apply IsG.alloc | apply IsG.drewN | apply IsG.drew) | exact HI.out)) hg (Kd.R_typed (Sh.rl HO.out)) (fun k_ (hk_ : ok k_ ∧ k_ < w.heap.size) => base_ne (Kd.R_base2 HO.out) hk_.2) (by decide)); have n2_ := am_ (below_weaken (by repeat (first | (with_reducible first | exact HB.out | apply below_alloc | apply pw_below_drewN | apply below_drew1) | exact HB.out | with_reducible refine Below.alloc ?_ (by first | exact HL.out | exact Nat.le_trans HL.out HK.out.1) _)) HL.out hb); have n3_ := am_ (KeepG.own HK.out hg (Kd.R_base2 HO.out)); clear HI HB HK HO; have HI := n1_; have HB := n2_; have HK := n3_; have HO := am_ ho; clear n1_ n2_ n3_ ho hb hg hat))
       go_roundg k1
       case measure => have := HK1.out; omega
       case rel => exact ⟨(wrap64 (xi + 1)), _, _, _, rfl, rfl, H', ⟨by have := HK1.out; omega⟩, ⟨HO.out⟩, ⟨HI.out⟩, ⟨HK.out⟩, ⟨HB.out⟩⟩
      ·rw [if_neg c7] at H
       exact absurd H (by simp)
     ·rw [if_neg c6] at H
      exact absurd H (by simp)
    ·rw [if_neg c5] at H
     exact absurd H (by simp)
   ·rw [if_neg c4] at H
    have c4b0 := decide_eq_false c4
    simp only [Option.some.injEq, Prod.mk.injEq] at H
    obtain ⟨rfl, rfl⟩ := H
    go_wp2
    go_ret
    exact ⟨_, Sh.eR, HO.out, HI.out, HB.out, HK.out⟩

def spec_AddGates.f (k : Nat) (a0_0 : Int) (l0_1 : List S66) (l0_2 : List Int) (l1 l2 : List Int) (a3 : Int) : Option (Int × List S66 × List Int × List Int × Bool) :=
 (spec_l4Lists.f k a0_0 l0_1 l0_2 l1 l2).bind fun t1 => (if t1 = true then ((spec_l4Wires.f a0_0 l0_1 l0_2).bind fun t2 => ((spec_l1In.f a3 0 (wrap64 (t2 - 1))).bind fun t3 => (if t3 = true then ((spec_l4Own.f a0_0 l0_1 l0_2).bind fun c => ((spec_add.f k c.1 c.2.1 l1 l2 a3).bind fun p => ((spec_GoodCircuit.f k c.1 p.2 c.2.2).bind fun t4 => (if t4 = true then (some (c.1, p.2, c.2.2, p.1, true)) else (some (0, [], [], [], false)))))) else (some (0, [], [], [], false))))) else (some (0, [], [], [], false)))
theorem spec_AddGates.mono : ∀ a0 a1 a2 a3 a4 a5 k, LeO (spec_AddGates.f k a0 a1 a2 a3 a4 a5) (spec_AddGates.f (k + 1) a0 a1 a2 a3 a4 a5) := by
 intro a0 a1 a2 a3 a4 a5 k
 unfold spec_AddGates.f
 repeat' with_reducible first | apply spec_l4Lists.mono | apply spec_add.mono | apply spec_GoodCircuit.mono | exact LeO.refl _ | exact LeO.none _ | apply LeO.ite | refine LeO.bind ?_ fun _ => ?_
theorem spec_AddGates.calls (k : Nat) (a0_0 : Int) (A0_1 : Option Addr) (c0_1 : Nat) (l0_1 : List (S66)) (A0_2 : Option Addr) (c0_2 : Nat) (l0_2 : List Int) (A1 : Option Addr) (c1 : Nat) (l1 : List Int) (A2 : Option Addr) (c2 : Nat) (l2 : List Int) (a3 : Int) (r1 : Int) (r2 : List (S66)) (r3 : List Int) (r4 : List Int) (r5 : Bool) (w : World) (hr0_1 : Kd.C k66 w A0_1 l0_1.length l0_1) (hc0_1 : l0_1.length ≤ c0_1) (hr0_2 : Kd.C (Kd.int .i64) w A0_2 l0_2.length l0_2) (hc0_2 : l0_2.length ≤ c0_2) (hr1 : Kd.C (Kd.int .i64) w A1 l1.length l1) (hc1 : l1.length ≤ c1) (hr2 : Kd.C (Kd.int .i64) w A2 l2.length l2) (hc2 : l2.length ≤ c2) (h : spec_AddGates.f k a0_0 l0_1 l0_2 l1 l2 a3 = some (r1, r2, r3, r4, r5)) :
  Calls Try.prog 8 #[.agg #[.int .i64 a0_0, .slice A0_1 l0_1.length c0_1, .slice A0_2 l0_2.length c0_2], .slice A1 l1.length c1, .slice A2 l2.length c2, .int .i64 a3] w fun e w' => ∃ v1_ v2_ v3_ : Value, e = .returned (.tuple #[.agg #[.int .i64 r1, v1_, v2_], v3_, .bool r5]) ∧ Kd.R k66 66 w' w.heap.size (fun _ => True) v1_ r2 ∧ Kd.R (Kd.int .i64) 3 w' w.heap.size (fun k_ => some k_ ≠ (v3_ : Value).ownBlock) v2_ r3 ∧ Kd.R (Kd.int .i64) 3 w' w.heap.size (fun k_ => some k_ ≠ (v2_ : Value).ownBlock) v3_ r4 ∧ Below w.heap.size w w' := by
 have hu27 := Try.underlying27
 have hu64 := Try.underlying64
 have HR0_1 := am_ hr0_1
 have HC0_1 := am_ hc0_1
 have HR0_2 := am_ hr0_2
 have HC0_2 := am_ hc0_2
 have HR1 := am_ hr1
 have HC1 := am_ hc1
 have HR2 := am_ hr2
 have HC2 := am_ hc2
 clear hr0_1 hc0_1 hr0_2 hc0_2 hr1 hc1 hr2 hc2
 have HB := am_ (Below.refl w.heap.size w)
 have H := h
 clear h
 unfold spec_AddGates.f at H
 obtain ⟨t1, A1_, H⟩ := Sh.ba H
 by_cases b1_ : t1 = true
 ·subst b1_
  rw [if_pos rfl] at H
  obtain ⟨t2, A2_, H⟩ := Sh.ba H
  obtain ⟨t3, A3_, H⟩ := Sh.ba H
  by_cases b3_ : t3 = true
  ·subst b3_
   rw [if_pos rfl] at H
   obtain ⟨⟨q1, q2, q3⟩, A4_, H⟩ := Sh.ba H
   obtain ⟨⟨s1, s2⟩, A5_, H⟩ := Sh.ba H
   obtain ⟨t4, A6_, H⟩ := Sh.ba H
   by_cases b4_ : t4 = true
   ·subst b4_
    rw [if_pos rfl] at H
    simp only [Option.some.injEq, Prod.mk.injEq] at H
    obtain ⟨rfl, rfl, rfl, rfl, rfl⟩ := H
    go_enter Try.func8, Try.ntmps8
    go_wp2_with (first | ((with_reducible refine Sh.d 4 ?_); refine Sh.bz w (N := 4) (cs := #[.int .i64 a0_0, .slice A0_1 l0_1.length c0_1, .slice A0_2 l0_2.length c0_2]) (t := 27) (h := ?_); clear HB; intro gb4 w4 BK4 GE4 HB) | ((with_reducible refine Sh.d 8 ?_); refine Sh.bx (N := 8) (cs := #[.int .i64 0, .slice none 0 0, .slice none 0 0]) (t := 27) (h := ?_); intro gb8 hg w5 hbox hb; have BK8 := am_ hbox; have GE8 := Sh.ag w hg; replace HB := Sh.hb hb; replace BK4 := Sh.ab BK4 hb; clear hb hbox hg; obtain ⟨hcz1_0, hcz1_1, hcz1_2, hfz1_0, hfz1_1, hfz1_2⟩ := Sh.b3 BK4.out) | (go_at_call 34; (with_reducible refine (spec_l4Lists.calls k a0_0 _ _ l0_1 _ _ l0_2 _ _ l1 _ _ l2 true _ (Sh.cB HR0_1.out) HC0_1.out (Sh.cB HR0_2.out) HC0_2.out (Sh.cB HR1.out) HC1.out (Sh.cB HR2.out) HC2.out A1_.out).mono ?_); rintro e w6 ⟨rfl, hb⟩; replace BK4 := Sh.ab BK4 hb; replace BK8 := Sh.ab BK8 hb; replace HB := Sh.hb hb; clear hb; clear hcz1_0 hcz1_1 hcz1_2 hfz1_0 hfz1_1 hfz1_2; obtain ⟨hcz1_0, hcz1_1, hcz1_2, hfz1_0, hfz1_1, hfz1_2⟩ := Sh.b3 BK4.out) | (go_at_call 28; (with_reducible refine (spec_l4Wires.calls a0_0 _ _ l0_1 _ _ l0_2 t2 _ (Sh.cB HR0_1.out) HC0_1.out (Sh.cB HR0_2.out) HC0_2.out A2_.out).mono ?_); rintro e w8 ⟨rfl, hb⟩; replace BK4 := Sh.ab BK4 hb; replace BK8 := Sh.ab BK8 hb; replace HB := Sh.hb hb; clear hb; clear hcz1_0 hcz1_1 hcz1_2 hfz1_0 hfz1_1 hfz1_2; obtain ⟨hcz1_0, hcz1_1, hcz1_2, hfz1_0, hfz1_1, hfz1_2⟩ := Sh.b3 BK4.out) | (go_at_call 35; (with_reducible refine (spec_l1In.calls a3 0 (wrap64 (t2 - 1)) true _ A3_.out).mono ?_); rintro e w9 ⟨rfl, hd_⟩; have hb : Below w8.heap.size w8 w9 := (by (obtain ⟨nd_, hw_⟩ := hd_; rw [hw_]; apply pw_below_drewN; exact Below.refl _ _)); clear hd_; replace BK4 := Sh.ab BK4 hb; replace BK8 := Sh.ab BK8 hb; replace HB := Sh.hb hb; clear hb; clear hcz1_0 hcz1_1 hcz1_2 hfz1_0 hfz1_1 hfz1_2; obtain ⟨hcz1_0, hcz1_1, hcz1_2, hfz1_0, hfz1_1, hfz1_2⟩ := Sh.b3 BK4.out) | (go_at_call 36; (with_reducible refine (spec_l4Own.calls a0_0 _ _ l0_1 _ _ l0_2 q1 q2 q3 _ (Sh.cB HR0_1.out) HC0_1.out (Sh.cB HR0_2.out) HC0_2.out A4_.out).mono ?_); rintro e w10 ⟨v1, v2, rfl, ho1, ho2, hb⟩; have HO1 := am_ (Kd.R_lower ho1 (below_size Sh.bw)); have HO2 := am_ (Kd.R_lower ho2 (below_size Sh.bw)); replace BK8 := Sh.ab BK8 hb; replace HB := Sh.hb hb; clear hb ho1 ho2 BK4; obtain ⟨Ao1, co1, eo1⟩ := Kd.R_slice HO1.out; subst eo1; obtain ⟨Ao2, co2, eo2⟩ := Kd.R_slice HO2.out; subst eo2; clear hcz1_0 hcz1_1 hcz1_2 hfz1_0 hfz1_1 hfz1_2) | ((with_reducible refine Sh.d 30 ?_); refine Sh.bx (N := 30) (cs := #[.int .i64 q1, .slice Ao1 q2.length co1, .slice Ao2 q3.length co2]) (t := 64) (h := ?_); intro gs_ hg w11 hbox hb; have BKs := am_ hbox; have GEs := Sh.ag w hg; replace HB := Sh.hb hb; have NB8_s := am_ (Sh.nl hg BK8.out); have NBs_8 := am_ (Sh.ng hg BK8.out); replace BK8 := Sh.ab BK8 hb; have n1_ := am_ (Kd.R_below (Sh.rl HO1.out) hb); have n2_ := am_ (Kd.R_below (Sh.rl HO2.out) hb); clear HO1 HO2; have HO1 := n1_; have HO2 := n2_; clear n1_ n2_ hb hbox hg; obtain ⟨hcz1_0, hcz1_1, hcz1_2, hfz1_0, hfz1_1, hfz1_2⟩ := Sh.b3 BKs.out) | (go_at_call 37; have hb3 := BKs.out; have ho1 := HO1.out; have ho2 := HO2.out; have hB3 := HB.out; have hr8 := BK8.out; have hI : IsG 64 (fun _ => True) w _ gs_ q1 q2 q3 := ⟨Ao1, co1, Ao2, co2, hb3, GEs.out, ho1, ho2⟩; (with_reducible refine (spec_add.calls k gs_ (fun _ => True) q1 q2 q3 _ _ l1 _ _ l2 a3 s1 s2 w _ hI hB3 HR1.out HR2.out A5_.out).mono ?_); rintro e w12 ⟨v3, rfl, ho3, hi, hb, hk⟩; have n1_ := am_ (KeepG.blk hk hr8 NB8_s.out (by decide)); obtain ⟨Ap1, cp1, Ap2, cp2, bs, ge_, og, oo⟩ := hi; have HO3 := am_ (Kd.R_lower (Kd.R_mono (Kd.R_bound ho3) (ok' := fun k_ => some k_ ≠ (Value.slice Ap2 q3.length cp2).ownBlock) (fun k_ hk_ e_ => absurd (oo.1 k_ e_.symm).2 (Nat.not_lt.2 hk_.2.1))) hB3.size); clear HO1 HO2 HB BKs BK8 hb3 ho1 ho2 hB3 hr8 hI hk; have BK8 := n1_; have BKs := am_ bs; have HO1 := am_ og; have HO2 := am_ (Kd.R_mono oo (ok' := fun k_ => some k_ ≠ v3.ownBlock) (fun k_ hk_ => base_ne (Kd.R_base2 ho3) hk_.2)); have HB := am_ hb; clear n1_ bs ge_ og oo hb; clear hcz1_0 hcz1_1 hcz1_2 hfz1_0 hfz1_1 hfz1_2; obtain ⟨hcz1_0, hcz1_1, hcz1_2, hfz1_0, hfz1_1, hfz1_2⟩ := Sh.b3 BKs.out) | (go_at_call 12; (refine (spec_GoodCircuit.calls k q1 _ _ s2 _ _ q3 true _ (Kd.R_reads' HO1.out).2.2 (Kd.R_reads' HO1.out).2.1 (Kd.R_reads' HO2.out).2.2 (Kd.R_reads' HO2.out).2.1 A6_.out).mono ?_); rintro e w13 ⟨rfl, hb⟩; replace HO1 := am_ (Kd.R_below HO1.out hb); replace HO2 := am_ (Kd.R_below HO2.out hb); replace HO3 := am_ (Kd.R_below HO3.out hb); replace BK8 := Sh.ab BK8 hb; replace BKs := Sh.ab BKs hb; replace HB := Sh.hb hb; clear hb; clear hcz1_0 hcz1_1 hcz1_2 hfz1_0 hfz1_1 hfz1_2; obtain ⟨hcz1_0, hcz1_1, hcz1_2, hfz1_0, hfz1_1, hfz1_2⟩ := Sh.b3 BKs.out; obtain ⟨hdz1_0, hdz1_1, hdz1_2, hgz1_0, hgz1_1, hgz1_2⟩ := Sh.b3 BK8.out))
    refine bodyPost_ret (results_list (rs := [.cell 8 27, .tmp 9, .tmp 10]) rfl (by simp) (.cell gb8 27 #[.int .i64 q1, .slice Ap1 s2.length cp1, .slice Ap2 q3.length cp2] (0, 0) _ rfl (by refine Sh.pl ?_; refine blk_put (cs := #[.int .i64 q1, .slice Ap1 s2.length cp1, .slice none 0 0]) ?_ 2 _ rfl; refine Sh.pl ?_; refine blk_put (cs := #[.int .i64 q1, .slice none 0 0, .slice none 0 0]) ?_ 1 _ rfl; refine Sh.pl ?_; refine blk_put (cs := #[.int .i64 0, .slice none 0 0, .slice none 0 0]) ?_ 0 _ rfl; refine Sh.pl ?_; exact BK8.out) Try.underlying27 rfl (by kernel_rfl) (.tmp (.tmp .nil)))) rfl ?_
    exact ⟨_, _, _, rfl, (Kd.R_mono (Kd.R_far (p := ⟨gb8, 2, none⟩) (Kd.R_far (p := ⟨gb8, 1, none⟩) (Kd.R_far (p := ⟨gb8, 0, none⟩) (Kd.R_types HO1.out BK8.out (by decide)) (fun _ hk => hk.2) (.int .i64 q1)) (fun _ hk => hk.2) (.slice Ap1 s2.length cp1)) (fun _ hk => hk.2) (.slice Ap2 q3.length cp2)) (fun _ hk => trivial)), (Kd.R_mono (Kd.R_far (p := ⟨gb8, 2, none⟩) (Kd.R_far (p := ⟨gb8, 1, none⟩) (Kd.R_far (p := ⟨gb8, 0, none⟩) (Kd.R_types HO2.out BK8.out (by decide)) (fun _ hk => hk.2) (.int .i64 q1)) (fun _ hk => hk.2) (.slice Ap1 s2.length cp1)) (fun _ hk => hk.2) (.slice Ap2 q3.length cp2)) (fun _ hk => hk.1)), (Kd.R_mono (Kd.R_far (p := ⟨gb8, 2, none⟩) (Kd.R_far (p := ⟨gb8, 1, none⟩) (Kd.R_far (p := ⟨gb8, 0, none⟩) (Kd.R_types HO3.out BK8.out (by decide)) (fun _ hk => hk.2) (.int .i64 q1)) (fun _ hk => hk.2) (.slice Ap1 s2.length cp1)) (fun _ hk => hk.2) (.slice Ap2 q3.length cp2)) (fun _ hk => hk.1)), (below_set (below_set (below_set HB.out GE8.out) GE8.out) GE8.out)⟩
   ·replace b4_ := Bool.eq_false_iff.mpr b4_
    subst b4_
    rw [Sh.nf] at H
    simp only [Option.some.injEq, Prod.mk.injEq] at H
    obtain ⟨rfl, rfl, rfl, rfl, rfl⟩ := H
    go_enter Try.func8, Try.ntmps8
    go_wp2_with (first | ((with_reducible refine Sh.d 4 ?_); refine Sh.bz w (N := 4) (cs := #[.int .i64 a0_0, .slice A0_1 l0_1.length c0_1, .slice A0_2 l0_2.length c0_2]) (t := 27) (h := ?_); clear HB; intro gb4 w4 BK4 GE4 HB) | ((with_reducible refine Sh.d 8 ?_); refine Sh.bx (N := 8) (cs := #[.int .i64 0, .slice none 0 0, .slice none 0 0]) (t := 27) (h := ?_); intro gb8 hg w5 hbox hb; have BK8 := am_ hbox; have GE8 := Sh.ag w hg; replace HB := Sh.hb hb; replace BK4 := Sh.ab BK4 hb; clear hb hbox hg; obtain ⟨hcz1_0, hcz1_1, hcz1_2, hfz1_0, hfz1_1, hfz1_2⟩ := Sh.b3 BK4.out) | (go_at_call 34; (with_reducible refine (spec_l4Lists.calls k a0_0 _ _ l0_1 _ _ l0_2 _ _ l1 _ _ l2 true _ (Sh.cB HR0_1.out) HC0_1.out (Sh.cB HR0_2.out) HC0_2.out (Sh.cB HR1.out) HC1.out (Sh.cB HR2.out) HC2.out A1_.out).mono ?_); rintro e w6 ⟨rfl, hb⟩; replace BK4 := Sh.ab BK4 hb; replace BK8 := Sh.ab BK8 hb; replace HB := Sh.hb hb; clear hb; clear hcz1_0 hcz1_1 hcz1_2 hfz1_0 hfz1_1 hfz1_2; obtain ⟨hcz1_0, hcz1_1, hcz1_2, hfz1_0, hfz1_1, hfz1_2⟩ := Sh.b3 BK4.out) | (go_at_call 28; (with_reducible refine (spec_l4Wires.calls a0_0 _ _ l0_1 _ _ l0_2 t2 _ (Sh.cB HR0_1.out) HC0_1.out (Sh.cB HR0_2.out) HC0_2.out A2_.out).mono ?_); rintro e w8 ⟨rfl, hb⟩; replace BK4 := Sh.ab BK4 hb; replace BK8 := Sh.ab BK8 hb; replace HB := Sh.hb hb; clear hb; clear hcz1_0 hcz1_1 hcz1_2 hfz1_0 hfz1_1 hfz1_2; obtain ⟨hcz1_0, hcz1_1, hcz1_2, hfz1_0, hfz1_1, hfz1_2⟩ := Sh.b3 BK4.out) | (go_at_call 35; (with_reducible refine (spec_l1In.calls a3 0 (wrap64 (t2 - 1)) true _ A3_.out).mono ?_); rintro e w9 ⟨rfl, hd_⟩; have hb : Below w8.heap.size w8 w9 := (by (obtain ⟨nd_, hw_⟩ := hd_; rw [hw_]; apply pw_below_drewN; exact Below.refl _ _)); clear hd_; replace BK4 := Sh.ab BK4 hb; replace BK8 := Sh.ab BK8 hb; replace HB := Sh.hb hb; clear hb; clear hcz1_0 hcz1_1 hcz1_2 hfz1_0 hfz1_1 hfz1_2; obtain ⟨hcz1_0, hcz1_1, hcz1_2, hfz1_0, hfz1_1, hfz1_2⟩ := Sh.b3 BK4.out) | (go_at_call 36; (with_reducible refine (spec_l4Own.calls a0_0 _ _ l0_1 _ _ l0_2 q1 q2 q3 _ (Sh.cB HR0_1.out) HC0_1.out (Sh.cB HR0_2.out) HC0_2.out A4_.out).mono ?_); rintro e w10 ⟨v1, v2, rfl, ho1, ho2, hb⟩; have HO1 := am_ (Kd.R_lower ho1 (below_size Sh.bw)); have HO2 := am_ (Kd.R_lower ho2 (below_size Sh.bw)); replace BK8 := Sh.ab BK8 hb; replace HB := Sh.hb hb; clear hb ho1 ho2 BK4; obtain ⟨Ao1, co1, eo1⟩ := Kd.R_slice HO1.out; subst eo1; obtain ⟨Ao2, co2, eo2⟩ := Kd.R_slice HO2.out; subst eo2; clear hcz1_0 hcz1_1 hcz1_2 hfz1_0 hfz1_1 hfz1_2) | ((with_reducible refine Sh.d 30 ?_); refine Sh.bx (N := 30) (cs := #[.int .i64 q1, .slice Ao1 q2.length co1, .slice Ao2 q3.length co2]) (t := 64) (h := ?_); intro gs_ hg w11 hbox hb; have BKs := am_ hbox; have GEs := Sh.ag w hg; replace HB := Sh.hb hb; have NB8_s := am_ (Sh.nl hg BK8.out); have NBs_8 := am_ (Sh.ng hg BK8.out); replace BK8 := Sh.ab BK8 hb; have n1_ := am_ (Kd.R_below (Sh.rl HO1.out) hb); have n2_ := am_ (Kd.R_below (Sh.rl HO2.out) hb); clear HO1 HO2; have HO1 := n1_; have HO2 := n2_; clear n1_ n2_ hb hbox hg; obtain ⟨hcz1_0, hcz1_1, hcz1_2, hfz1_0, hfz1_1, hfz1_2⟩ := Sh.b3 BKs.out) | (go_at_call 37; have hb3 := BKs.out; have ho1 := HO1.out; have ho2 := HO2.out; have hB3 := HB.out; have hr8 := BK8.out; have hI : IsG 64 (fun _ => True) w _ gs_ q1 q2 q3 := ⟨Ao1, co1, Ao2, co2, hb3, GEs.out, ho1, ho2⟩; (with_reducible refine (spec_add.calls k gs_ (fun _ => True) q1 q2 q3 _ _ l1 _ _ l2 a3 s1 s2 w _ hI hB3 HR1.out HR2.out A5_.out).mono ?_); rintro e w12 ⟨v3, rfl, ho3, hi, hb, hk⟩; have n1_ := am_ (KeepG.blk hk hr8 NB8_s.out (by decide)); obtain ⟨Ap1, cp1, Ap2, cp2, bs, ge_, og, oo⟩ := hi; have HO3 := am_ (Kd.R_lower (Kd.R_mono (Kd.R_bound ho3) (ok' := fun k_ => some k_ ≠ (Value.slice Ap2 q3.length cp2).ownBlock) (fun k_ hk_ e_ => absurd (oo.1 k_ e_.symm).2 (Nat.not_lt.2 hk_.2.1))) hB3.size); clear HO1 HO2 HB BKs BK8 hb3 ho1 ho2 hB3 hr8 hI hk; have BK8 := n1_; have BKs := am_ bs; have HO1 := am_ og; have HO2 := am_ (Kd.R_mono oo (ok' := fun k_ => some k_ ≠ v3.ownBlock) (fun k_ hk_ => base_ne (Kd.R_base2 ho3) hk_.2)); have HB := am_ hb; clear n1_ bs ge_ og oo hb; clear hcz1_0 hcz1_1 hcz1_2 hfz1_0 hfz1_1 hfz1_2; obtain ⟨hcz1_0, hcz1_1, hcz1_2, hfz1_0, hfz1_1, hfz1_2⟩ := Sh.b3 BKs.out) | (go_at_call 12; (refine (spec_GoodCircuit.calls k q1 _ _ s2 _ _ q3 false _ (Kd.R_reads' HO1.out).2.2 (Kd.R_reads' HO1.out).2.1 (Kd.R_reads' HO2.out).2.2 (Kd.R_reads' HO2.out).2.1 A6_.out).mono ?_); rintro e w13 ⟨rfl, hb⟩; replace HO1 := am_ (Kd.R_below HO1.out hb); replace HO2 := am_ (Kd.R_below HO2.out hb); replace HO3 := am_ (Kd.R_below HO3.out hb); replace BK8 := Sh.ab BK8 hb; replace BKs := Sh.ab BKs hb; replace HB := Sh.hb hb; clear hb; clear hcz1_0 hcz1_1 hcz1_2 hfz1_0 hfz1_1 hfz1_2; obtain ⟨hcz1_0, hcz1_1, hcz1_2, hfz1_0, hfz1_1, hfz1_2⟩ := Sh.b3 BK8.out))
    have hw_ := BK8.out
    refine bodyPost_ret (results_list (rs := [.cell 8 27, .tmp 9, .tmp 10]) rfl (by simp) (.cell gb8 27 #[.int .i64 0, .slice none 0 0, .slice none 0 0] (0, 0) _ rfl (by refine Sh.pl ?_; refine blk_put (cs := #[.int .i64 0, .slice none 0 0, .slice none 0 0]) ?_ 2 _ rfl; refine Sh.pl ?_; refine blk_put (cs := #[.int .i64 0, .slice none 0 0, .slice none 0 0]) ?_ 1 _ rfl; refine Sh.pl ?_; refine blk_put (cs := #[.int .i64 0, .slice none 0 0, .slice none 0 0]) ?_ 0 _ rfl; refine Sh.pl ?_; exact BK8.out) Try.underlying27 rfl (by kernel_rfl) (.tmp (.tmp .nil)))) rfl ?_
    exact ⟨_, _, _, rfl, Kd.R_nil _ _ _ _ _, Kd.R_nil _ _ _ _ _, Kd.R_nil _ _ _ _ _, (below_set (below_set (below_set HB.out GE8.out) GE8.out) GE8.out)⟩
  ·replace b3_ := Bool.eq_false_iff.mpr b3_
   subst b3_
   rw [Sh.nf] at H
   simp only [Option.some.injEq, Prod.mk.injEq] at H
   obtain ⟨rfl, rfl, rfl, rfl, rfl⟩ := H
   go_enter Try.func8, Try.ntmps8
   go_wp2_with (first | ((with_reducible refine Sh.d 4 ?_); refine Sh.bz w (N := 4) (cs := #[.int .i64 a0_0, .slice A0_1 l0_1.length c0_1, .slice A0_2 l0_2.length c0_2]) (t := 27) (h := ?_); clear HB; intro gb4 w4 BK4 GE4 HB) | ((with_reducible refine Sh.d 8 ?_); refine Sh.bx (N := 8) (cs := #[.int .i64 0, .slice none 0 0, .slice none 0 0]) (t := 27) (h := ?_); intro gb8 hg w5 hbox hb; have BK8 := am_ hbox; have GE8 := Sh.ag w hg; replace HB := Sh.hb hb; replace BK4 := Sh.ab BK4 hb; clear hb hbox hg; obtain ⟨hcz1_0, hcz1_1, hcz1_2, hfz1_0, hfz1_1, hfz1_2⟩ := Sh.b3 BK4.out) | (go_at_call 34; (with_reducible refine (spec_l4Lists.calls k a0_0 _ _ l0_1 _ _ l0_2 _ _ l1 _ _ l2 true _ (Sh.cB HR0_1.out) HC0_1.out (Sh.cB HR0_2.out) HC0_2.out (Sh.cB HR1.out) HC1.out (Sh.cB HR2.out) HC2.out A1_.out).mono ?_); rintro e w6 ⟨rfl, hb⟩; replace BK4 := Sh.ab BK4 hb; replace BK8 := Sh.ab BK8 hb; replace HB := Sh.hb hb; clear hb; clear hcz1_0 hcz1_1 hcz1_2 hfz1_0 hfz1_1 hfz1_2; obtain ⟨hcz1_0, hcz1_1, hcz1_2, hfz1_0, hfz1_1, hfz1_2⟩ := Sh.b3 BK4.out) | (go_at_call 28; (with_reducible refine (spec_l4Wires.calls a0_0 _ _ l0_1 _ _ l0_2 t2 _ (Sh.cB HR0_1.out) HC0_1.out (Sh.cB HR0_2.out) HC0_2.out A2_.out).mono ?_); rintro e w8 ⟨rfl, hb⟩; replace BK4 := Sh.ab BK4 hb; replace BK8 := Sh.ab BK8 hb; replace HB := Sh.hb hb; clear hb; clear hcz1_0 hcz1_1 hcz1_2 hfz1_0 hfz1_1 hfz1_2; obtain ⟨hcz1_0, hcz1_1, hcz1_2, hfz1_0, hfz1_1, hfz1_2⟩ := Sh.b3 BK4.out) | (go_at_call 35; (with_reducible refine (spec_l1In.calls a3 0 (wrap64 (t2 - 1)) false _ A3_.out).mono ?_); rintro e w9 ⟨rfl, hd_⟩; have hb : Below w8.heap.size w8 w9 := (by (obtain ⟨nd_, hw_⟩ := hd_; rw [hw_]; apply pw_below_drewN; exact Below.refl _ _)); clear hd_; replace BK4 := Sh.ab BK4 hb; replace BK8 := Sh.ab BK8 hb; replace HB := Sh.hb hb; clear hb; clear hcz1_0 hcz1_1 hcz1_2 hfz1_0 hfz1_1 hfz1_2; obtain ⟨hcz1_0, hcz1_1, hcz1_2, hfz1_0, hfz1_1, hfz1_2⟩ := Sh.b3 BK8.out))
   have hw_ := BK8.out
   refine bodyPost_ret (results_list (rs := [.cell 8 27, .tmp 9, .tmp 10]) rfl (by simp) (.cell gb8 27 #[.int .i64 0, .slice none 0 0, .slice none 0 0] (0, 0) _ rfl (by refine Sh.pl ?_; refine blk_put (cs := #[.int .i64 0, .slice none 0 0, .slice none 0 0]) ?_ 2 _ rfl; refine Sh.pl ?_; refine blk_put (cs := #[.int .i64 0, .slice none 0 0, .slice none 0 0]) ?_ 1 _ rfl; refine Sh.pl ?_; refine blk_put (cs := #[.int .i64 0, .slice none 0 0, .slice none 0 0]) ?_ 0 _ rfl; refine Sh.pl ?_; exact BK8.out) Try.underlying27 rfl (by kernel_rfl) (.tmp (.tmp .nil)))) rfl ?_
   exact ⟨_, _, _, rfl, Kd.R_nil _ _ _ _ _, Kd.R_nil _ _ _ _ _, Kd.R_nil _ _ _ _ _, (below_set (below_set (below_set HB.out GE8.out) GE8.out) GE8.out)⟩
 ·replace b1_ := Bool.eq_false_iff.mpr b1_
  subst b1_
  rw [Sh.nf] at H
  simp only [Option.some.injEq, Prod.mk.injEq] at H
  obtain ⟨rfl, rfl, rfl, rfl, rfl⟩ := H
  go_enter Try.func8, Try.ntmps8
  go_wp2_with (first | ((with_reducible refine Sh.d 4 ?_); refine Sh.bz w (N := 4) (cs := #[.int .i64 a0_0, .slice A0_1 l0_1.length c0_1, .slice A0_2 l0_2.length c0_2]) (t := 27) (h := ?_); clear HB; intro gb4 w4 BK4 GE4 HB) | ((with_reducible refine Sh.d 8 ?_); refine Sh.bx (N := 8) (cs := #[.int .i64 0, .slice none 0 0, .slice none 0 0]) (t := 27) (h := ?_); intro gb8 hg w5 hbox hb; have BK8 := am_ hbox; have GE8 := Sh.ag w hg; replace HB := Sh.hb hb; replace BK4 := Sh.ab BK4 hb; clear hb hbox hg; obtain ⟨hcz1_0, hcz1_1, hcz1_2, hfz1_0, hfz1_1, hfz1_2⟩ := Sh.b3 BK4.out) | (go_at_call 34; (with_reducible refine (spec_l4Lists.calls k a0_0 _ _ l0_1 _ _ l0_2 _ _ l1 _ _ l2 false _ (Sh.cB HR0_1.out) HC0_1.out (Sh.cB HR0_2.out) HC0_2.out (Sh.cB HR1.out) HC1.out (Sh.cB HR2.out) HC2.out A1_.out).mono ?_); rintro e w6 ⟨rfl, hb⟩; replace BK4 := Sh.ab BK4 hb; replace BK8 := Sh.ab BK8 hb; replace HB := Sh.hb hb; clear hb; clear hcz1_0 hcz1_1 hcz1_2 hfz1_0 hfz1_1 hfz1_2; obtain ⟨hcz1_0, hcz1_1, hcz1_2, hfz1_0, hfz1_1, hfz1_2⟩ := Sh.b3 BK8.out))
  have hw_ := BK8.out
  refine bodyPost_ret (results_list (rs := [.cell 8 27, .tmp 9, .tmp 10]) rfl (by simp) (.cell gb8 27 #[.int .i64 0, .slice none 0 0, .slice none 0 0] (0, 0) _ rfl (by refine Sh.pl ?_; refine blk_put (cs := #[.int .i64 0, .slice none 0 0, .slice none 0 0]) ?_ 2 _ rfl; refine Sh.pl ?_; refine blk_put (cs := #[.int .i64 0, .slice none 0 0, .slice none 0 0]) ?_ 1 _ rfl; refine Sh.pl ?_; refine blk_put (cs := #[.int .i64 0, .slice none 0 0, .slice none 0 0]) ?_ 0 _ rfl; refine Sh.pl ?_; exact BK8.out) Try.underlying27 rfl (by kernel_rfl) (.tmp (.tmp .nil)))) rfl ?_
  exact ⟨_, _, _, rfl, Kd.R_nil _ _ _ _ _, Kd.R_nil _ _ _ _ _, Kd.R_nil _ _ _ _ _, (below_set (below_set (below_set HB.out GE8.out) GE8.out) GE8.out)⟩
def laws_sameInts.l0 : Nat → List Int → List Int → Int → Int → Option (Bool)
 | 0, _, _, _, _ => none
 | k + 1, x0, x1, x12, x13 => if x13 < x12 then (if 0 ≤ x13 then (if x13 < (x0.length : Int) then (if x13 < (x1.length : Int) then (if (rd x0 x13) = (rd x1 x13) then (laws_sameInts.l0 k x0 x1 x12 (wrap64 (x13 + 1))) else (some false)) else (none)) else (none)) else (none)) else (some true)
def laws_sameInts.f (k : Nat) (l0 : List Int) (l1 : List Int) : Option (Bool) := if (l0.length : Int) = (l1.length : Int) then (laws_sameInts.l0 k l0 l1 (l0.length : Int) 0) else (some false)
theorem laws_sameInts.mono_l : ∀ k, (∀ y0 y1 y2 y3, LeO (laws_sameInts.l0 k y0 y1 y2 y3) (laws_sameInts.l0 (k + 1) y0 y1 y2 y3))
 | 0 => fun _ _ _ _ r h => by simp [laws_sameInts.l0] at h
 | k + 1 => by
  have ih0 := laws_sameInts.mono_l k
  ·intro y0 y1 y2 y3
   unfold laws_sameInts.l0
   repeat' with_reducible first | apply ih0 | exact LeO.refl _ | exact LeO.none _ | apply LeO.ite | refine LeO.bind ?_ fun _ => ?_
theorem laws_sameInts.mono : ∀ a0 a1 k, LeO (laws_sameInts.f k a0 a1) (laws_sameInts.f (k + 1) a0 a1) := by
 intro a0 a1 k
 have ih0 := laws_sameInts.mono_l k
 unfold laws_sameInts.f
 repeat' with_reducible first | apply ih0 | exact LeO.refl _ | exact LeO.none _ | apply LeO.ite | refine LeO.bind ?_ fun _ => ?_
theorem laws_sameInts.calls (k : Nat) (A0 : Option Addr) (c0 : Nat) (l0 : List Int) (A1 : Option Addr) (c1 : Nat) (l1 : List Int) (r : Bool) (w : World) (hr0 : Kd.C (Kd.int .i64) w A0 l0.length l0) (hc0 : l0.length ≤ c0) (hr1 : Kd.C (Kd.int .i64) w A1 l1.length l1) (hc1 : l1.length ≤ c1) (h : laws_sameInts.f k l0 l1 = some r) :
  Calls Try.prog 10 #[.slice A0 l0.length c0, .slice A1 l1.length c1] w fun e w' => e = .returned (.bool r) ∧ Drawn0 w w' := by
 have HR0 := am_ hr0
 have HC0 := am_ hc0
 clear hr0 hc0
 have HR1 := am_ hr1
 have HC1 := am_ hc1
 clear hr1 hc1
 have H := h
 clear h
 unfold laws_sameInts.f at H
 by_cases c3 : (l0.length : Int) = (l1.length : Int)
 ·rw [if_pos c3] at H
  have c3b0 : ((l0.length : Int) == (l1.length : Int)) = true := beq_iff_eq.mpr c3
  have c3b1 : ((l0.length : Int) != (l1.length : Int)) = false := bne_eq_false_iff_eq.mpr c3
  have c3b2 : (l0.length == l1.length) = true := by first | simpa using c3 | (simp at c3 ⊢; omega)
  clear c3
  have H' := am_ H
  clear H
  go_enter Try.func10, Try.ntmps10
  go_wp2
  repeat (go_quiet (fail); try go_wp2)
  go_loopg [13] k (fun kq v13 w' => ∃ (x13_1 : Int), v13 = .int .i64 x13_1 ∧ Aside0 (laws_sameInts.l0 kq l0 l1 (l0.length : Int) x13_1 = some r) ∧ Aside0 (kq ≤ k) ∧ Drawn0 w w')
  case atStart => exact ⟨(0), (Sh.es), H', ⟨Nat.le_refl _⟩, Sh.dr⟩
  case round =>
   clear H'
   obtain ⟨x13_1, rfl, HA, HK1, ⟨m1, rfl⟩⟩ := hrel
   cases gk with
   | zero => exact absurd HA.out (by simp [laws_sameInts.l0])
   | succ k1 =>
    have H := HA.out
    clear HA
    simp only [laws_sameInts.l0] at H
    by_cases c4 : x13_1 < (l0.length : Int)
    ·rw [if_pos c4] at H
     have c4b0 := decide_eq_true c4
     clear c4
     by_cases c5 : 0 ≤ x13_1
     ·rw [if_pos c5] at H
      have c5b0 := decide_eq_true c5
      clear c5
      by_cases c6 : x13_1 < (l0.length : Int)
      ·rw [if_pos c6] at H
       have c6b0 := decide_eq_true c6
       clear c6
       by_cases c7 : x13_1 < (l1.length : Int)
       ·rw [if_pos c7] at H
        have c7b0 := decide_eq_true c7
        clear c7
        by_cases c8 : (rd l0 x13_1) = (rd l1 x13_1)
        ·rw [if_pos c8] at H
         have c8b0 : ((rd l0 x13_1) == (rd l1 x13_1)) = true := beq_iff_eq.mpr c8
         have c8b1 : ((rd l0 x13_1) != (rd l1 x13_1)) = false := bne_eq_false_iff_eq.mpr c8
         clear c8
         have H' := am_ H
         clear H
         have p298 : 0 ≤ (x13_1 : Int) := Sh.od
         have q298 : x13_1 < (l0.length : Int) := Sh.od
         obtain ⟨ad298, e298, hx298_0⟩ := Kd.at_int HR0.out x13_1 p298 q298
         cases e298
         replace p298 := eq_true p298
         replace q298 := eq_true q298
         have p299 : 0 ≤ (x13_1 : Int) := Sh.od
         have q299 : x13_1 < (l1.length : Int) := Sh.od
         obtain ⟨ad299, e299, hx299_0⟩ := Kd.at_int HR1.out x13_1 p299 q299
         cases e299
         replace p299 := eq_true p299
         replace q299 := eq_true q299
         go_wp2
         repeat (go_quiet (fail); try go_wp2)
         go_roundg k1
         case measure => have := HK1.out; omega
         case rel => exact ⟨(wrap64 (x13_1 + 1)), (Sh.es), H', ⟨by have := HK1.out; omega⟩, Sh.dr⟩
        ·rw [if_neg c8] at H
         have c8b0 : ((rd l0 x13_1) == (rd l1 x13_1)) = false := beq_eq_false_iff_ne.mpr c8
         have c8b1 : ((rd l0 x13_1) != (rd l1 x13_1)) = true := bne_iff_ne.mpr c8
         obtain rfl := Option.some.inj H
         have p298 : 0 ≤ (x13_1 : Int) := Sh.od
         have q298 : x13_1 < (l0.length : Int) := Sh.od
         obtain ⟨ad298, e298, hx298_0⟩ := Kd.at_int HR0.out x13_1 p298 q298
         cases e298
         replace p298 := eq_true p298
         replace q298 := eq_true q298
         have p299 : 0 ≤ (x13_1 : Int) := Sh.od
         have q299 : x13_1 < (l1.length : Int) := Sh.od
         obtain ⟨ad299, e299, hx299_0⟩ := Kd.at_int HR1.out x13_1 p299 q299
         cases e299
         replace p299 := eq_true p299
         replace q299 := eq_true q299
         go_wp2
         repeat (go_quiet (fail); try go_wp2)
         go_ret
         exact ⟨Sh.es, Sh.dr⟩
       ·rw [if_neg c7] at H
        exact absurd H (by simp)
      ·rw [if_neg c6] at H
       exact absurd H (by simp)
     ·rw [if_neg c5] at H
      exact absurd H (by simp)
    ·rw [if_neg c4] at H
     have c4b0 := decide_eq_false c4
     clear c4
     obtain rfl := Option.some.inj H
     go_wp2
     repeat (go_quiet (fail); try go_wp2)
     go_ret
     exact ⟨Sh.es, Sh.dr⟩
 ·rw [if_neg c3] at H
  have c3b0 : ((l0.length : Int) == (l1.length : Int)) = false := beq_eq_false_iff_ne.mpr c3
  have c3b1 : ((l0.length : Int) != (l1.length : Int)) = true := bne_iff_ne.mpr c3
  have c3b2 : (l0.length == l1.length) = false := by first | simpa using c3 | (simp at c3 ⊢; omega)
  obtain rfl := Option.some.inj H
  go_enter Try.func10, Try.ntmps10
  go_wp2
  repeat (go_quiet (fail); try go_wp2)
  go_ret
  exact ⟨Sh.es, Sh.dr⟩
end Go.Proofs.Ytejlobcjgbeeaaa.P
