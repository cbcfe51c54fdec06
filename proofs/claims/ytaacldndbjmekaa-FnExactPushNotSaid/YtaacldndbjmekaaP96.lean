/- Go functions of this seat as Lean functions, and the proofs that the calls come to what these say; printed by a program of this session. No condition. -/
import Derived.Test.YtaacldndbjmekaaP0
import Derived.Test.YtaacldndbjmekaaP52
import Derived.Test.YtaacldndbjmekaaP95
namespace Go.Proofs.Ytaacldndbjmekaa.P
open Go.RowKit Go.Proofs.YtaacldndbjmekaaW.PrintWords Go.Proofs.YtaacldndbjmekaaW.PrintLast Go.Proofs.YtaacldndbjmekaaW.PrintMore Go.Proofs.Ytaacldndbjmekaa.Hof
attribute [local go_sem] max2_int min2_int max_two min_two max_three min_three max_four min_four   -- for this text's walks alone
set_option linter.unusedVariables false
set_option linter.unusedSimpArgs false

/-! ### spec_l10Push: function 61 -/
def spec_l10Push.f : Nat → List (S59) → Int → Bool → Option ((List (S59)))
 | 0, _, _, _ => none
 | k + 1, l0, a1, a2 => if 0 ≤ a1 then (if a1 < (l0.length : Int) then (if ((rd_T59 l0 a1).f0) = 3 then ((spec_l10Push.f k l0 (wrap64 (a1 - 1)) (!a2)).bind fun t600 => (some t600)) else (if ((rd_T59 l0 a1).f0) = 1 then (if a2 = true then (some (([(⟨(rd_T59 l0 a1).f0, (rd_T59 l0 a1).f1⟩ : S59), (⟨3, 0⟩ : S59)] : List (S59)))) else (some (([(⟨(rd_T59 l0 a1).f0, (rd_T59 l0 a1).f1⟩ : S59)] : List (S59))))) else (if ((rd_T59 l0 a1).f0) = 2 then (if a2 = true then (some (([(⟨(rd_T59 l0 a1).f0, wrap64 (1 - ((rd_T59 l0 a1).f1))⟩ : S59)] : List (S59)))) else (some (([(⟨(rd_T59 l0 a1).f0, (rd_T59 l0 a1).f1⟩ : S59)] : List (S59))))) else (if ((rd_T59 l0 a1).f0) = 4 then ((spec_l10Push.f k l0 (wrap64 (a1 - 1)) a2).bind fun t615 => ((some (([(⟨(rd_T59 l0 a1).f0, (rd_T59 l0 a1).f1⟩ : S59)] : List (S59)) : List (S59))).bind fun y618 => (if t615.length + y618.length < 8796093022208 then (some (t615 ++ y618)) else (none)))) else (if a2 = true then ((spec_l10Other.f ((rd_T59 l0 a1).f0)).bind fun t624 => ((spec_l10From.f k l0 (wrap64 (a1 - 1))).bind fun t625 => ((spec_l10Push.f k l0 (wrap64 (t625 - 1)) a2).bind fun t626 => ((spec_l10Push.f k l0 (wrap64 (a1 - 1)) a2).bind fun t629 => (if t626.length + t629.length < 8796093022208 then ((some (t626 ++ t629 : List (S59))).bind fun y632 => ((some (([(⟨t624, 0⟩ : S59)] : List (S59)) : List (S59))).bind fun y635 => (if y632.length + y635.length < 8796093022208 then (some (y632 ++ y635)) else (none)))) else (none)))))) else ((spec_l10From.f k l0 (wrap64 (a1 - 1))).bind fun t641 => ((spec_l10Push.f k l0 (wrap64 (t641 - 1)) a2).bind fun t642 => ((spec_l10Push.f k l0 (wrap64 (a1 - 1)) a2).bind fun t645 => (if t642.length + t645.length < 8796093022208 then ((some (t642 ++ t645 : List (S59))).bind fun y648 => ((some (([(⟨(rd_T59 l0 a1).f0, 0⟩ : S59)] : List (S59)) : List (S59))).bind fun y651 => (if y648.length + y651.length < 8796093022208 then (some (y648 ++ y651)) else (none)))) else (none)))))))))) else (none)) else (none)
theorem spec_l10Push.mono_l : ∀ k, (∀ y0 y1 y2, LeO (spec_l10Push.f k y0 y1 y2) (spec_l10Push.f (k + 1) y0 y1 y2))
 | 0 => fun _ _ _ r h => by simp [spec_l10Push.f] at h
 | k + 1 => by
  have ih0 := spec_l10Push.mono_l k
  ·intro y0 y1 y2
   unfold spec_l10Push.f
   repeat' with_reducible first | apply ih0 | apply spec_l10From.mono | exact LeO.refl _ | exact LeO.none _ | apply LeO.ite | refine LeO.bind ?_ fun _ => ?_
theorem spec_l10Push.mono : ∀ a0 a1 a2 k, LeO (spec_l10Push.f k a0 a1 a2) (spec_l10Push.f (k + 1) a0 a1 a2) := by
 intro a0 a1 a2 k
 have ih0 := spec_l10Push.mono_l k
 exact ih0 a0 a1 a2
def spec_l10Push.T14 : Bool × List (List Nat × List Nat) := (true, [([], []), ([], []), ([1], [1]), ([], []), ([0, 2, 3], [0, 2, 3]), ([], []), ([5], [5]), ([4, 6, 4], [4, 6]), ([7, 7, 0, 1, 2, 3, 4, 5, 6, 7], [7])])
def spec_l10Push.B14 : List Nat := [0, 0, 2, 0, 15, 0, 32, 127, 255]
theorem spec_l10Push.tab14 : rtab .any (opsOf Try.f61 14) = spec_l10Push.T14 := by kernel_rfl
theorem spec_l10Push.bits14 : waitsOk spec_l10Push.T14.2 spec_l10Push.B14 = true := by kernel_rfl
set_option maxHeartbeats 8000000 in
set_option maxRecDepth 100000 in
theorem spec_l10Push.calls (k : Nat) : ∀ (A0 : Option Addr) (c0 : Nat) (l0 : List (S59)) (a1 : Int) (a2 : Bool) (r : List (S59)) (w : World) (hr0 : Kd.C k59 w A0 l0.length l0) (hc0 : l0.length ≤ c0) (h : spec_l10Push.f k l0 a1 a2 = some r),
  Calls Try.prog 61 #[.slice A0 l0.length c0, .int .i64 a1, .bool a2] w fun e w' => ∃ v0_ : Value, e = .returned (v0_) ∧ Kd.R k59 59 w' w.heap.size (fun _ => True) v0_ r ∧ Below w.heap.size w w' := by
 induction k using Nat.strongRecOn with
 | _ k ih =>
 intro A0 c0 l0 a1 a2 r w hr0 hc0 h
 cases k with
 | zero => exact absurd h (by simp [spec_l10Push.f])
 | succ k =>
 simp only [spec_l10Push.f] at h
 have hu59 := Try.underlying59
 have hss := Sh.ss
 have HR0 := am_ hr0
 have HC0 := am_ hc0
 clear hr0 hc0
 have HB := am_ (Below.refl w.heap.size w)
 have H : (if 0 ≤ a1 then (if a1 < (l0.length : Int) then (if ((rd_T59 l0 a1).f0) = 3 then ((spec_l10Push.f k l0 (wrap64 (a1 - 1)) (!a2)).bind fun t600 => (some t600)) else (if ((rd_T59 l0 a1).f0) = 1 then (if a2 = true then (some (([(⟨(rd_T59 l0 a1).f0, (rd_T59 l0 a1).f1⟩ : S59), (⟨3, 0⟩ : S59)] : List (S59)))) else (some (([(⟨(rd_T59 l0 a1).f0, (rd_T59 l0 a1).f1⟩ : S59)] : List (S59))))) else (if ((rd_T59 l0 a1).f0) = 2 then (if a2 = true then (some (([(⟨(rd_T59 l0 a1).f0, wrap64 (1 - ((rd_T59 l0 a1).f1))⟩ : S59)] : List (S59)))) else (some (([(⟨(rd_T59 l0 a1).f0, (rd_T59 l0 a1).f1⟩ : S59)] : List (S59))))) else (if ((rd_T59 l0 a1).f0) = 4 then ((spec_l10Push.f k l0 (wrap64 (a1 - 1)) a2).bind fun t615 => ((some (([(⟨(rd_T59 l0 a1).f0, (rd_T59 l0 a1).f1⟩ : S59)] : List (S59)) : List (S59))).bind fun y618 => (if t615.length + y618.length < 8796093022208 then (some (t615 ++ y618)) else (none)))) else (if a2 = true then ((spec_l10Other.f ((rd_T59 l0 a1).f0)).bind fun t624 => ((spec_l10From.f k l0 (wrap64 (a1 - 1))).bind fun t625 => ((spec_l10Push.f k l0 (wrap64 (t625 - 1)) a2).bind fun t626 => ((spec_l10Push.f k l0 (wrap64 (a1 - 1)) a2).bind fun t629 => (if t626.length + t629.length < 8796093022208 then ((some (t626 ++ t629 : List (S59))).bind fun y632 => ((some (([(⟨t624, 0⟩ : S59)] : List (S59)) : List (S59))).bind fun y635 => (if y632.length + y635.length < 8796093022208 then (some (y632 ++ y635)) else (none)))) else (none)))))) else ((spec_l10From.f k l0 (wrap64 (a1 - 1))).bind fun t641 => ((spec_l10Push.f k l0 (wrap64 (t641 - 1)) a2).bind fun t642 => ((spec_l10Push.f k l0 (wrap64 (a1 - 1)) a2).bind fun t645 => (if t642.length + t645.length < 8796093022208 then ((some (t642 ++ t645 : List (S59))).bind fun y648 => ((some (([(⟨(rd_T59 l0 a1).f0, 0⟩ : S59)] : List (S59)) : List (S59))).bind fun y651 => (if y648.length + y651.length < 8796093022208 then (some (y648 ++ y651)) else (none)))) else (none)))))))))) else (none)) else (none)) = some r := h
 clear h
 by_cases c4 : 0 ≤ a1
 ·rw [if_pos c4] at H
  have c4b0 := decide_eq_true c4
  clear c4
  by_cases c5 : a1 < (l0.length : Int)
  ·rw [if_pos c5] at H
   have c5b0 := decide_eq_true c5
   clear c5
   by_cases c6 : ((rd_T59 l0 a1).f0) = 3
   ·rw [if_pos c6] at H
    have c6b0 : (((rd_T59 l0 a1).f0) == 3) = true := beq_iff_eq.mpr c6
    have c6b1 : (((rd_T59 l0 a1).f0) != 3) = false := bne_eq_false_iff_eq.mpr c6
    clear c6
    obtain ⟨t600, A7, H⟩ := Sh.ba H
    obtain rfl := Option.some.inj H
    have p598 : 0 ≤ (a1 : Int) := Sh.od
    have q598 : a1 < (l0.length : Int) := Sh.od
    obtain ⟨ad598, e598, hx598_0, hx598_1⟩ := at_T59 HR0.out a1 p598 q598
    cases e598
    replace p598 := eq_true p598
    replace q598 := eq_true q598
    go_enter Try.func61, Try.ntmps61
    go_wp2_with (first | ((with_reducible refine Sh.d 7 ?_); refine Sh.bz w (N := 7) (cs := #[.int .i64 0, .int .i64 0]) (t := 59) (h := ?_); clear HB; intro gb599 w8 BK599 GE599 HB; obtain ⟨hcz9_0, hcz9_1, hfz9_0, hfz9_1⟩ := Sh.b2 BK599.out) | ((with_reducible refine Sh.k 61 ?_); refine Sh.gL (some 23) Try.func61 #[.slice (some ad598) l0.length c0, .int .i64 (wrap64 (a1 - 1)), .bool (!a2)] (h := ?_); (with_reducible refine (ih k (by omega) _ _ l0 (wrap64 (a1 - 1)) (!a2) t600 _ (Sh.cB HR0.out) HC0.out A7.out).mono ?_); rintro e w10 ⟨v601, rfl, ho0, hb⟩; refine ⟨_, rfl, ?_⟩; have HO602 := am_ (Kd.R_lower (Kd.R_newB ho0 (g := gb599) (o := .cells #[.int .i64 ((rd_T59 l0 a1).f0), .int .i64 ((rd_T59 l0 a1).f1)] 59 (0, 0)) (by refine Sh.pl ?_; refine blk_put (cs := #[.int .i64 ((rd_T59 l0 a1).f0), .int .i64 0]) ?_ 1 _ rfl; refine Sh.pl ?_; refine blk_put (cs := #[.int .i64 0, .int .i64 0]) ?_ 0 _ rfl; refine Sh.pl ?_; exact BK599.out)) (below_size Sh.bw)); replace BK599 := am_ (blk_below (g := gb599) (o := .cells #[.int .i64 ((rd_T59 l0 a1).f0), .int .i64 ((rd_T59 l0 a1).f1)] 59 (0, 0)) (by refine Sh.pl ?_; refine blk_put (cs := #[.int .i64 ((rd_T59 l0 a1).f0), .int .i64 0]) ?_ 1 _ rfl; refine Sh.pl ?_; refine blk_put (cs := #[.int .i64 0, .int .i64 0]) ?_ 0 _ rfl; refine Sh.pl ?_; exact BK599.out) hb); replace HB := Sh.hb hb; (try clear hb); (try clear hb2); (try clear hk); (try clear hi); (try clear ho0)))
    go_ret
    exact ⟨_, Sh.eR, Sh.rl (Kd.R_mono HO602.out (fun _ hk => trivial)), Sh.bw⟩
   ·rw [if_neg c6] at H
    have c6b0 : (((rd_T59 l0 a1).f0) == 3) = false := beq_eq_false_iff_ne.mpr c6
    have c6b1 : (((rd_T59 l0 a1).f0) != 3) = true := bne_iff_ne.mpr c6
    by_cases c11 : ((rd_T59 l0 a1).f0) = 1
    ·rw [if_pos c11] at H
     have c11b0 : (((rd_T59 l0 a1).f0) == 1) = true := beq_iff_eq.mpr c11
     have c11b1 : (((rd_T59 l0 a1).f0) != 1) = false := bne_eq_false_iff_eq.mpr c11
     clear c11
     by_cases c12 : a2 = true
     ·subst c12
      rw [if_pos rfl] at H
      obtain ⟨y603, hy603⟩ : ∃ y_ : List (S59), y_ = (([(⟨(rd_T59 l0 a1).f0, (rd_T59 l0 a1).f1⟩ : S59), (⟨3, 0⟩ : S59)] : List (S59))) := ⟨_, rfl⟩
      replace H : (some y603) = some r := by first | (rw [hy603]; with_reducible exact H) | (have H2_ := (Option.bind_some _ _).symm.trans H; rw [hy603]; with_reducible exact H2_) | (have H2_ := (Option.bind_some _ _).symm.trans H; with_reducible exact H2_) | with_reducible exact H | (rw [hy603]; exact H) | exact H
      have Ny603 := am_ hy603
      clear hy603
      obtain rfl := Option.some.inj H
      have p598 : 0 ≤ (a1 : Int) := Sh.od
      have q598 : a1 < (l0.length : Int) := Sh.od
      obtain ⟨ad598, e598, hx598_0, hx598_1⟩ := at_T59 HR0.out a1 p598 q598
      cases e598
      replace p598 := eq_true p598
      replace q598 := eq_true q598
      go_enter Try.func61, Try.ntmps61
      go_wp2_with (first | ((with_reducible refine Sh.d 7 ?_); refine Sh.bz w (N := 7) (cs := #[.int .i64 0, .int .i64 0]) (t := 59) (h := ?_); clear HB; intro gb599 w13 BK599 GE599 HB; obtain ⟨hcz14_0, hcz14_1, hfz14_0, hfz14_1⟩ := Sh.b2 BK599.out) | ((with_reducible refine Sh.d 29 ?_); refine Kd.R_lit k59 _ 59 ?hg (N := 29) ?hd (xs := ([(⟨(rd_T59 l0 a1).f0, (rd_T59 l0 a1).f1⟩ : S59), (⟨3, 0⟩ : S59)] : List (S59))) (inner := [.int .i64 ((rd_T59 l0 a1).f0), .int .i64 ((rd_T59 l0 a1).f1), .int .i64 3, .int .i64 0]) (ok := fun _ => True) (okp := fun _ => True) ?hr ?hp (fun _ hk => hk) trivial (Below.refl _ _) (Nat.le_refl _) (by simp) ?_; (case hd => rfl); (case hg => rfl); (case hr => first | (go_simp; done) | (go_simp; rfl)); (case hp => exact (Reps.c2 (show Kd.M k59 _ _ _ (⟨(rd_T59 l0 a1).f0, (rd_T59 l0 a1).f1⟩ : S59) [.int .i64 ((rd_T59 l0 a1).f0), .int .i64 ((rd_T59 l0 a1).f1)] from (k59_mkM _ _ _ (⟨(rd_T59 l0 a1).f0, (rd_T59 l0 a1).f1⟩ : S59) )) (Reps.c2 (show Kd.M k59 _ _ _ (⟨3, 0⟩ : S59) [.int .i64 3, .int .i64 0] from (k59_mkM _ _ _ (⟨3, 0⟩ : S59) )) (Reps.none _ _)))); intro v604 w15 ho16 hb hg_ hnew_; clear hg_ hnew_; (first | rw [← Ny603.out] at ho16 | (simp only [Int.reduceToNat] at ho16; rw [← Ny603.out] at ho16)); have HO605 := am_ (Kd.R_lower (Kd.R_newB ho16 (g := gb599) (o := .cells #[.int .i64 ((rd_T59 l0 a1).f0), .int .i64 ((rd_T59 l0 a1).f1)] 59 (0, 0)) (by refine Sh.pl ?_; refine blk_put (cs := #[.int .i64 ((rd_T59 l0 a1).f0), .int .i64 0]) ?_ 1 _ rfl; refine Sh.pl ?_; refine blk_put (cs := #[.int .i64 0, .int .i64 0]) ?_ 0 _ rfl; refine Sh.pl ?_; exact BK599.out)) (below_size Sh.bw)); replace BK599 := am_ (blk_below (g := gb599) (o := .cells #[.int .i64 ((rd_T59 l0 a1).f0), .int .i64 ((rd_T59 l0 a1).f1)] 59 (0, 0)) (by refine Sh.pl ?_; refine blk_put (cs := #[.int .i64 ((rd_T59 l0 a1).f0), .int .i64 0]) ?_ 1 _ rfl; refine Sh.pl ?_; refine blk_put (cs := #[.int .i64 0, .int .i64 0]) ?_ 0 _ rfl; refine Sh.pl ?_; exact BK599.out) hb); replace HB := Sh.hb hb; clear hb ho16))
      go_ret
      exact ⟨_, Sh.eR, Sh.rl (Kd.R_mono HO605.out (fun _ hk => trivial)), Sh.bw⟩
     ·replace c12 := Bool.eq_false_iff.mpr c12
      subst c12
      rw [Sh.nf] at H
      obtain ⟨y606, hy606⟩ : ∃ y_ : List (S59), y_ = (([(⟨(rd_T59 l0 a1).f0, (rd_T59 l0 a1).f1⟩ : S59)] : List (S59))) := ⟨_, rfl⟩
      replace H : (some y606) = some r := by first | (rw [hy606]; with_reducible exact H) | (have H2_ := (Option.bind_some _ _).symm.trans H; rw [hy606]; with_reducible exact H2_) | (have H2_ := (Option.bind_some _ _).symm.trans H; with_reducible exact H2_) | with_reducible exact H | (rw [hy606]; exact H) | exact H
      have Ny606 := am_ hy606
      clear hy606
      obtain rfl := Option.some.inj H
      have p598 : 0 ≤ (a1 : Int) := Sh.od
      have q598 : a1 < (l0.length : Int) := Sh.od
      obtain ⟨ad598, e598, hx598_0, hx598_1⟩ := at_T59 HR0.out a1 p598 q598
      cases e598
      replace p598 := eq_true p598
      replace q598 := eq_true q598
      go_enter Try.func61, Try.ntmps61
      go_wp2_with (first | ((with_reducible refine Sh.d 7 ?_); refine Sh.bz w (N := 7) (cs := #[.int .i64 0, .int .i64 0]) (t := 59) (h := ?_); clear HB; intro gb599 w17 BK599 GE599 HB; obtain ⟨hcz18_0, hcz18_1, hfz18_0, hfz18_1⟩ := Sh.b2 BK599.out) | ((with_reducible refine Sh.d 31 ?_); refine Kd.R_lit k59 _ 59 ?hg (N := 31) ?hd (xs := ([(⟨(rd_T59 l0 a1).f0, (rd_T59 l0 a1).f1⟩ : S59)] : List (S59))) (inner := [.int .i64 ((rd_T59 l0 a1).f0), .int .i64 ((rd_T59 l0 a1).f1)]) (ok := fun _ => True) (okp := fun _ => True) ?hr ?hp (fun _ hk => hk) trivial (Below.refl _ _) (Nat.le_refl _) (by simp) ?_; (case hd => rfl); (case hg => rfl); (case hr => first | (go_simp; done) | (go_simp; rfl)); (case hp => exact (Reps.c2 (show Kd.M k59 _ _ _ (⟨(rd_T59 l0 a1).f0, (rd_T59 l0 a1).f1⟩ : S59) [.int .i64 ((rd_T59 l0 a1).f0), .int .i64 ((rd_T59 l0 a1).f1)] from (k59_mkM _ _ _ (⟨(rd_T59 l0 a1).f0, (rd_T59 l0 a1).f1⟩ : S59) )) (Reps.none _ _))); intro v607 w19 ho20 hb hg_ hnew_; clear hg_ hnew_; (first | rw [← Ny606.out] at ho20 | (simp only [Int.reduceToNat] at ho20; rw [← Ny606.out] at ho20)); have HO608 := am_ (Kd.R_lower (Kd.R_newB ho20 (g := gb599) (o := .cells #[.int .i64 ((rd_T59 l0 a1).f0), .int .i64 ((rd_T59 l0 a1).f1)] 59 (0, 0)) (by refine Sh.pl ?_; refine blk_put (cs := #[.int .i64 ((rd_T59 l0 a1).f0), .int .i64 0]) ?_ 1 _ rfl; refine Sh.pl ?_; refine blk_put (cs := #[.int .i64 0, .int .i64 0]) ?_ 0 _ rfl; refine Sh.pl ?_; exact BK599.out)) (below_size Sh.bw)); replace BK599 := am_ (blk_below (g := gb599) (o := .cells #[.int .i64 ((rd_T59 l0 a1).f0), .int .i64 ((rd_T59 l0 a1).f1)] 59 (0, 0)) (by refine Sh.pl ?_; refine blk_put (cs := #[.int .i64 ((rd_T59 l0 a1).f0), .int .i64 0]) ?_ 1 _ rfl; refine Sh.pl ?_; refine blk_put (cs := #[.int .i64 0, .int .i64 0]) ?_ 0 _ rfl; refine Sh.pl ?_; exact BK599.out) hb); replace HB := Sh.hb hb; clear hb ho20))
      go_ret
      exact ⟨_, Sh.eR, Sh.rl (Kd.R_mono HO608.out (fun _ hk => trivial)), Sh.bw⟩
    ·rw [if_neg c11] at H
     have c11b0 : (((rd_T59 l0 a1).f0) == 1) = false := beq_eq_false_iff_ne.mpr c11
     have c11b1 : (((rd_T59 l0 a1).f0) != 1) = true := bne_iff_ne.mpr c11
     by_cases c21 : ((rd_T59 l0 a1).f0) = 2
     ·rw [if_pos c21] at H
      have c21b0 : (((rd_T59 l0 a1).f0) == 2) = true := beq_iff_eq.mpr c21
      have c21b1 : (((rd_T59 l0 a1).f0) != 2) = false := bne_eq_false_iff_eq.mpr c21
      clear c21
      by_cases c22 : a2 = true
      ·subst c22
       rw [if_pos rfl] at H
       obtain ⟨y609, hy609⟩ : ∃ y_ : List (S59), y_ = (([(⟨(rd_T59 l0 a1).f0, wrap64 (1 - ((rd_T59 l0 a1).f1))⟩ : S59)] : List (S59))) := ⟨_, rfl⟩
       replace H : (some y609) = some r := by first | (rw [hy609]; with_reducible exact H) | (have H2_ := (Option.bind_some _ _).symm.trans H; rw [hy609]; with_reducible exact H2_) | (have H2_ := (Option.bind_some _ _).symm.trans H; with_reducible exact H2_) | with_reducible exact H | (rw [hy609]; exact H) | exact H
       have Ny609 := am_ hy609
       clear hy609
       obtain rfl := Option.some.inj H
       have p598 : 0 ≤ (a1 : Int) := Sh.od
       have q598 : a1 < (l0.length : Int) := Sh.od
       obtain ⟨ad598, e598, hx598_0, hx598_1⟩ := at_T59 HR0.out a1 p598 q598
       cases e598
       replace p598 := eq_true p598
       replace q598 := eq_true q598
       go_enter Try.func61, Try.ntmps61
       go_wp2_with (first | ((with_reducible refine Sh.d 7 ?_); refine Sh.bz w (N := 7) (cs := #[.int .i64 0, .int .i64 0]) (t := 59) (h := ?_); clear HB; intro gb599 w23 BK599 GE599 HB; obtain ⟨hcz24_0, hcz24_1, hfz24_0, hfz24_1⟩ := Sh.b2 BK599.out) | ((with_reducible refine Sh.d 40 ?_); refine Kd.R_lit k59 _ 59 ?hg (N := 40) ?hd (xs := ([(⟨(rd_T59 l0 a1).f0, wrap64 (1 - ((rd_T59 l0 a1).f1))⟩ : S59)] : List (S59))) (inner := [.int .i64 ((rd_T59 l0 a1).f0), .int .i64 (wrap64 (1 - ((rd_T59 l0 a1).f1)))]) (ok := fun _ => True) (okp := fun _ => True) ?hr ?hp (fun _ hk => hk) trivial (Below.refl _ _) (Nat.le_refl _) (by simp) ?_; (case hd => rfl); (case hg => rfl); (case hr => first | (go_simp; done) | (go_simp; rfl)); (case hp => exact (Reps.c2 (show Kd.M k59 _ _ _ (⟨(rd_T59 l0 a1).f0, wrap64 (1 - ((rd_T59 l0 a1).f1))⟩ : S59) [.int .i64 ((rd_T59 l0 a1).f0), .int .i64 (wrap64 (1 - ((rd_T59 l0 a1).f1)))] from (k59_mkM _ _ _ (⟨(rd_T59 l0 a1).f0, wrap64 (1 - ((rd_T59 l0 a1).f1))⟩ : S59) )) (Reps.none _ _))); intro v610 w25 ho26 hb hg_ hnew_; clear hg_ hnew_; (first | rw [← Ny609.out] at ho26 | (simp only [Int.reduceToNat] at ho26; rw [← Ny609.out] at ho26)); have HO611 := am_ (Kd.R_lower (Kd.R_newB ho26 (g := gb599) (o := .cells #[.int .i64 ((rd_T59 l0 a1).f0), .int .i64 (wrap64 (1 - ((rd_T59 l0 a1).f1)))] 59 (0, 0)) (by refine Sh.pl ?_; refine blk_put (cs := #[.int .i64 ((rd_T59 l0 a1).f0), .int .i64 0]) ?_ 1 _ rfl; refine Sh.pl ?_; refine blk_put (cs := #[.int .i64 0, .int .i64 0]) ?_ 0 _ rfl; refine Sh.pl ?_; exact BK599.out)) (below_size Sh.bw)); replace BK599 := am_ (blk_below (g := gb599) (o := .cells #[.int .i64 ((rd_T59 l0 a1).f0), .int .i64 (wrap64 (1 - ((rd_T59 l0 a1).f1)))] 59 (0, 0)) (by refine Sh.pl ?_; refine blk_put (cs := #[.int .i64 ((rd_T59 l0 a1).f0), .int .i64 0]) ?_ 1 _ rfl; refine Sh.pl ?_; refine blk_put (cs := #[.int .i64 0, .int .i64 0]) ?_ 0 _ rfl; refine Sh.pl ?_; exact BK599.out) hb); replace HB := Sh.hb hb; clear hb ho26))
       go_ret
       exact ⟨_, Sh.eR, Sh.rl (Kd.R_mono HO611.out (fun _ hk => trivial)), Sh.bw⟩
      ·replace c22 := Bool.eq_false_iff.mpr c22
       subst c22
       rw [Sh.nf] at H
       obtain ⟨y612, hy612⟩ : ∃ y_ : List (S59), y_ = (([(⟨(rd_T59 l0 a1).f0, (rd_T59 l0 a1).f1⟩ : S59)] : List (S59))) := ⟨_, rfl⟩
       replace H : (some y612) = some r := by first | (rw [hy612]; with_reducible exact H) | (have H2_ := (Option.bind_some _ _).symm.trans H; rw [hy612]; with_reducible exact H2_) | (have H2_ := (Option.bind_some _ _).symm.trans H; with_reducible exact H2_) | with_reducible exact H | (rw [hy612]; exact H) | exact H
       have Ny612 := am_ hy612
       clear hy612
       obtain rfl := Option.some.inj H
       have p598 : 0 ≤ (a1 : Int) := Sh.od
       have q598 : a1 < (l0.length : Int) := Sh.od
       obtain ⟨ad598, e598, hx598_0, hx598_1⟩ := at_T59 HR0.out a1 p598 q598
       cases e598
       replace p598 := eq_true p598
       replace q598 := eq_true q598
       go_enter Try.func61, Try.ntmps61
       go_wp2_with (first | ((with_reducible refine Sh.d 7 ?_); refine Sh.bz w (N := 7) (cs := #[.int .i64 0, .int .i64 0]) (t := 59) (h := ?_); clear HB; intro gb599 w27 BK599 GE599 HB; obtain ⟨hcz28_0, hcz28_1, hfz28_0, hfz28_1⟩ := Sh.b2 BK599.out) | ((with_reducible refine Sh.d 40 ?_); refine Kd.R_lit k59 _ 59 ?hg (N := 40) ?hd (xs := ([(⟨(rd_T59 l0 a1).f0, (rd_T59 l0 a1).f1⟩ : S59)] : List (S59))) (inner := [.int .i64 ((rd_T59 l0 a1).f0), .int .i64 ((rd_T59 l0 a1).f1)]) (ok := fun _ => True) (okp := fun _ => True) ?hr ?hp (fun _ hk => hk) trivial (Below.refl _ _) (Nat.le_refl _) (by simp) ?_; (case hd => rfl); (case hg => rfl); (case hr => first | (go_simp; done) | (go_simp; rfl)); (case hp => exact (Reps.c2 (show Kd.M k59 _ _ _ (⟨(rd_T59 l0 a1).f0, (rd_T59 l0 a1).f1⟩ : S59) [.int .i64 ((rd_T59 l0 a1).f0), .int .i64 ((rd_T59 l0 a1).f1)] from (k59_mkM _ _ _ (⟨(rd_T59 l0 a1).f0, (rd_T59 l0 a1).f1⟩ : S59) )) (Reps.none _ _))); intro v613 w29 ho30 hb hg_ hnew_; clear hg_ hnew_; (first | rw [← Ny612.out] at ho30 | (simp only [Int.reduceToNat] at ho30; rw [← Ny612.out] at ho30)); have HO614 := am_ (Kd.R_lower (Kd.R_newB ho30 (g := gb599) (o := .cells #[.int .i64 ((rd_T59 l0 a1).f0), .int .i64 ((rd_T59 l0 a1).f1)] 59 (0, 0)) (by refine Sh.pl ?_; refine blk_put (cs := #[.int .i64 ((rd_T59 l0 a1).f0), .int .i64 0]) ?_ 1 _ rfl; refine Sh.pl ?_; refine blk_put (cs := #[.int .i64 0, .int .i64 0]) ?_ 0 _ rfl; refine Sh.pl ?_; exact BK599.out)) (below_size Sh.bw)); replace BK599 := am_ (blk_below (g := gb599) (o := .cells #[.int .i64 ((rd_T59 l0 a1).f0), .int .i64 ((rd_T59 l0 a1).f1)] 59 (0, 0)) (by refine Sh.pl ?_; refine blk_put (cs := #[.int .i64 ((rd_T59 l0 a1).f0), .int .i64 0]) ?_ 1 _ rfl; refine Sh.pl ?_; refine blk_put (cs := #[.int .i64 0, .int .i64 0]) ?_ 0 _ rfl; refine Sh.pl ?_; exact BK599.out) hb); replace HB := Sh.hb hb; clear hb ho30))
       go_ret
       exact ⟨_, Sh.eR, Sh.rl (Kd.R_mono HO614.out (fun _ hk => trivial)), Sh.bw⟩
     ·rw [if_neg c21] at H
      have c21b0 : (((rd_T59 l0 a1).f0) == 2) = false := beq_eq_false_iff_ne.mpr c21
      have c21b1 : (((rd_T59 l0 a1).f0) != 2) = true := bne_iff_ne.mpr c21
      by_cases c31 : ((rd_T59 l0 a1).f0) = 4
      ·rw [if_pos c31] at H
       have c31b0 : (((rd_T59 l0 a1).f0) == 4) = true := beq_iff_eq.mpr c31
       have c31b1 : (((rd_T59 l0 a1).f0) != 4) = false := bne_eq_false_iff_eq.mpr c31
       clear c31
       obtain ⟨t615, A32, H⟩ := Sh.ba H
       obtain ⟨y618, hy618⟩ : ∃ y_ : List (S59), y_ = (([(⟨(rd_T59 l0 a1).f0, (rd_T59 l0 a1).f1⟩ : S59)] : List (S59))) := ⟨_, rfl⟩
       replace H : (if t615.length + y618.length < 8796093022208 then (some (t615 ++ y618)) else (none)) = some r := by first | (rw [hy618]; with_reducible exact H) | (have H2_ := (Option.bind_some _ _).symm.trans H; rw [hy618]; with_reducible exact H2_) | (have H2_ := (Option.bind_some _ _).symm.trans H; with_reducible exact H2_) | with_reducible exact H | (rw [hy618]; exact H) | exact H
       have Ny618 := am_ hy618
       clear hy618
       by_cases c33 : t615.length + y618.length < 8796093022208
       ·rw [if_pos c33] at H
        have LMc33 := am_ c33
        clear c33
        obtain ⟨y621, hy621⟩ : ∃ y_ : List (S59), y_ = (t615 ++ y618) := ⟨_, rfl⟩
        replace H : (some y621) = some r := by first | (rw [hy621]; with_reducible exact H) | (have H2_ := (Option.bind_some _ _).symm.trans H; rw [hy621]; with_reducible exact H2_) | (have H2_ := (Option.bind_some _ _).symm.trans H; with_reducible exact H2_) | with_reducible exact H | (rw [hy621]; exact H) | exact H
        have Ny621 := am_ hy621
        clear hy621
        obtain rfl := Option.some.inj H
        have p598 : 0 ≤ (a1 : Int) := Sh.od
        have q598 : a1 < (l0.length : Int) := Sh.od
        obtain ⟨ad598, e598, hx598_0, hx598_1⟩ := at_T59 HR0.out a1 p598 q598
        cases e598
        replace p598 := eq_true p598
        replace q598 := eq_true q598
        go_enter Try.func61, Try.ntmps61
        try go_wp2_with (first | ((with_reducible refine Sh.d 7 ?_); refine Sh.bz w (N := 7) (cs := #[.int .i64 0, .int .i64 0]) (t := 59) (h := ?_); clear HB; intro gb599 w34 BK599 GE599 HB; obtain ⟨hcz35_0, hcz35_1, hfz35_0, hfz35_1⟩ := Sh.b2 BK599.out))
        have n0_ : Aside0 (((w34.setCell ⟨gb599, 0, none⟩ (.int .i64 ((rd_T59 l0 a1).f0))).setCell ⟨gb599, 1, none⟩ (.int .i64 ((rd_T59 l0 a1).f1))).heap[gb599]? = some (.cells #[.int .i64 ((rd_T59 l0 a1).f0), .int .i64 ((rd_T59 l0 a1).f1)] 59 (0, 0))) := ⟨by refine Sh.pl ?_; refine blk_put (cs := #[.int .i64 ((rd_T59 l0 a1).f0), .int .i64 0]) ?_ 1 _ rfl; refine Sh.pl ?_; refine blk_put (cs := #[.int .i64 0, .int .i64 0]) ?_ 0 _ rfl; refine Sh.pl ?_; exact BK599.out⟩
        have n1_ : Aside0 (Below w.heap.size w ((w34.setCell ⟨gb599, 0, none⟩ (.int .i64 ((rd_T59 l0 a1).f0))).setCell ⟨gb599, 1, none⟩ (.int .i64 ((rd_T59 l0 a1).f1)))) := ⟨Sh.bw⟩
        (try clear BK599)
        (try clear HB)
        generalize ((w34.setCell ⟨gb599, 0, none⟩ (.int .i64 ((rd_T59 l0 a1).f0))).setCell ⟨gb599, 1, none⟩ (.int .i64 ((rd_T59 l0 a1).f1))) = w36 at n0_ n1_ ⊢
        have BK599 := n0_
        have HB := n1_
        clear n0_ n1_
        replace BK599 := am_ (blk_drew BK599.out)
        replace HB := am_ (below_drew1 HB.out)
        refine start_ (n := 9) (S := fun w' => w'.cell? ⟨gb599, 0, none⟩ = some (.int .i64 ((rd_T59 l0 a1).f0)) ∧ w'.cell? ⟨gb599, 1, none⟩ = some (.int .i64 ((rd_T59 l0 a1).f1))) (ds := []) (Sh.nm 9 0) (by kernel_rfl) rfl rfl Sh.cs (fun hHeld => ?_); refine with_tabW spec_l10Push.tab14 spec_l10Push.bits14 (fun HT_ HW_ => ?_)
        generalize w36.drew = w37 at BK599 HB hHeld ⊢
        refine Sh.qA 0 ?_; refine Sh.qA 1 ?_; refine Sh.qA 2 ?_; refine Sh.qA 3 ?_; refine Sh.qT 5 hHeld ?_
        refine join_ (σ := Value × Value) 2 (Sh.nm 9 127) (fun s_ => [(47, s_.1), (49, s_.2)]) (fun s_ w' => (w'.cell? ⟨gb599, 0, none⟩ = some (.int .i64 ((rd_T59 l0 a1).f0)) ∧ w'.cell? ⟨gb599, 1, none⟩ = some (.int .i64 ((rd_T59 l0 a1).f1))) ∧ (Kd.R k59 59 w' w.heap.size (fun k_ => some k_ ≠ (s_.2 : Value).ownBlock ∧ k_ ≠ gb599) s_.1 t615) ∧ (Kd.R k59 59 w' w.heap.size (fun k_ => some k_ ≠ (s_.1 : Value).ownBlock ∧ k_ ≠ gb599) s_.2 y618) ∧ (w'.heap[gb599]? = some (.cells #[.int .i64 ((rd_T59 l0 a1).f0), .int .i64 ((rd_T59 l0 a1).f1)] 59 (0, 0))) ∧ (Below w.heap.size w w')) ?_ ?_
        rotate_left
        ·intro hCont
         refine two_ (i := 4) (j := 6) (Ni := some 47) (Nj := some 49) (Sh.nm 9 63) (Sh.nm 9 111) rfl rfl rfl rfl (two_of HT_.out (by kernel_rfl)) (by decide) (by decide) (fun K hK => ?_) (fun K hK => ?_)
         ·skip
          refine goes_ Try.func61 (by kernel_rfl) rfl #[.slice (some ad598) l0.length c0, .int .i64 (wrap64 (a1 - 1)), .bool a2] (by rfl) rfl rfl (by (try simp only [List.map_toArray, List.map_cons, List.map_nil]); first | done | rfl | (simp only [List.length_drop, List.length_take]; rfl)) ?_
          with_reducible refine (ih k (by omega) _ _ l0 (wrap64 (a1 - 1)) a2 t615 _ ?side1 ?side2 A32.out).mono ?_
          (case side1 => repeat (first | exact (Kd.C_below HR0.out HB.out) | (with_reducible first | refine Kd.C_alloc ?_ _ | refine Kd.C_drewN ?_ _ | refine Kd.C_drew ?_)))
          (case side2 => exact HC0.out)
          rintro e w38 ⟨v616, rfl, ho0, hb⟩
          refine ⟨_, rfl, ?_⟩
          have HO617 := am_ (Kd.R_lower (Kd.R_newB ho0 (g := gb599) (o := .cells #[.int .i64 ((rd_T59 l0 a1).f0), .int .i64 ((rd_T59 l0 a1).f1)] 59 (0, 0)) (Sh.pl BK599.out)) (below_size Sh.bw))
          replace BK599 := Sh.ab BK599 hb
          replace HB := Sh.hb hb
          (try clear hb)
          (try clear hb2)
          (try clear hk)
          (try clear hi)
          (try clear ho0)
          refine Sh.kN hK Sh.cs fun hHeld => ?_
          clear hK K
          refine one_ (i := 6) (N := some 49) (Sh.nm 9 127) rfl rfl (one_of HT_.out (by kernel_rfl)) (by decide) (fun K hK => ?_)
          refine Kd.R_lit_step k59 _ 59 ?hg (N := 49) ?hd (xs := ([(⟨(rd_T59 l0 a1).f0, (rd_T59 l0 a1).f1⟩ : S59)] : List (S59))) (inner := [.int .i64 ((rd_T59 l0 a1).f0), .int .i64 ((rd_T59 l0 a1).f1)]) (ok := fun _ => True) (okp := fun _ => True) ?hr ?hp (fun _ hk => hk) trivial (Below.refl _ _) (Nat.le_refl _) (by simp) ?_; (case hd => rfl); (case hg => rfl); (case hr => first | (go_simp; done) | (go_simp; rfl)); (case hp => exact (Reps.c2 (show Kd.M k59 _ _ _ (⟨(rd_T59 l0 a1).f0, (rd_T59 l0 a1).f1⟩ : S59) [.int .i64 ((rd_T59 l0 a1).f0), .int .i64 ((rd_T59 l0 a1).f1)] from (k59_mkM _ _ _ (⟨(rd_T59 l0 a1).f0, (rd_T59 l0 a1).f1⟩ : S59) )) (Reps.none _ _)))
          intro v619 w39 ho40 hb hg_ hnew_
          clear hg_ hnew_
          (first | rw [← Ny618.out] at ho40 | (simp only [Int.reduceToNat] at ho40; rw [← Ny618.out] at ho40))
          have HO620 := am_ (Kd.R_lower (Kd.R_newB (Kd.R_new' ho40 (Kd.R_lt (Sh.rl HO617.out))) (g := gb599) (o := .cells #[.int .i64 ((rd_T59 l0 a1).f0), .int .i64 ((rd_T59 l0 a1).f1)] 59 (0, 0)) (Sh.pl BK599.out)) (below_size Sh.bw))
          replace HO617 := am_ (Kd.R_elder' (Sh.rl HO617.out) (Kd.R_base ho40) hb)
          replace BK599 := Sh.ab BK599 hb
          replace HB := Sh.hb hb
          clear hb ho40
          refine Sh.kN hK Sh.cs fun hHeld => ?_
          clear hK K
          exact norm_ (by simp only [putAll, Act.put, List.setIfInBounds_toArray, List.set_cons_zero, List.set_cons_succ]) (hCont (v616, v619) _ ⟨hHeld, (Sh.rl (Kd.R_mono HO617.out (fun _ h => ⟨h.2, h.1.2⟩))), (Sh.rl (Kd.R_mono HO620.out (fun _ h => ⟨h.1.2, h.2⟩))), (Sh.pl BK599.out), Sh.bw⟩)
         ·skip
          refine Kd.R_lit_step k59 _ 59 ?hg (N := 49) ?hd (xs := ([(⟨(rd_T59 l0 a1).f0, (rd_T59 l0 a1).f1⟩ : S59)] : List (S59))) (inner := [.int .i64 ((rd_T59 l0 a1).f0), .int .i64 ((rd_T59 l0 a1).f1)]) (ok := fun _ => True) (okp := fun _ => True) ?hr ?hp (fun _ hk => hk) trivial (Below.refl _ _) (Nat.le_refl _) (by simp) ?_; (case hd => rfl); (case hg => rfl); (case hr => first | (go_simp; done) | (go_simp; rfl)); (case hp => exact (Reps.c2 (show Kd.M k59 _ _ _ (⟨(rd_T59 l0 a1).f0, (rd_T59 l0 a1).f1⟩ : S59) [.int .i64 ((rd_T59 l0 a1).f0), .int .i64 ((rd_T59 l0 a1).f1)] from (k59_mkM _ _ _ (⟨(rd_T59 l0 a1).f0, (rd_T59 l0 a1).f1⟩ : S59) )) (Reps.none _ _)))
          intro v619 w38 ho39 hb hg_ hnew_
          clear hg_ hnew_
          (first | rw [← Ny618.out] at ho39 | (simp only [Int.reduceToNat] at ho39; rw [← Ny618.out] at ho39))
          have HO620 := am_ (Kd.R_lower (Kd.R_newB ho39 (g := gb599) (o := .cells #[.int .i64 ((rd_T59 l0 a1).f0), .int .i64 ((rd_T59 l0 a1).f1)] 59 (0, 0)) (Sh.pl BK599.out)) (below_size Sh.bw))
          replace BK599 := Sh.ab BK599 hb
          replace HB := Sh.hb hb
          clear hb ho39
          refine Sh.kN hK Sh.cs fun hHeld => ?_
          clear hK K
          refine Sh.oC 4 Try.func61 #[.slice (some ad598) l0.length c0, .int .i64 (wrap64 (a1 - 1)), .bool a2] fun K hK => ?_
          with_reducible refine (ih k (by omega) _ _ l0 (wrap64 (a1 - 1)) a2 t615 _ ?side1 ?side2 A32.out).mono ?_
          (case side1 => repeat (first | exact (Kd.C_below HR0.out HB.out) | (with_reducible first | refine Kd.C_alloc ?_ _ | refine Kd.C_drewN ?_ _ | refine Kd.C_drew ?_)))
          (case side2 => exact HC0.out)
          rintro e w40 ⟨v616, rfl, ho0, hb⟩
          refine ⟨_, rfl, ?_⟩
          have HO617 := am_ (Kd.R_lower (Kd.R_newB (Kd.R_new' ho0 (Kd.R_lt (Sh.rl HO620.out))) (g := gb599) (o := .cells #[.int .i64 ((rd_T59 l0 a1).f0), .int .i64 ((rd_T59 l0 a1).f1)] 59 (0, 0)) (Sh.pl BK599.out)) (below_size Sh.bw))
          replace HO620 := am_ (Kd.R_elder' (Sh.rl HO620.out) (Kd.R_base ho0) hb)
          replace BK599 := Sh.ab BK599 hb
          replace HB := Sh.hb hb
          (try clear hb)
          (try clear hb2)
          (try clear hk)
          (try clear hi)
          (try clear ho0)
          refine Sh.kN hK Sh.cs fun hHeld => ?_
          clear hK K
          exact norm_ (by simp only [putAll, Act.put, List.setIfInBounds_toArray, List.set_cons_zero, List.set_cons_succ]) (hCont (v616, v619) _ ⟨hHeld, (Sh.rl (Kd.R_mono HO617.out (fun _ h => ⟨h.1.2, h.2⟩))), (Sh.rl (Kd.R_mono HO620.out (fun _ h => ⟨h.2, h.1.2⟩))), (Sh.pl BK599.out), Sh.bw⟩)
        rintro ⟨v616, v619⟩ w41 ⟨hS_, h0_, h1_, h2_, h3_⟩
        have n0_ : Aside0 (Kd.R k59 59 w41 w.heap.size (fun k_ => some k_ ≠ (v619 : Value).ownBlock ∧ k_ ≠ gb599) v616 t615) := ⟨h0_⟩
        have n1_ : Aside0 (Kd.R k59 59 w41 w.heap.size (fun k_ => some k_ ≠ (v616 : Value).ownBlock ∧ k_ ≠ gb599) v619 y618) := ⟨h1_⟩
        have n2_ : Aside0 (w41.heap[gb599]? = some (.cells #[.int .i64 ((rd_T59 l0 a1).f0), .int .i64 ((rd_T59 l0 a1).f1)] 59 (0, 0))) := ⟨h2_⟩
        have n3_ : Aside0 (Below w.heap.size w w41) := ⟨h3_⟩
        clear BK599
        clear HB
        clear h0_ h1_ h2_ h3_
        have HO617 := n0_
        have HO620 := n1_
        have BK599 := n2_
        have HB := n3_
        clear n0_ n1_ n2_ n3_
        have hHeld : w41.cell? ⟨gb599, 0, none⟩ = some (.int .i64 ((rd_T59 l0 a1).f0)) ∧ w41.cell? ⟨gb599, 1, none⟩ = some (.int .i64 ((rd_T59 l0 a1).f1)) := hS_
        obtain ⟨Ao43, co43, eo43⟩ := Kd.R_slice HO620.out
        (first | subst eo43 | (injection eo43 with f1_ f2_ f3_; have f4_ := f1_.symm; have f5_ := f3_.symm; clear f1_ f2_ f3_; subst f4_; subst f5_))
        refine norm_ (a' := ?_) ?_ ?_
        rotate_left
        ·simp only [putAll, Act.put, List.setIfInBounds_toArray, List.set_cons_zero, List.set_cons_succ]
         rfl
        refine one_ (i := 7) (N := some 50) (Sh.nm 9 255) rfl rfl (one_of HT_.out (by kernel_rfl)) (by decide) (fun K hK => ?_)
        refine Kd.R_append_rows_step k59 (w0 := w) w.heap.size (by rfl) (.tmp 47) (.tmp 49) 27 59 (.agg #[(.int .i64 0), (.int .i64 0)]) 16 rfl Try.underlying27 info59 rfl (by decide) (by omega) v616 t615 y618 _ _ _ (fun k_ => some k_ ≠ (.slice Ao43 y618.length co43 : Value).ownBlock ∧ k_ ≠ gb599) (fun _ => False) rfl rfl ?aO ?aR (fun _ _ h => h) (fun _ h => h.elim) ?aF ?aB ?aS ?aL ?_
        (case aR => repeat (first | exact (Kd.R_reads' HO620.out).2.2 | (with_reducible first | refine Kd.C_alloc ?_ _ | refine Kd.C_drewN ?_ _ | refine Kd.C_drew ?_)))
        (case aB => exact Sh.bw)
        (case aF => exact (fun k_ hk => ⟨Kd.fresh' (Kd.R_lt (Sh.rl HO620.out)) k_ hk, Kd.freshB (g := gb599) (o := .cells #[.int .i64 ((rd_T59 l0 a1).f0), .int .i64 ((rd_T59 l0 a1).f1)] 59 (0, 0)) (Sh.pl BK599.out) k_ hk⟩))
        (case aO => exact (Sh.rl HO617.out))
        (case aS => exact (below_size Sh.bw))
        (case aL => have := LMc33.out; omega)
        intro v622 w42 ho hb hg hat
        rw [← Ny621.out] at ho
        have n0_ := am_ (blk_grown (g := gb599) (o := .cells #[.int .i64 ((rd_T59 l0 a1).f0), .int .i64 ((rd_T59 l0 a1).f1)] 59 (0, 0)) (Sh.pl BK599.out) hg (Kd.R_away HO617.out (fun _ hk => hk.2)))
        have n1_ := am_ (Kd.R_after (ok := (fun k_ => k_ ≠ gb599)) (Sh.rl (Kd.R_mono HO620.out (fun _ h => ⟨h.2, h.1⟩))) hg hat)
        have n2_ := am_ hb
        have n3_ := am_ ho
        clear BK599
        clear HO620
        clear HB
        clear HO617
        have BK599 := n0_
        have HO620 := n1_
        have HB := n2_
        have HO623 := n3_
        clear n0_ n1_ n2_ n3_
        clear ho hb hg hat
        refine Sh.kN hK Sh.cs fun hHeld => ?_
        clear hK K
        refine Sh.qA 8 ?_
        refine done_ (done_of HT_.out (by kernel_rfl)) ?_
        try go_wp2
        go_ret
        exact ⟨_, Sh.eR, Sh.rl (Kd.R_mono HO623.out (fun _ hk => trivial)), Sh.bw⟩
       ·rw [if_neg c33] at H
        exact absurd H (by simp)
      ·rw [if_neg c31] at H
       have c31b0 : (((rd_T59 l0 a1).f0) == 4) = false := beq_eq_false_iff_ne.mpr c31
       have c31b1 : (((rd_T59 l0 a1).f0) != 4) = true := bne_iff_ne.mpr c31
       by_cases c44 : a2 = true
       ·subst c44
        rw [if_pos rfl] at H
        obtain ⟨t624, A45, H⟩ := Sh.ba H
        obtain ⟨t625, A46, H⟩ := Sh.ba H
        obtain ⟨t626, A47, H⟩ := Sh.ba H
        obtain ⟨t629, A48, H⟩ := Sh.ba H
        by_cases c49 : t626.length + t629.length < 8796093022208
        ·rw [if_pos c49] at H
         have LMc49 := am_ c49
         clear c49
         obtain ⟨y632, hy632⟩ : ∃ y_ : List (S59), y_ = (t626 ++ t629) := ⟨_, rfl⟩
         replace H : ((some (([(⟨t624, 0⟩ : S59)] : List (S59)) : List (S59))).bind fun y635 => (if y632.length + y635.length < 8796093022208 then (some (y632 ++ y635)) else (none))) = some r := by first | (rw [hy632]; with_reducible exact H) | (have H2_ := (Option.bind_some _ _).symm.trans H; rw [hy632]; with_reducible exact H2_) | (have H2_ := (Option.bind_some _ _).symm.trans H; with_reducible exact H2_) | with_reducible exact H | (rw [hy632]; exact H) | exact H
         have Ny632 := am_ hy632
         clear hy632
         obtain ⟨y635, hy635⟩ : ∃ y_ : List (S59), y_ = (([(⟨t624, 0⟩ : S59)] : List (S59))) := ⟨_, rfl⟩
         replace H : (if y632.length + y635.length < 8796093022208 then (some (y632 ++ y635)) else (none)) = some r := by first | (rw [hy635]; with_reducible exact H) | (have H2_ := (Option.bind_some _ _).symm.trans H; rw [hy635]; with_reducible exact H2_) | (have H2_ := (Option.bind_some _ _).symm.trans H; with_reducible exact H2_) | with_reducible exact H | (rw [hy635]; exact H) | exact H
         have Ny635 := am_ hy635
         clear hy635
         by_cases c50 : y632.length + y635.length < 8796093022208
         ·rw [if_pos c50] at H
          have LMc50 := am_ c50
          clear c50
          obtain ⟨y638, hy638⟩ : ∃ y_ : List (S59), y_ = (y632 ++ y635) := ⟨_, rfl⟩
          replace H : (some y638) = some r := by first | (rw [hy638]; with_reducible exact H) | (have H2_ := (Option.bind_some _ _).symm.trans H; rw [hy638]; with_reducible exact H2_) | (have H2_ := (Option.bind_some _ _).symm.trans H; with_reducible exact H2_) | with_reducible exact H | (rw [hy638]; exact H) | exact H
          have Ny638 := am_ hy638
          clear hy638
          obtain rfl := Option.some.inj H
          have p598 : 0 ≤ (a1 : Int) := Sh.od
          have q598 : a1 < (l0.length : Int) := Sh.od
          obtain ⟨ad598, e598, hx598_0, hx598_1⟩ := at_T59 HR0.out a1 p598 q598
          cases e598
          replace p598 := eq_true p598
          replace q598 := eq_true q598
          go_enter Try.func61, Try.ntmps61
          go_wp2_with (first | ((with_reducible refine Sh.d 7 ?_); refine Sh.bz w (N := 7) (cs := #[.int .i64 0, .int .i64 0]) (t := 59) (h := ?_); clear HB; intro gb599 w51 BK599 GE599 HB; obtain ⟨hcz52_0, hcz52_1, hfz52_0, hfz52_1⟩ := Sh.b2 BK599.out) | ((with_reducible refine Sh.k 82 ?_); refine Sh.gD (some 55) Try.func82 #[.int .i64 ((rd_T59 l0 a1).f0)] (spec_l10Other.calls ((rd_T59 l0 a1).f0) t624 _ A45.out) fun nd => ?_) | ((with_reducible refine Sh.k 83 ?_); refine Sh.gD (some 60) Try.func83 #[.slice (some ad598) l0.length c0, .int .i64 (wrap64 (a1 - 1))] (spec_l10From.calls k _ _ l0 (wrap64 (a1 - 1)) t625 _ (Sh.cB HR0.out) HC0.out A46.out) fun nd => ?_) | ((with_reducible refine Sh.k 61 ?_); refine Sh.gL (some 63) Try.func61 #[.slice (some ad598) l0.length c0, .int .i64 (wrap64 (t625 - 1)), .bool true] (h := ?_); (with_reducible refine (ih k (by omega) _ _ l0 (wrap64 (t625 - 1)) true t626 _ (Sh.cB HR0.out) HC0.out A47.out).mono ?_); rintro e w53 ⟨v627, rfl, ho0, hb⟩; refine ⟨_, rfl, ?_⟩; have HO628 := am_ (Kd.R_lower (Kd.R_newB ho0 (g := gb599) (o := .cells #[.int .i64 ((rd_T59 l0 a1).f0), .int .i64 ((rd_T59 l0 a1).f1)] 59 (0, 0)) (by refine Sh.pl ?_; refine blk_put (cs := #[.int .i64 ((rd_T59 l0 a1).f0), .int .i64 0]) ?_ 1 _ rfl; refine Sh.pl ?_; refine blk_put (cs := #[.int .i64 0, .int .i64 0]) ?_ 0 _ rfl; refine Sh.pl ?_; exact BK599.out)) (below_size Sh.bw)); replace BK599 := am_ (blk_below (g := gb599) (o := .cells #[.int .i64 ((rd_T59 l0 a1).f0), .int .i64 ((rd_T59 l0 a1).f1)] 59 (0, 0)) (by refine Sh.pl ?_; refine blk_put (cs := #[.int .i64 ((rd_T59 l0 a1).f0), .int .i64 0]) ?_ 1 _ rfl; refine Sh.pl ?_; refine blk_put (cs := #[.int .i64 0, .int .i64 0]) ?_ 0 _ rfl; refine Sh.pl ?_; exact BK599.out) hb); replace HB := Sh.hb hb; (try clear hb); (try clear hb2); (try clear hk); (try clear hi); (try clear ho0)) | ((with_reducible refine Sh.k 61 ?_); refine Sh.gL (some 69) Try.func61 #[.slice (some ad598) l0.length c0, .int .i64 (wrap64 (a1 - 1)), .bool true] (h := ?_); (with_reducible refine (ih k (by omega) _ _ l0 (wrap64 (a1 - 1)) true t629 _ (Sh.cB HR0.out) HC0.out A48.out).mono ?_); rintro e w54 ⟨v630, rfl, ho0, hb⟩; refine ⟨_, rfl, ?_⟩; have HO631 := am_ (Kd.R_lower (Kd.R_newB (Kd.R_new' ho0 (Kd.R_lt (Sh.rl HO628.out))) (g := gb599) (o := .cells #[.int .i64 ((rd_T59 l0 a1).f0), .int .i64 ((rd_T59 l0 a1).f1)] 59 (0, 0)) (Sh.pl BK599.out)) (below_size Sh.bw)); replace HO628 := am_ (Kd.R_elder' (Sh.rl HO628.out) (Kd.R_base ho0) hb); replace BK599 := Sh.ab BK599 hb; replace HB := Sh.hb hb; (try clear hb); (try clear hb2); (try clear hk); (try clear hi); (try clear ho0); obtain ⟨Ao56, co56, eo56⟩ := Kd.R_slice HO631.out; subst eo56) | ((with_reducible refine gate_builtin (b := .append) (xs := #[.tmp 64, .tmp 69]) rfl ?_); at_builtin; refine Kd.R_append_rows k59 (w0 := w) w.heap.size rfl (.tmp 64) (.tmp 69) 27 59 (.agg #[(.int .i64 0), (.int .i64 0)]) 16 rfl Try.underlying27 info59 rfl (by decide) (by omega) v627 t626 t629 _ _ _ (fun k_ => some k_ ≠ (.slice Ao56 t629.length co56 : Value).ownBlock ∧ k_ ≠ gb599) (fun _ => False) rfl rfl ?aO ?aR (fun _ _ h => h) (fun _ h => h.elim) ?aF ?aB ?aS ?aL ?_; (case aR => repeat (first | exact (Kd.R_reads' HO631.out).2.2 | (with_reducible first | refine Kd.C_alloc ?_ _ | refine Kd.C_drewN ?_ _ | refine Kd.C_drew ?_))); (case aB => exact Sh.bw); (case aF => exact (fun k_ hk => ⟨Kd.fresh' (Kd.R_lt (Sh.rl HO631.out)) k_ hk, Kd.freshB (g := gb599) (o := .cells #[.int .i64 ((rd_T59 l0 a1).f0), .int .i64 ((rd_T59 l0 a1).f1)] 59 (0, 0)) (Sh.pl BK599.out) k_ hk⟩)); (case aO => exact (Sh.rl (Kd.R_mono HO628.out (fun _ h => ⟨h.2, h.1.2⟩)))); (case aS => exact (below_size Sh.bw)); (case aL => have := LMc49.out; omega); intro v633 w55 ho hb hg hat; rw [← Ny632.out] at ho; have n0_ := am_ (blk_grown (g := gb599) (o := .cells #[.int .i64 ((rd_T59 l0 a1).f0), .int .i64 ((rd_T59 l0 a1).f1)] 59 (0, 0)) (Sh.pl BK599.out) hg (Kd.R_away HO628.out (fun _ hk => hk.1.2))); have n1_ := am_ (Kd.R_after (ok := (fun k_ => k_ ≠ gb599)) (Sh.rl (Kd.R_mono HO631.out (fun _ h => ⟨h.2, h.1.2⟩))) hg hat); have n2_ := am_ hb; have n3_ := am_ ho; clear BK599; clear HO631; clear HB; clear HO628; have BK599 := n0_; have HO631 := n1_; have HB := n2_; have HO634 := n3_; clear n0_ n1_ n2_ n3_; clear ho hb hg hat) | ((with_reducible refine Sh.d 74 ?_); refine Kd.R_lit k59 _ 59 ?hg (N := 74) ?hd (xs := ([(⟨t624, 0⟩ : S59)] : List (S59))) (inner := [.int .i64 t624, .int .i64 0]) (ok := fun _ => True) (okp := fun _ => True) ?hr ?hp (fun _ hk => hk) trivial (Below.refl _ _) (Nat.le_refl _) (by simp) ?_; (case hd => rfl); (case hg => rfl); (case hr => first | (go_simp; done) | (go_simp; rfl)); (case hp => exact (Reps.c2 (show Kd.M k59 _ _ _ (⟨t624, 0⟩ : S59) [.int .i64 t624, .int .i64 0] from (k59_mkM _ _ _ (⟨t624, 0⟩ : S59) )) (Reps.none _ _))); intro v636 w57 ho58 hb hg_ hnew_; clear hg_ hnew_; (first | rw [← Ny635.out] at ho58 | (simp only [Int.reduceToNat] at ho58; rw [← Ny635.out] at ho58)); have n0_ := am_ (Kd.R_elder' (Sh.rl HO631.out) (Kd.R_base ho58) hb); have n1_ := am_ (Kd.R_elder' (Sh.rl HO634.out) (Kd.R_base ho58) hb); have n2_ := am_ (Kd.R_lower (Kd.R_newB (Kd.R_new' (Kd.R_new' ho58 (Kd.R_lt (Sh.rl HO631.out))) (Kd.R_lt (Sh.rl HO634.out))) (g := gb599) (o := .cells #[.int .i64 ((rd_T59 l0 a1).f0), .int .i64 ((rd_T59 l0 a1).f1)] 59 (0, 0)) (Sh.pl BK599.out)) (below_size Sh.bw)); have n3_ := am_ (Sh.bb BK599.out hb); have n4_ := am_ (below_step Sh.bw hb); clear HO631; clear HO634; clear BK599; clear HB; have HO631 := n0_; have HO634 := n1_; have HO637 := n2_; have BK599 := n3_; have HB := n4_; clear n0_ n1_ n2_ n3_ n4_; clear hb ho58; obtain ⟨Ao60, co60, eo60⟩ := Kd.R_slice HO637.out; subst eo60) | ((with_reducible refine gate_builtin (b := .append) (xs := #[.tmp 71, .tmp 74]) rfl ?_); at_builtin; refine Kd.R_append_rows k59 (w0 := w) w.heap.size rfl (.tmp 71) (.tmp 74) 27 59 (.agg #[(.int .i64 0), (.int .i64 0)]) 16 rfl Try.underlying27 info59 rfl (by decide) (by omega) v633 y632 y635 _ _ _ (fun k_ => some k_ ≠ (.slice Ao56 t629.length co56 : Value).ownBlock ∧ some k_ ≠ (.slice Ao60 y635.length co60 : Value).ownBlock ∧ k_ ≠ gb599) (fun _ => False) rfl rfl ?aO ?aR (fun _ _ h => h) (fun _ h => h.elim) ?aF ?aB ?aS ?aL ?_; (case aR => repeat (first | exact (Kd.R_reads' HO637.out).2.2 | (with_reducible first | refine Kd.C_alloc ?_ _ | refine Kd.C_drewN ?_ _ | refine Kd.C_drew ?_))); (case aB => exact Sh.bw); (case aF => exact (fun k_ hk => ⟨Kd.fresh' (Kd.R_lt (Sh.rl HO631.out)) k_ hk, Kd.fresh' (Kd.R_lt (Sh.rl HO637.out)) k_ hk, Kd.freshB (g := gb599) (o := .cells #[.int .i64 ((rd_T59 l0 a1).f0), .int .i64 ((rd_T59 l0 a1).f1)] 59 (0, 0)) (Sh.pl BK599.out) k_ hk⟩)); (case aO => exact (Sh.rl (Kd.R_mono HO634.out (fun _ h => ⟨h.1.1, h.2, h.1.2⟩)))); (case aS => exact (below_size Sh.bw)); (case aL => have := LMc50.out; omega); intro v639 w59 ho hb hg hat; rw [← Ny638.out] at ho; have n0_ := am_ (blk_grown (g := gb599) (o := .cells #[.int .i64 ((rd_T59 l0 a1).f0), .int .i64 ((rd_T59 l0 a1).f1)] 59 (0, 0)) (Sh.pl BK599.out) hg (Kd.R_away HO634.out (fun _ hk => hk.1.2))); have n1_ := am_ (Kd.R_after (ok := (fun k_ => some k_ ≠ (.slice Ao60 y635.length co60 : Value).ownBlock ∧ k_ ≠ gb599)) (Sh.rl (Kd.R_mono HO631.out (fun _ h => ⟨⟨h.2, h.1.1⟩, h.1.2⟩))) hg hat); have n2_ := am_ (Kd.R_after (ok := (fun k_ => some k_ ≠ (.slice Ao56 t629.length co56 : Value).ownBlock ∧ k_ ≠ gb599)) (Sh.rl (Kd.R_mono HO637.out (fun _ h => ⟨⟨h.1.1.2, h.2⟩, h.1.2⟩))) hg hat); have n3_ := am_ hb; have n4_ := am_ ho; clear BK599; clear HO631; clear HO637; clear HB; clear HO634; have BK599 := n0_; have HO631 := n1_; have HO637 := n2_; have HB := n3_; have HO640 := n4_; clear n0_ n1_ n2_ n3_ n4_; clear ho hb hg hat))
          go_ret
          exact ⟨_, Sh.eR, Sh.rl (Kd.R_mono HO640.out (fun _ hk => trivial)), Sh.bw⟩
         ·rw [if_neg c50] at H
          exact absurd H (by simp)
        ·rw [if_neg c49] at H
         exact absurd H (by simp)
       ·replace c44 := Bool.eq_false_iff.mpr c44
        subst c44
        rw [Sh.nf] at H
        obtain ⟨t641, A61, H⟩ := Sh.ba H
        obtain ⟨t642, A62, H⟩ := Sh.ba H
        obtain ⟨t645, A63, H⟩ := Sh.ba H
        by_cases c64 : t642.length + t645.length < 8796093022208
        ·rw [if_pos c64] at H
         have LMc64 := am_ c64
         clear c64
         obtain ⟨y648, hy648⟩ : ∃ y_ : List (S59), y_ = (t642 ++ t645) := ⟨_, rfl⟩
         replace H : ((some (([(⟨(rd_T59 l0 a1).f0, 0⟩ : S59)] : List (S59)) : List (S59))).bind fun y651 => (if y648.length + y651.length < 8796093022208 then (some (y648 ++ y651)) else (none))) = some r := by first | (rw [hy648]; with_reducible exact H) | (have H2_ := (Option.bind_some _ _).symm.trans H; rw [hy648]; with_reducible exact H2_) | (have H2_ := (Option.bind_some _ _).symm.trans H; with_reducible exact H2_) | with_reducible exact H | (rw [hy648]; exact H) | exact H
         have Ny648 := am_ hy648
         clear hy648
         obtain ⟨y651, hy651⟩ : ∃ y_ : List (S59), y_ = (([(⟨(rd_T59 l0 a1).f0, 0⟩ : S59)] : List (S59))) := ⟨_, rfl⟩
         replace H : (if y648.length + y651.length < 8796093022208 then (some (y648 ++ y651)) else (none)) = some r := by first | (rw [hy651]; with_reducible exact H) | (have H2_ := (Option.bind_some _ _).symm.trans H; rw [hy651]; with_reducible exact H2_) | (have H2_ := (Option.bind_some _ _).symm.trans H; with_reducible exact H2_) | with_reducible exact H | (rw [hy651]; exact H) | exact H
         have Ny651 := am_ hy651
         clear hy651
         by_cases c65 : y648.length + y651.length < 8796093022208
         ·rw [if_pos c65] at H
          have LMc65 := am_ c65
          clear c65
          obtain ⟨y654, hy654⟩ : ∃ y_ : List (S59), y_ = (y648 ++ y651) := ⟨_, rfl⟩
          replace H : (some y654) = some r := by first | (rw [hy654]; with_reducible exact H) | (have H2_ := (Option.bind_some _ _).symm.trans H; rw [hy654]; with_reducible exact H2_) | (have H2_ := (Option.bind_some _ _).symm.trans H; with_reducible exact H2_) | with_reducible exact H | (rw [hy654]; exact H) | exact H
          have Ny654 := am_ hy654
          clear hy654
          obtain rfl := Option.some.inj H
          have p598 : 0 ≤ (a1 : Int) := Sh.od
          have q598 : a1 < (l0.length : Int) := Sh.od
          obtain ⟨ad598, e598, hx598_0, hx598_1⟩ := at_T59 HR0.out a1 p598 q598
          cases e598
          replace p598 := eq_true p598
          replace q598 := eq_true q598
          go_enter Try.func61, Try.ntmps61
          go_wp2_with (first | ((with_reducible refine Sh.d 7 ?_); refine Sh.bz w (N := 7) (cs := #[.int .i64 0, .int .i64 0]) (t := 59) (h := ?_); clear HB; intro gb599 w66 BK599 GE599 HB; obtain ⟨hcz67_0, hcz67_1, hfz67_0, hfz67_1⟩ := Sh.b2 BK599.out) | ((with_reducible refine Sh.k 83 ?_); refine Sh.gD (some 60) Try.func83 #[.slice (some ad598) l0.length c0, .int .i64 (wrap64 (a1 - 1))] (spec_l10From.calls k _ _ l0 (wrap64 (a1 - 1)) t641 _ (Sh.cB HR0.out) HC0.out A61.out) fun nd => ?_) | ((with_reducible refine Sh.k 61 ?_); refine Sh.gL (some 63) Try.func61 #[.slice (some ad598) l0.length c0, .int .i64 (wrap64 (t641 - 1)), .bool false] (h := ?_); (with_reducible refine (ih k (by omega) _ _ l0 (wrap64 (t641 - 1)) false t642 _ (Sh.cB HR0.out) HC0.out A62.out).mono ?_); rintro e w68 ⟨v643, rfl, ho0, hb⟩; refine ⟨_, rfl, ?_⟩; have HO644 := am_ (Kd.R_lower (Kd.R_newB ho0 (g := gb599) (o := .cells #[.int .i64 ((rd_T59 l0 a1).f0), .int .i64 ((rd_T59 l0 a1).f1)] 59 (0, 0)) (by refine Sh.pl ?_; refine blk_put (cs := #[.int .i64 ((rd_T59 l0 a1).f0), .int .i64 0]) ?_ 1 _ rfl; refine Sh.pl ?_; refine blk_put (cs := #[.int .i64 0, .int .i64 0]) ?_ 0 _ rfl; refine Sh.pl ?_; exact BK599.out)) (below_size Sh.bw)); replace BK599 := am_ (blk_below (g := gb599) (o := .cells #[.int .i64 ((rd_T59 l0 a1).f0), .int .i64 ((rd_T59 l0 a1).f1)] 59 (0, 0)) (by refine Sh.pl ?_; refine blk_put (cs := #[.int .i64 ((rd_T59 l0 a1).f0), .int .i64 0]) ?_ 1 _ rfl; refine Sh.pl ?_; refine blk_put (cs := #[.int .i64 0, .int .i64 0]) ?_ 0 _ rfl; refine Sh.pl ?_; exact BK599.out) hb); replace HB := Sh.hb hb; (try clear hb); (try clear hb2); (try clear hk); (try clear hi); (try clear ho0)) | ((with_reducible refine Sh.k 61 ?_); refine Sh.gL (some 69) Try.func61 #[.slice (some ad598) l0.length c0, .int .i64 (wrap64 (a1 - 1)), .bool false] (h := ?_); (with_reducible refine (ih k (by omega) _ _ l0 (wrap64 (a1 - 1)) false t645 _ (Sh.cB HR0.out) HC0.out A63.out).mono ?_); rintro e w69 ⟨v646, rfl, ho0, hb⟩; refine ⟨_, rfl, ?_⟩; have HO647 := am_ (Kd.R_lower (Kd.R_newB (Kd.R_new' ho0 (Kd.R_lt (Sh.rl HO644.out))) (g := gb599) (o := .cells #[.int .i64 ((rd_T59 l0 a1).f0), .int .i64 ((rd_T59 l0 a1).f1)] 59 (0, 0)) (Sh.pl BK599.out)) (below_size Sh.bw)); replace HO644 := am_ (Kd.R_elder' (Sh.rl HO644.out) (Kd.R_base ho0) hb); replace BK599 := Sh.ab BK599 hb; replace HB := Sh.hb hb; (try clear hb); (try clear hb2); (try clear hk); (try clear hi); (try clear ho0); obtain ⟨Ao71, co71, eo71⟩ := Kd.R_slice HO647.out; subst eo71) | ((with_reducible refine gate_builtin (b := .append) (xs := #[.tmp 64, .tmp 69]) rfl ?_); at_builtin; refine Kd.R_append_rows k59 (w0 := w) w.heap.size rfl (.tmp 64) (.tmp 69) 27 59 (.agg #[(.int .i64 0), (.int .i64 0)]) 16 rfl Try.underlying27 info59 rfl (by decide) (by omega) v643 t642 t645 _ _ _ (fun k_ => some k_ ≠ (.slice Ao71 t645.length co71 : Value).ownBlock ∧ k_ ≠ gb599) (fun _ => False) rfl rfl ?aO ?aR (fun _ _ h => h) (fun _ h => h.elim) ?aF ?aB ?aS ?aL ?_; (case aR => repeat (first | exact (Kd.R_reads' HO647.out).2.2 | (with_reducible first | refine Kd.C_alloc ?_ _ | refine Kd.C_drewN ?_ _ | refine Kd.C_drew ?_))); (case aB => exact Sh.bw); (case aF => exact (fun k_ hk => ⟨Kd.fresh' (Kd.R_lt (Sh.rl HO647.out)) k_ hk, Kd.freshB (g := gb599) (o := .cells #[.int .i64 ((rd_T59 l0 a1).f0), .int .i64 ((rd_T59 l0 a1).f1)] 59 (0, 0)) (Sh.pl BK599.out) k_ hk⟩)); (case aO => exact (Sh.rl (Kd.R_mono HO644.out (fun _ h => ⟨h.2, h.1.2⟩)))); (case aS => exact (below_size Sh.bw)); (case aL => have := LMc64.out; omega); intro v649 w70 ho hb hg hat; rw [← Ny648.out] at ho; have n0_ := am_ (blk_grown (g := gb599) (o := .cells #[.int .i64 ((rd_T59 l0 a1).f0), .int .i64 ((rd_T59 l0 a1).f1)] 59 (0, 0)) (Sh.pl BK599.out) hg (Kd.R_away HO644.out (fun _ hk => hk.1.2))); have n1_ := am_ (Kd.R_after (ok := (fun k_ => k_ ≠ gb599)) (Sh.rl (Kd.R_mono HO647.out (fun _ h => ⟨h.2, h.1.2⟩))) hg hat); have n2_ := am_ hb; have n3_ := am_ ho; clear BK599; clear HO647; clear HB; clear HO644; have BK599 := n0_; have HO647 := n1_; have HB := n2_; have HO650 := n3_; clear n0_ n1_ n2_ n3_; clear ho hb hg hat) | ((with_reducible refine Sh.d 74 ?_); refine Kd.R_lit k59 _ 59 ?hg (N := 74) ?hd (xs := ([(⟨(rd_T59 l0 a1).f0, 0⟩ : S59)] : List (S59))) (inner := [.int .i64 ((rd_T59 l0 a1).f0), .int .i64 0]) (ok := fun _ => True) (okp := fun _ => True) ?hr ?hp (fun _ hk => hk) trivial (Below.refl _ _) (Nat.le_refl _) (by simp) ?_; (case hd => rfl); (case hg => rfl); (case hr => first | (go_simp; done) | (go_simp; rfl)); (case hp => exact (Reps.c2 (show Kd.M k59 _ _ _ (⟨(rd_T59 l0 a1).f0, 0⟩ : S59) [.int .i64 ((rd_T59 l0 a1).f0), .int .i64 0] from (k59_mkM _ _ _ (⟨(rd_T59 l0 a1).f0, 0⟩ : S59) )) (Reps.none _ _))); intro v652 w72 ho73 hb hg_ hnew_; clear hg_ hnew_; (first | rw [← Ny651.out] at ho73 | (simp only [Int.reduceToNat] at ho73; rw [← Ny651.out] at ho73)); have n0_ := am_ (Kd.R_elder' (Sh.rl HO647.out) (Kd.R_base ho73) hb); have n1_ := am_ (Kd.R_elder' (Sh.rl HO650.out) (Kd.R_base ho73) hb); have n2_ := am_ (Kd.R_lower (Kd.R_newB (Kd.R_new' (Kd.R_new' ho73 (Kd.R_lt (Sh.rl HO647.out))) (Kd.R_lt (Sh.rl HO650.out))) (g := gb599) (o := .cells #[.int .i64 ((rd_T59 l0 a1).f0), .int .i64 ((rd_T59 l0 a1).f1)] 59 (0, 0)) (Sh.pl BK599.out)) (below_size Sh.bw)); have n3_ := am_ (Sh.bb BK599.out hb); have n4_ := am_ (below_step Sh.bw hb); clear HO647; clear HO650; clear BK599; clear HB; have HO647 := n0_; have HO650 := n1_; have HO653 := n2_; have BK599 := n3_; have HB := n4_; clear n0_ n1_ n2_ n3_ n4_; clear hb ho73; obtain ⟨Ao75, co75, eo75⟩ := Kd.R_slice HO653.out; subst eo75) | ((with_reducible refine gate_builtin (b := .append) (xs := #[.tmp 71, .tmp 74]) rfl ?_); at_builtin; refine Kd.R_append_rows k59 (w0 := w) w.heap.size rfl (.tmp 71) (.tmp 74) 27 59 (.agg #[(.int .i64 0), (.int .i64 0)]) 16 rfl Try.underlying27 info59 rfl (by decide) (by omega) v649 y648 y651 _ _ _ (fun k_ => some k_ ≠ (.slice Ao71 t645.length co71 : Value).ownBlock ∧ some k_ ≠ (.slice Ao75 y651.length co75 : Value).ownBlock ∧ k_ ≠ gb599) (fun _ => False) rfl rfl ?aO ?aR (fun _ _ h => h) (fun _ h => h.elim) ?aF ?aB ?aS ?aL ?_; (case aR => repeat (first | exact (Kd.R_reads' HO653.out).2.2 | (with_reducible first | refine Kd.C_alloc ?_ _ | refine Kd.C_drewN ?_ _ | refine Kd.C_drew ?_))); (case aB => exact Sh.bw); (case aF => exact (fun k_ hk => ⟨Kd.fresh' (Kd.R_lt (Sh.rl HO647.out)) k_ hk, Kd.fresh' (Kd.R_lt (Sh.rl HO653.out)) k_ hk, Kd.freshB (g := gb599) (o := .cells #[.int .i64 ((rd_T59 l0 a1).f0), .int .i64 ((rd_T59 l0 a1).f1)] 59 (0, 0)) (Sh.pl BK599.out) k_ hk⟩)); (case aO => exact (Sh.rl (Kd.R_mono HO650.out (fun _ h => ⟨h.1.1, h.2, h.1.2⟩)))); (case aS => exact (below_size Sh.bw)); (case aL => have := LMc65.out; omega); intro v655 w74 ho hb hg hat; rw [← Ny654.out] at ho; have n0_ := am_ (blk_grown (g := gb599) (o := .cells #[.int .i64 ((rd_T59 l0 a1).f0), .int .i64 ((rd_T59 l0 a1).f1)] 59 (0, 0)) (Sh.pl BK599.out) hg (Kd.R_away HO650.out (fun _ hk => hk.1.2))); have n1_ := am_ (Kd.R_after (ok := (fun k_ => some k_ ≠ (.slice Ao75 y651.length co75 : Value).ownBlock ∧ k_ ≠ gb599)) (Sh.rl (Kd.R_mono HO647.out (fun _ h => ⟨⟨h.2, h.1.1⟩, h.1.2⟩))) hg hat); have n2_ := am_ (Kd.R_after (ok := (fun k_ => some k_ ≠ (.slice Ao71 t645.length co71 : Value).ownBlock ∧ k_ ≠ gb599)) (Sh.rl (Kd.R_mono HO653.out (fun _ h => ⟨⟨h.1.1.2, h.2⟩, h.1.2⟩))) hg hat); have n3_ := am_ hb; have n4_ := am_ ho; clear BK599; clear HO647; clear HO653; clear HB; clear HO650; have BK599 := n0_; have HO647 := n1_; have HO653 := n2_; have HB := n3_; have HO656 := n4_; clear n0_ n1_ n2_ n3_ n4_; clear ho hb hg hat))
          go_ret
          exact ⟨_, Sh.eR, Sh.rl (Kd.R_mono HO656.out (fun _ hk => trivial)), Sh.bw⟩
         ·rw [if_neg c65] at H
          exact absurd H (by simp)
        ·rw [if_neg c64] at H
         exact absurd H (by simp)
  ·rw [if_neg c5] at H
   exact absurd H (by simp)
 ·rw [if_neg c4] at H
  exact absurd H (by simp)

end Go.Proofs.Ytaacldndbjmekaa.P
