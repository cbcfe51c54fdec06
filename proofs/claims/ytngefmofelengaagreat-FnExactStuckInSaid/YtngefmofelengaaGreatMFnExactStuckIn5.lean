/- Go functions of this seat as Lean functions, and the proofs that the calls come to what these say; printed by a program of this session. No condition. -/
import Derived.Test.YtngefmofelengaaGreatP0
import Derived.Test.YtngefmofelengaaGreatMFnExactStuckIn4
import Derived.Test.YtngefmofelengaaGreatMFnExactStuckIn2
import Derived.Test.YtngefmofelengaaGreatMFnExactStuckIn3
import Derived.Test.YtngefmofelengaaGreatMFnExactStuckIn1
set_option linter.unusedVariables false
set_option linter.unusedSimpArgs false
set_option maxHeartbeats 40000000
set_option maxRecDepth 100000
namespace Go.Proofs.YtngefmofelengaaGreat.P
open Go.RowKit Go.Proofs.YtngefmofelengaaGreatW.PrintWords Go.Proofs.YtngefmofelengaaGreatW.PrintLast Go.Proofs.YtngefmofelengaaGreatW.PrintMore Go.Proofs.YtngefmofelengaaGreat.Hof
attribute [local go_sem] max2_int min2_int max_two min_two max_three min_three max_four min_four
def impl_reachedFrom.l0 : Nat → List Int → List Int → Int → Int → Option (List Int)
 | 0, _, _, _, _ => none
 | k + 1, x5, x11, x12, x13 => if x13 < x12 then (if 0 ≤ x13 then (if x13 < (x11.length : Int) then (if (rd x11 x13) ≥ 0 then (if x5.length < 17592186044416 then (impl_reachedFrom.l0 k (x5 ++ [x13]) x11 x12 (wrap64 (x13 + 1))) else (none)) else (impl_reachedFrom.l0 k x5 x11 x12 (wrap64 (x13 + 1)))) else (none)) else (none)) else (some x5)
def impl_reachedFrom.f (k : Nat) (l0 : List (List Int)) (l1 : List Int) : Option (List Int) := (impl_stepsFrom.f k l0 l1).bind fun t741 => (impl_reachedFrom.l0 k (([] : List Int)) t741 (t741.length : Int) 0)
theorem impl_reachedFrom.mono_l : ∀ k, (∀ y0 y1 y2 y3, LeO (impl_reachedFrom.l0 k y0 y1 y2 y3) (impl_reachedFrom.l0 (k + 1) y0 y1 y2 y3))
 | 0 => fun _ _ _ _ r h => by simp [impl_reachedFrom.l0] at h
 | k + 1 => by
  have ih0 := impl_reachedFrom.mono_l k
  ·intro y0 y1 y2 y3
   unfold impl_reachedFrom.l0
   repeat' with_reducible first | apply ih0 | apply impl_stepsFrom.mono | exact LeO.refl _ | exact LeO.none _ | apply LeO.ite | refine LeO.bind ?_ fun _ => ?_
theorem impl_reachedFrom.mono : ∀ a0 a1 k, LeO (impl_reachedFrom.f k a0 a1) (impl_reachedFrom.f (k + 1) a0 a1) := by
 intro a0 a1 k
 have ih0 := impl_reachedFrom.mono_l k
 unfold impl_reachedFrom.f
 repeat' with_reducible first | apply ih0 | apply impl_stepsFrom.mono | exact LeO.refl _ | exact LeO.none _ | apply LeO.ite | refine LeO.bind ?_ fun _ => ?_
theorem impl_reachedFrom.calls (k : Nat) (A0 : Option Addr) (c0 : Nat) (l0 : List (List Int)) (A1 : Option Addr) (c1 : Nat) (l1 : List Int) (r : List Int) (w : World) (hr0 : Kd.C (Kd.slice 3 (Kd.int .i64)) w A0 l0.length l0) (hc0 : l0.length ≤ c0) (hr1 : Kd.C (Kd.int .i64) w A1 l1.length l1) (hc1 : l1.length ≤ c1) (h : impl_reachedFrom.f k l0 l1 = some r) :
  Calls Tryz.prog 80 #[.slice A0 l0.length c0, .slice A1 l1.length c1] w fun e w' => ∃ v0_ : Value, e = .returned (v0_) ∧ Kd.R (Kd.int .i64) 3 w' w.heap.size (fun _ => True) v0_ r ∧ Below w.heap.size w w' := by
 have HR0 := am_ hr0
 have HC0 := am_ hc0
 clear hr0 hc0
 have HR1 := am_ hr1
 have HC1 := am_ hc1
 clear hr1 hc1
 have HB := am_ (Below.refl w.heap.size w)
 have H := h
 clear h
 unfold impl_reachedFrom.f at H
 obtain ⟨y738, hy738⟩ : ∃ y_ : List Int, y_ = (([] : List Int)) := ⟨_, rfl⟩
 replace H : ((impl_stepsFrom.f k l0 l1).bind fun t741 => (impl_reachedFrom.l0 k y738 t741 (t741.length : Int) 0)) = some r := by first | (rw [hy738]; with_reducible exact H) | (have H2_ := (Option.bind_some _ _).symm.trans H; rw [hy738]; with_reducible exact H2_) | (have H2_ := (Option.bind_some _ _).symm.trans H; with_reducible exact H2_) | with_reducible exact H | (rw [hy738]; exact H) | exact H
 have Ny738 := am_ hy738
 clear hy738
 obtain ⟨t741, A3, H⟩ := Sh.ba H
 have H' := am_ H
 clear H
 go_enter Tryz.func80, Tryz.ntmps80
 go_wp2_with (first | ((with_reducible refine Sh.d 8 ?_); refine Kd.R_lit (Kd.int .i64) _ 3 ?hg (N := 8) ?hd (xs := ([] : List Int)) (inner := []) (ok := fun _ => True) (okp := fun _ => True) ?hr ?hp (fun _ hk => hk) trivial (Below.refl _ _) (Nat.le_refl _) (by simp) ?_; (case hd => rfl); (case hg => rfl); (case hr => first | (go_simp; done) | (go_simp; rfl)); (case hp => exact (Reps.none _ _)); intro v739 w4 ho5 hb hg_ hnew_; clear hg_ hnew_; (first | rw [← Ny738.out] at ho5 | (simp only [Int.reduceToNat] at ho5; rw [← Ny738.out] at ho5)); have HO740 := am_ (Kd.R_lower ho5 (below_size Sh.bw)); replace HB := Sh.hb hb; clear hb ho5) | ((with_reducible refine Sh.k 70 ?_); refine Sh.gL (some 11) Tryz.func70 #[.slice A0 l0.length c0, .slice A1 l1.length c1] (h := ?_); (with_reducible refine (impl_stepsFrom.calls k _ _ l0 _ _ l1 t741 _ (Sh.cB HR0.out) HC0.out (Sh.cB HR1.out) HC1.out A3.out).mono ?_); rintro e w6 ⟨v742, rfl, ho0, hb⟩; refine ⟨_, rfl, ?_⟩; have HO743 := am_ (Kd.R_lower (Kd.R_new' ho0 (Kd.R_lt (Sh.rl HO740.out))) (below_size Sh.bw)); replace HO740 := am_ (Kd.R_elder' (Sh.rl HO740.out) (Kd.R_base ho0) hb); replace HB := Sh.hb hb; (try clear hb); (try clear hk); (try clear ho0); obtain ⟨Ao7, co7, eo7⟩ := Kd.R_slice HO743.out; subst eo7))
 go_loopg [5, 13] k (fun kq v5 v13 w' => ∃ (x5_1 : List Int) (x13_1 : Int), v13 = .int .i64 x13_1 ∧ Aside0 (impl_reachedFrom.l0 kq x5_1 t741 (t741.length : Int) x13_1 = some r) ∧ Aside0 (kq ≤ k) ∧ Aside0 (Kd.R (Kd.int .i64) 3 w' w.heap.size (fun k_ => some k_ ≠ ((.slice Ao7 t741.length co7) : Value).ownBlock) v5 x5_1) ∧ Aside0 (Kd.R (Kd.int .i64) 3 w' w.heap.size (fun k_ => some k_ ≠ (v5 : Value).ownBlock) (.slice Ao7 t741.length co7) t741) ∧ Aside0 (Below w.heap.size w w'))
 case atStart => exact ⟨(y738), (0), (Sh.es), H', ⟨Nat.le_refl _⟩, ⟨Sh.rl (Kd.R_mono HO740.out (fun _ hk => hk.2))⟩, ⟨Sh.rl (Kd.R_mono HO743.out (fun _ hk => hk.2))⟩, ⟨Sh.bw⟩⟩
 case round =>
  clear H'
  obtain ⟨x5_1, x13_1, rfl, HA, HK1, HO_5, HO_11, HB⟩ := hrel
  cases gk with
  | zero => exact absurd HA.out (by simp [impl_reachedFrom.l0])
  | succ k1 =>
   have H := HA.out
   clear HA
   simp only [impl_reachedFrom.l0] at H
   by_cases c8 : x13_1 < (t741.length : Int)
   ·rw [if_pos c8] at H
    replace c8 := decide_eq_true c8
    by_cases c9 : 0 ≤ x13_1
    ·rw [if_pos c9] at H
     replace c9 := decide_eq_true c9
     by_cases c10 : x13_1 < (t741.length : Int)
     ·rw [if_pos c10] at H
      replace c10 := decide_eq_true c10
      by_cases c11 : (rd t741 x13_1) ≥ 0
      ·rw [if_pos c11] at H
       have c11b0 : decide (0 ≤ (rd t741 x13_1)) = true := decide_eq_true c11
       clear c11
       by_cases c12 : x5_1.length < 17592186044416
       ·rw [if_pos c12] at H
        have LMc12 := am_ c12
        clear c12
        obtain ⟨y745, hy745⟩ : ∃ y_ : List Int, y_ = (x5_1 ++ [x13_1]) := ⟨_, rfl⟩
        replace H : (impl_reachedFrom.l0 k1 y745 t741 (t741.length : Int) (wrap64 (x13_1 + 1))) = some r := by first | (rw [hy745]; with_reducible exact H) | (have H2_ := (Option.bind_some _ _).symm.trans H; rw [hy745]; with_reducible exact H2_) | (have H2_ := (Option.bind_some _ _).symm.trans H; with_reducible exact H2_) | with_reducible exact H | (rw [hy745]; exact H) | exact H
        have Ny745 := am_ hy745
        clear hy745
        have H' := am_ H
        clear H
        have p744 : 0 ≤ (x13_1 : Int) := Sh.od
        have q744 : x13_1 < (t741.length : Int) := Sh.od
        obtain ⟨ad744, e744, hx744_0⟩ := Kd.at_int (Kd.R_reads' HO_11.out).2.2 x13_1 p744 q744
        cases e744
        replace p744 := eq_true p744
        replace q744 := eq_true q744
        go_wp2_with (first | ((with_reducible refine gate_builtin (b := .append) (xs := #[.tmp 20, .tmp 22]) rfl ?_); at_builtin; refine Kd.R_append (Kd.int .i64) (w0 := w) w.heap.size rfl (.tmp 20) (.tmp 22) 27 3 (.int .i64 0) 8 rfl Tryz.underlying27 info3 rfl (by decide) (by omega) u5 x5_1 x13_1 [.int .i64 x13_1] (fun k_ => some k_ ≠ (.slice (some ad744) t741.length co7 : Value).ownBlock) (fun _ => False) rfl rfl ?aP (fun _ hk => hk.elim) ?aF ?aO ?aB ?aS ?aL ?_; (case aP => exact rfl); (case aB => exact Sh.bw); (case aF => exact (fun k_ hk => Kd.fresh' (Kd.R_lt (Sh.rl HO_11.out)) k_ hk)); (case aO => exact (Sh.rl HO_5.out)); (case aS => exact (below_size Sh.bw)); (case aL => have := LMc12.out; omega); intro v746 w13 ho hb hg hat; rw [← Ny745.out] at ho; have n0_ := am_ (Kd.R_after (ok := (fun _ => True)) (Sh.rl (Kd.R_mono HO_11.out (fun _ hk => ⟨trivial, hk⟩))) hg hat); have n1_ := am_ hb; have n2_ := am_ ho; clear HO_11; clear HB; clear HO_5; have HO_11 := n0_; have HB := n1_; have HO747 := n2_; clear n0_ n1_ n2_; clear ho hb hg hat))
        go_roundg k1
        case measure => have := HK1.out; omega
        case rel => exact ⟨(y745), (wrap64 (x13_1 + 1)), (Sh.es), H', ⟨by have := HK1.out; omega⟩, ⟨Sh.rl HO747.out⟩, ⟨Sh.rl (Kd.R_mono HO_11.out (fun _ hk => hk.2))⟩, ⟨Sh.bw⟩⟩
       ·rw [if_neg c12] at H
        cases H
      ·rw [if_neg c11] at H
       have c11b0 : decide (0 ≤ (rd t741 x13_1)) = false := decide_eq_false c11
       clear c11
       have H' := am_ H
       clear H
       have p744 : 0 ≤ (x13_1 : Int) := Sh.od
       have q744 : x13_1 < (t741.length : Int) := Sh.od
       obtain ⟨ad744, e744, hx744_0⟩ := Kd.at_int (Kd.R_reads' HO_11.out).2.2 x13_1 p744 q744
       cases e744
       replace p744 := eq_true p744
       replace q744 := eq_true q744
       go_wp2
       go_roundg k1
       case measure => have := HK1.out; omega
       case rel => exact ⟨(x5_1), (wrap64 (x13_1 + 1)), (Sh.es), H', ⟨by have := HK1.out; omega⟩, ⟨Sh.rl HO_5.out⟩, ⟨Sh.rl HO_11.out⟩, ⟨Sh.bw⟩⟩
     ·rw [if_neg c10] at H
      cases H
    ·rw [if_neg c9] at H
     cases H
   ·rw [if_neg c8] at H
    replace c8 := decide_eq_false c8
    obtain rfl := Option.some.inj H
    go_wp2
    go_ret
    exact ⟨_, Sh.eR, Sh.rl (Kd.R_mono HO_5.out (fun _ hk => trivial)), Sh.bw⟩
def impl_Program_reach.f (k : Nat) (a0_0 : Int) (a0_1 : Int) (l0_2 : List (S79)) (l0_3 : List (S95)) : Option (List Int) := (impl_Program_graph.f k a0_0 a0_1 l0_2 l0_3).bind fun t749 => ((impl_Program_where.f k a0_0 a0_1 l0_2 l0_3 l0_2).bind fun t752 => ((impl_reachedFrom.f k t749 t752).bind fun t755 => (some t755)))
theorem impl_Program_reach.mono : ∀ a0 a1 a2 a3 k, LeO (impl_Program_reach.f k a0 a1 a2 a3) (impl_Program_reach.f (k + 1) a0 a1 a2 a3) := by
 intro a0 a1 a2 a3 k
 unfold impl_Program_reach.f
 repeat' with_reducible first | apply impl_Program_graph.mono | apply impl_Program_where.mono | apply impl_reachedFrom.mono | exact LeO.refl _ | exact LeO.none _ | apply LeO.ite | refine LeO.bind ?_ fun _ => ?_
def impl_Program_reach.T1 : Bool × List (List Nat × List Nat) := (true, [([], []), ([0], [0]), ([], []), ([], []), ([3], [3]), ([2, 4, 1], [2, 4]), ([1, 5, 5], [1, 5]), ([6, 6, 0, 1, 2, 3, 4, 5, 6], [6])])
def impl_Program_reach.B1 : List Nat := [0, 1, 0, 0, 8, 31, 63, 127]
theorem impl_Program_reach.tab1 : rtab .any (opsOf Tryz.f65 1) = impl_Program_reach.T1 := by kernel_rfl
theorem impl_Program_reach.bits1 : waitsOk impl_Program_reach.T1.2 impl_Program_reach.B1 = true := by kernel_rfl
theorem impl_Program_reach.calls (k : Nat) (a0_0 : Int) (a0_1 : Int) (A0_2 : Option Addr) (c0_2 : Nat) (l0_2 : List (S79)) (A0_3 : Option Addr) (c0_3 : Nat) (l0_3 : List (S95)) (r : List Int) (w : World) (hr0_2 : Kd.C k79 w A0_2 l0_2.length l0_2) (hc0_2 : l0_2.length ≤ c0_2) (hr0_3 : Kd.C k95 w A0_3 l0_3.length l0_3) (hc0_3 : l0_3.length ≤ c0_3) (h : impl_Program_reach.f k a0_0 a0_1 l0_2 l0_3 = some r) :
  Calls Tryz.prog 65 #[.agg #[.int .i64 a0_0, .int .i64 a0_1, .slice A0_2 l0_2.length c0_2, .slice A0_3 l0_3.length c0_3]] w fun e w' => ∃ v0_ : Value, e = .returned (v0_) ∧ Kd.R (Kd.int .i64) 3 w' w.heap.size (fun _ => True) v0_ r ∧ Below w.heap.size w w' := by
 have hu33 := Tryz.underlying33
 have HR0_2 := am_ hr0_2
 have HC0_2 := am_ hc0_2
 clear hr0_2 hc0_2
 have HR0_3 := am_ hr0_3
 have HC0_3 := am_ hc0_3
 clear hr0_3 hc0_3
 have HB := am_ (Below.refl w.heap.size w)
 have H := h
 clear h
 unfold impl_Program_reach.f at H
 obtain ⟨t749, A2, H⟩ := Sh.ba H
 obtain ⟨t752, A3, H⟩ := Sh.ba H
 obtain ⟨t755, A4, H⟩ := Sh.ba H
 obtain rfl := Option.some.inj H
 go_enter Tryz.func65, Tryz.ntmps65
 try go_wp2_with (first | ((with_reducible refine Sh.d 1 ?_); refine Sh.bz w (N := 1) (cs := #[.int .i64 a0_0, .int .i64 a0_1, .slice A0_2 l0_2.length c0_2, .slice A0_3 l0_3.length c0_3]) (t := 33) (h := ?_); clear HB; intro gb748 w5 BK748 GE748 HB))
 replace BK748 := am_ (blk_drew BK748.out)
 replace HB := am_ (below_drew1 HB.out)
 refine start_ (n := 8) (S := fun w' => w'.cell? ⟨gb748, 0, none⟩ = some (.int .i64 a0_0) ∧ w'.cell? ⟨gb748, 1, none⟩ = some (.int .i64 a0_1) ∧ w'.cell? ⟨gb748, 2, none⟩ = some (.slice A0_2 l0_2.length c0_2) ∧ w'.cell? ⟨gb748, 3, none⟩ = some (.slice A0_3 l0_3.length c0_3)) (ds := []) (Sh.nm 8 0) (by kernel_rfl) rfl rfl Sh.cs (fun hHeld => ?_); refine with_tabW impl_Program_reach.tab1 impl_Program_reach.bits1 (fun HT_ HW_ => ?_)
 generalize w5.drew = w6 at BK748 HB hHeld ⊢
 refine Sh.qA 3 ?_; refine Sh.qT 0 hHeld ?_; refine Sh.qT 2 hHeld ?_; refine Sh.qT 4 hHeld ?_
 refine Sh.oC 1 Tryz.func71 #[.agg #[.int .i64 a0_0, .int .i64 a0_1, .slice A0_2 l0_2.length c0_2, .slice A0_3 l0_3.length c0_3]] fun K hK => ?_
 with_reducible refine (impl_Program_graph.calls k a0_0 a0_1 _ _ l0_2 _ _ l0_3 t749 _ (Sh.cB HR0_2.out) HC0_2.out (Sh.cB HR0_3.out) HC0_3.out A2.out).mono ?_
 rintro e w7 ⟨v750, rfl, ho0, hb⟩
 refine ⟨_, rfl, ?_⟩
 have HO751 := am_ (Kd.S_lower ho0 (below_size Sh.bw))
 replace BK748 := Sh.ab BK748 hb
 replace HB := Sh.hb hb
 (try clear hb)
 (try clear hk)
 (try clear ho0)
 refine Sh.kN hK Sh.cs fun hHeld => ?_
 clear hK K
 refine Sh.oC 5 Tryz.func72 #[.agg #[.int .i64 a0_0, .int .i64 a0_1, .slice A0_2 l0_2.length c0_2, .slice A0_3 l0_3.length c0_3], .slice A0_2 l0_2.length c0_2] fun K hK => ?_
 with_reducible refine (impl_Program_where.calls k a0_0 a0_1 _ _ l0_2 _ _ l0_3 _ _ l0_2 t752 _ (Sh.cB HR0_2.out) HC0_2.out (Sh.cB HR0_3.out) HC0_3.out (Sh.cB HR0_2.out) HC0_2.out A3.out).mono ?_
 rintro e w8 ⟨v753, rfl, ho0, hb⟩
 refine ⟨_, rfl, ?_⟩
 replace HO751 := am_ (Kd.S_elder' (by (with_reducible repeat (first | apply Kd.S_alloc | apply Kd.S_drewN | apply Kd.S_drew)); exact HO751.out) (Kd.R_base ho0) hb)
 have HO754 := am_ (Kd.R_lower ho0 (below_size Sh.bw))
 replace BK748 := Sh.ab BK748 hb
 replace HB := Sh.hb hb
 (try clear hb)
 (try clear ho0)
 obtain ⟨Ao9, co9, eo9⟩ := Kd.S_slice HO751.out
 (first | subst eo9 | (injection eo9 with f1_ f2_ f3_; have f4_ := f1_.symm; have f5_ := f3_.symm; clear f1_ f2_ f3_; subst f4_; subst f5_))
 obtain ⟨Ao10, co10, eo10⟩ := Kd.R_slice HO754.out
 (first | subst eo10 | (injection eo10 with f1_ f2_ f3_; have f4_ := f1_.symm; have f5_ := f3_.symm; clear f1_ f2_ f3_; subst f4_; subst f5_))
 refine Sh.kN hK Sh.cs fun hHeld => ?_
 clear hK K
 refine Sh.oC 6 Tryz.func80 #[.slice Ao9 t749.length co9, .slice Ao10 t752.length co10] fun K hK => ?_
 with_reducible refine (impl_reachedFrom.calls k _ _ t749 _ _ t752 t755 _ (Sh.cR (Kd.S_reads' HO751.out).2.2) (Kd.S_reads' HO751.out).2.1 (Sh.cR (Kd.R_reads' HO754.out).2.2) (Kd.R_reads' HO754.out).2.1 A4.out).mono ?_
 rintro e w11 ⟨v756, rfl, ho0, hb⟩
 refine ⟨_, rfl, ?_⟩
 replace HO751 := am_ (Kd.S_elder' (by (with_reducible repeat (first | apply Kd.S_alloc | apply Kd.S_drewN | apply Kd.S_drew)); exact HO751.out) (Kd.R_base ho0) hb)
 have HO757 := am_ (Kd.R_lower (Kd.R_new' ho0 (Kd.R_lt (Sh.rl HO754.out))) (below_size Sh.bw))
 replace HO754 := am_ (Kd.R_elder' (Sh.rl HO754.out) (Kd.R_base ho0) hb)
 replace BK748 := Sh.ab BK748 hb
 replace HB := Sh.hb hb
 (try clear hb)
 (try clear ho0)
 refine Sh.kN hK Sh.cs fun hHeld => ?_
 clear hK K
 refine Sh.qA 7 ?_
 refine done_ (done_of HT_.out (by kernel_rfl)) ?_
 try go_wp2
 go_ret
 exact ⟨_, Sh.eR, Sh.rl (Kd.R_mono HO757.out (fun _ hk => trivial)), Sh.bw⟩
def laws_eqIntS.l0 : Nat → List Int → List Int → Int → Option (Bool)
 | 0, _, _, _ => none
 | k + 1, x0, x1, x5 => if x5 < (x0.length : Int) then (if 0 ≤ x5 then (if x5 < (x1.length : Int) then (if (rd x0 x5) = (rd x1 x5) then (laws_eqIntS.l0 k x0 x1 (wrap64 (x5 + 1))) else (some false)) else (none)) else (none)) else (some true)
def laws_eqIntS.f (k : Nat) (l0 : List Int) (l1 : List Int) : Option (Bool) := if (l0.length : Int) = (l1.length : Int) then (laws_eqIntS.l0 k l0 l1 0) else (some false)
theorem laws_eqIntS.mono_l : ∀ k, (∀ y0 y1 y2, LeO (laws_eqIntS.l0 k y0 y1 y2) (laws_eqIntS.l0 (k + 1) y0 y1 y2))
 | 0 => fun _ _ _ r h => by simp [laws_eqIntS.l0] at h
 | k + 1 => by
  have ih0 := laws_eqIntS.mono_l k
  ·intro y0 y1 y2
   unfold laws_eqIntS.l0
   repeat' with_reducible first | apply ih0 | exact LeO.refl _ | exact LeO.none _ | apply LeO.ite | refine LeO.bind ?_ fun _ => ?_
theorem laws_eqIntS.mono : ∀ a0 a1 k, LeO (laws_eqIntS.f k a0 a1) (laws_eqIntS.f (k + 1) a0 a1) := by
 intro a0 a1 k
 have ih0 := laws_eqIntS.mono_l k
 unfold laws_eqIntS.f
 repeat' with_reducible first | apply ih0 | exact LeO.refl _ | exact LeO.none _ | apply LeO.ite | refine LeO.bind ?_ fun _ => ?_
theorem laws_eqIntS.calls (k : Nat) (A0 : Option Addr) (c0 : Nat) (l0 : List Int) (A1 : Option Addr) (c1 : Nat) (l1 : List Int) (r : Bool) (w : World) (hr0 : Kd.C (Kd.int .i64) w A0 l0.length l0) (hc0 : l0.length ≤ c0) (hr1 : Kd.C (Kd.int .i64) w A1 l1.length l1) (hc1 : l1.length ≤ c1) (h : laws_eqIntS.f k l0 l1 = some r) :
  Calls Tryz.prog 15 #[.slice A0 l0.length c0, .slice A1 l1.length c1] w fun e w' => e = .returned (.bool r) ∧ Drawn0 w w' := by
 have HR0 := am_ hr0
 have HC0 := am_ hc0
 clear hr0 hc0
 have HR1 := am_ hr1
 have HC1 := am_ hc1
 clear hr1 hc1
 have H := h
 clear h
 unfold laws_eqIntS.f at H
 by_cases c3 : (l0.length : Int) = (l1.length : Int)
 ·rw [if_pos c3] at H
  have c3b0 : ((l0.length : Int) == (l1.length : Int)) = true := beq_iff_eq.mpr c3
  have c3b1 : ((l0.length : Int) != (l1.length : Int)) = false := bne_eq_false_iff_eq.mpr c3
  have c3b2 : (l0.length == l1.length) = true := by first | simpa using c3 | (simp at c3 ⊢; omega)
  clear c3
  have H' := am_ H
  clear H
  go_enter Tryz.func15, Tryz.ntmps15
  go_wp2
  repeat (go_quiet (fail); try go_wp2)
  go_loopg [5] k (fun kq v5 w' => ∃ (x5_1 : Int), v5 = .int .i64 x5_1 ∧ Aside0 (laws_eqIntS.l0 kq l0 l1 x5_1 = some r) ∧ Aside0 (kq ≤ k) ∧ Drawn0 w w')
  case atStart => exact ⟨(0), (Sh.es), H', ⟨Nat.le_refl _⟩, Sh.dr⟩
  case round =>
   clear H'
   obtain ⟨x5_1, rfl, HA, HK1, ⟨m1, rfl⟩⟩ := hrel
   cases gk with
   | zero => exact absurd HA.out (by simp [laws_eqIntS.l0])
   | succ k1 =>
    have H := HA.out
    clear HA
    simp only [laws_eqIntS.l0] at H
    by_cases c4 : x5_1 < (l0.length : Int)
    ·rw [if_pos c4] at H
     replace c4 := decide_eq_true c4
     by_cases c5 : 0 ≤ x5_1
     ·rw [if_pos c5] at H
      replace c5 := decide_eq_true c5
      by_cases c6 : x5_1 < (l1.length : Int)
      ·rw [if_pos c6] at H
       replace c6 := decide_eq_true c6
       by_cases c7 : (rd l0 x5_1) = (rd l1 x5_1)
       ·rw [if_pos c7] at H
        have c7b0 : ((rd l0 x5_1) == (rd l1 x5_1)) = true := beq_iff_eq.mpr c7
        have c7b1 : ((rd l0 x5_1) != (rd l1 x5_1)) = false := bne_eq_false_iff_eq.mpr c7
        clear c7
        have H' := am_ H
        clear H
        have p770 : 0 ≤ (x5_1 : Int) := Sh.od
        have q770 : x5_1 < (l0.length : Int) := Sh.od
        obtain ⟨ad770, e770, hx770_0⟩ := Kd.at_int HR0.out x5_1 p770 q770
        cases e770
        replace p770 := eq_true p770
        replace q770 := eq_true q770
        have p771 : 0 ≤ (x5_1 : Int) := Sh.od
        have q771 : x5_1 < (l1.length : Int) := Sh.od
        obtain ⟨ad771, e771, hx771_0⟩ := Kd.at_int HR1.out x5_1 p771 q771
        cases e771
        replace p771 := eq_true p771
        replace q771 := eq_true q771
        go_wp2
        repeat (go_quiet (fail); try go_wp2)
        go_roundg k1
        case measure => have := HK1.out; omega
        case rel => exact ⟨(wrap64 (x5_1 + 1)), (Sh.es), H', ⟨by have := HK1.out; omega⟩, Sh.dr⟩
       ·rw [if_neg c7] at H
        have c7b0 : ((rd l0 x5_1) == (rd l1 x5_1)) = false := beq_eq_false_iff_ne.mpr c7
        have c7b1 : ((rd l0 x5_1) != (rd l1 x5_1)) = true := bne_iff_ne.mpr c7
        obtain rfl := Option.some.inj H
        have p770 : 0 ≤ (x5_1 : Int) := Sh.od
        have q770 : x5_1 < (l0.length : Int) := Sh.od
        obtain ⟨ad770, e770, hx770_0⟩ := Kd.at_int HR0.out x5_1 p770 q770
        cases e770
        replace p770 := eq_true p770
        replace q770 := eq_true q770
        have p771 : 0 ≤ (x5_1 : Int) := Sh.od
        have q771 : x5_1 < (l1.length : Int) := Sh.od
        obtain ⟨ad771, e771, hx771_0⟩ := Kd.at_int HR1.out x5_1 p771 q771
        cases e771
        replace p771 := eq_true p771
        replace q771 := eq_true q771
        go_wp2
        repeat (go_quiet (fail); try go_wp2)
        go_ret
        exact ⟨Sh.es, Sh.dr⟩
      ·rw [if_neg c6] at H
       cases H
     ·rw [if_neg c5] at H
      cases H
    ·rw [if_neg c4] at H
     replace c4 := decide_eq_false c4
     obtain rfl := Option.some.inj H
     go_wp2
     repeat (go_quiet (fail); try go_wp2)
     go_ret
     exact ⟨Sh.es, Sh.dr⟩
 ·rw [if_neg c3] at H
  have c3b0 : ((l0.length : Int) == (l1.length : Int)) = false := beq_eq_false_iff_ne.mpr c3
  have c3b1 : ((l0.length : Int) != (l1.length : Int)) = true := bne_iff_ne.mpr c3
  have c3b2 : (l0.length == l1.length) = false := by first | simpa using c3 | (simp at c3 ⊢; omega)
  obtain rfl := Option.some.inj H
  go_enter Tryz.func15, Tryz.ntmps15
  go_wp2
  repeat (go_quiet (fail); try go_wp2)
  go_ret
  exact ⟨Sh.es, Sh.dr⟩
/-- What marking may have written: no block beyond P; each block keeps its type and its size; the rows that lead to rows keep what leads there. -/
def MkRel (P : Nat → Prop) (w w' : World) : Prop :=
 Kept w w' P ∧ ∀ (k : Nat) (cur : Array Value) (e : TypeId) (fr : Nat × Nat), w.heap[k]? = some (.cells cur e fr) → ∃ cur' : Array Value, w'.heap[k]? = some (.cells cur' e fr) ∧ cur'.size = cur.size ∧ (e = 95 → cur' = cur) ∧ (e = 124 → ∀ j, cur'[2 * j + 1]? = cur[2 * j + 1]?)
theorem MkRel.refl (P : Nat → Prop) (w : World) : MkRel P w w := ⟨Kept.refl w P, fun k cur e fr h => ⟨cur, h, rfl, fun _ => rfl, fun _ _ => rfl⟩⟩
theorem MkRel.trans {P : Nat → Prop} {a b c : World} (h : MkRel P a b) (h' : MkRel P b c) : MkRel P a c :=
 ⟨h.1.then_ h'.1 (fun _ hk => .inl hk), fun k cur e fr hc => by
  obtain ⟨c1, h1, s1, t1, u1⟩ := h.2 k cur e fr hc
  obtain ⟨c2, h2, s2, t2, u2⟩ := h'.2 k c1 e fr h1
  exact ⟨c2, h2, s2.trans s1, fun he => (t2 he).trans (t1 he), fun he j => (u2 he j).trans (u1 he j)⟩⟩
theorem MkRel.set {P : Nat → Prop} {w : World} {g i : Nat} {cur : Array Value} {e : TypeId} (h : w.heap[g]? = some (.cells cur e (0, 0))) (hP : P g) (he : e ≠ 95) (hi : e = 124 → ∃ j, i = 2 * j) (u : Value) : MkRel P w (w.setCell ⟨g, i, none⟩ u) := by
 refine ⟨(Kept.refl w P).setCell (.inl hP) u, fun k c e' fr hc => ?_⟩
 by_cases hk : k = g
 ·subst hk
  rw [h] at hc
  injection hc with hc
  injection hc with h1 h2 h3
  subst h1; subst h2; subst h3
  refine ⟨_, blk_set h i u, by simp, fun h95 => absurd h95 he, fun h124 j => ?_⟩
  obtain ⟨q, rfl⟩ := hi h124
  rw [Array.getElem?_setIfInBounds]
  rw [if_neg (by omega)]
 ·exact ⟨c, (Below.heap_setCell w _ u k hk).trans hc, rfl, fun _ => rfl, fun _ _ => rfl⟩
theorem MkRel.of_below {P : Nat → Prop} {w w' : World} (h : Below w.heap.size w w') : MkRel P w w' :=
 ⟨Kept.of_below h P, fun k cur e fr hc => ⟨cur, (h.block k (blk_lt hc)).trans hc, rfl, fun _ => rfl, fun _ _ => rfl⟩⟩
def Blk (e : TypeId) (W : World) (P : Nat → Prop) (base : Nat) (v : Value) (n : Nat) (I : Array Value → Prop) : Prop :=
 n ≤ 9223372036854775807 ∧ ((n = 0 ∧ v = .slice none 0 0) ∨ ∃ g cap cur, v = .slice (some ⟨g, 0, none⟩) n cap ∧ P g ∧ base ≤ g ∧ W.heap[g]? = some (.cells cur e (0, 0)) ∧ n ≤ cap ∧ cur.size = cap * 2 ∧ I cur)
def Sh79 (W : World) (P : Nat → Prop) (base : Nat) (v : Value) (n : Nat) : Prop := Blk 79 W P base v n (fun _ => True)
def Sh124 (W : World) (P : Nat → Prop) (base : Nat) (v : Value) (ns : List Nat) : Prop := Blk 124 W P base v ns.length (fun cur => ∀ i, i < ns.length → ∃ u, cur[2 * i + 1]? = some u ∧ Sh79 W P base u (ns.getD i 0))
def Sh95 (W : World) (P : Nat → Prop) (base : Nat) (v : Value) (ms : List (Nat × List Nat)) : Prop :=
 Blk 95 W P base v ms.length (fun cur => ∀ i, i < ms.length → ∃ u1 u2, cur[2 * i]? = some u1 ∧ cur[2 * i + 1]? = some u2 ∧ Sh79 W P base u1 (ms.getD i (0, [])).1 ∧ Sh124 W P base u2 (ms.getD i (0, [])).2)
section
variable {P : Nat → Prop} {w w' : World} {base n : Nat} {v : Value}
theorem Blk.rel {e : TypeId} {I I' : Array Value → Prop} (hk : MkRel P w w') (h : Blk e w P base v n I) (hI : ∀ cur cur', (e = 95 → cur' = cur) → (e = 124 → ∀ j, cur'[2 * j + 1]? = cur[2 * j + 1]?) → I cur → I' cur') : Blk e w' P base v n I' := by
 obtain ⟨hn, h | ⟨g, cap, cur, rfl, hP, hb, hc, hl, hs, hI1⟩⟩ := h
 ·exact ⟨hn, .inl h⟩
 ·obtain ⟨c', h1, h2, h3, h4⟩ := hk.2 g cur e (0, 0) hc
  exact ⟨hn, .inr ⟨g, cap, c', rfl, hP, hb, h1, hl, h2.trans hs, hI cur c' h3 h4 hI1⟩⟩
theorem Sh79.rel (hk : MkRel P w w') (h : Sh79 w P base v n) : Sh79 w' P base v n := Blk.rel hk h (fun _ _ _ _ _ => trivial)
theorem Sh124.rel {ns : List Nat} (hk : MkRel P w w') (h : Sh124 w P base v ns) : Sh124 w' P base v ns :=
 Blk.rel hk h (fun cur cur' _ h2 hI i hi => by
  obtain ⟨u, h1, hs⟩ := hI i hi
  exact ⟨u, (h2 rfl i).trans h1, hs.rel hk⟩)
theorem Sh95.rel {ms : List (Nat × List Nat)} (hk : MkRel P w w') (h : Sh95 w P base v ms) : Sh95 w' P base v ms :=
 Blk.rel hk h (fun cur cur' h1 _ hI i hi => by
  rw [h1 rfl]
  obtain ⟨u1, u2, e1, e2, s1, s2⟩ := hI i hi
  exact ⟨u1, u2, e1, e2, s1.rel hk, s2.rel hk⟩)
theorem Blk.of {α : Type} {d : Kd α} {e : TypeId} {xs : List α} {I : Array Value → Prop} (hd : d.sz = 2) (h : d.R e w base P v xs)
  (hI : ∀ cur : Array Value, (∀ i, i < xs.length → ∃ c, c.length = 2 ∧ (∀ j, j < 2 → cur[2 * i + j]? = c[j]?) ∧ ∃ x, xs[i]? = some x ∧ d.M w base (fun k => P k ∧ some k ≠ v.ownBlock) x c) → I cur) : Blk e w P base v xs.length I := by
 obtain ⟨hok, inner, hown, hrep⟩ := h
 have hn : xs.length ≤ 9223372036854775807 := (Kd.R_reads ⟨hok, inner, hown, hrep⟩).choose_spec.choose_spec.2.2.2.1
 refine ⟨hn, ?_⟩
 obtain ⟨hl, ⟨e1, hz⟩ | ⟨g, cap, cur, e1, hbg, hcur, hcap, _, hsz, htake⟩⟩ := hown
 ·exact .inl ⟨hz, e1⟩
 ·refine .inr ⟨g, cap, cur, e1, hok g (by rw [e1]; simp [Value.ownBlock]), hbg, hcur, hcap, by rw [hsz, hd], hI cur (fun i hi => ?_)⟩
  have hM := hrep.2 i xs[i] (List.getElem?_eq_getElem hi)
  rw [hd] at hl htake hM
  refine ⟨_, ?_, fun j hj => ?_, xs[i], List.getElem?_eq_getElem hi, hM⟩
  ·simp; omega
  ·rw [List.getElem?_take, if_pos hj, List.getElem?_drop, ← htake, List.getElem?_take, if_pos (by omega), Array.getElem?_toList, Nat.mul_comm i 2]
theorem Sh79.of {l : List S79} (h : Kd.R k79 79 w base P v l) : Sh79 w P base v l.length := Blk.of rfl h (fun _ _ => trivial)
theorem Sh124.of {l : List S124} (h : Kd.R k124 124 w base P v l) : Sh124 w P base v (l.map (fun x => x.f1.length)) := by
 have := Blk.of (I := fun cur => ∀ i, i < (l.map (fun x => x.f1.length)).length → ∃ u, cur[2 * i + 1]? = some u ∧ Sh79 w P base u ((l.map (fun x => x.f1.length)).getD i 0)) rfl h (fun cur hc i hi => by
  simp only [List.length_map] at hi
  obtain ⟨c, h2, hj, x, hx, hM⟩ := hc i hi
  obtain ⟨v1, rfl, hr⟩ := k124_openM hM
  refine ⟨v1, hj 1 (by omega), ?_⟩
  rw [List.getD_eq_getElem?_getD, List.getElem?_map, hx]
  exact Sh79.of (Kd.R_mono hr (fun k hk => hk.1)))
 unfold Sh124
 rw [List.length_map] at this ⊢
 exact this
theorem Sh95.of {l : List S95} (h : Kd.R k95 95 w base P v l) : Sh95 w P base v (l.map (fun x => (x.f0.length, x.f1.map (fun y => y.f1.length)))) := by
 have := Blk.of (I := fun cur => ∀ i, i < (l.map (fun x => (x.f0.length, x.f1.map (fun y => y.f1.length)))).length → ∃ u1 u2, cur[2 * i]? = some u1 ∧ cur[2 * i + 1]? = some u2 ∧ Sh79 w P base u1 ((l.map (fun x => (x.f0.length, x.f1.map (fun y => y.f1.length)))).getD i (0, [])).1 ∧ Sh124 w P base u2 ((l.map (fun x => (x.f0.length, x.f1.map (fun y => y.f1.length)))).getD i (0, [])).2) rfl h (fun cur hc i hi => by
  simp only [List.length_map] at hi
  obtain ⟨c, h2, hj, x, hx, hM⟩ := hc i hi
  obtain ⟨v0, v1, rfl, hr0, hr1⟩ := k95_openM hM
  refine ⟨v0, v1, hj 0 (by omega), hj 1 (by omega), ?_⟩
  rw [List.getD_eq_getElem?_getD, List.getElem?_map, hx]
  exact ⟨Sh79.of (Kd.R_mono hr0 (fun k hk => hk.1)), Sh124.of (Kd.R_mono hr1 (fun k hk => hk.1))⟩)
 unfold Sh95
 rw [List.length_map] at this ⊢
 exact this
end
def mk124 : List Nat → Nat
 | [] => 0
 | n :: t => 1 + 2 * n + mk124 t
def mk95 : List (Nat × List Nat) → Nat
 | [] => 0
 | x :: t => 2 * x.1 + mk124 x.2 + mk95 t
theorem mk124_drop : ∀ (l : List Nat) (j : Nat), j < l.length → mk124 (l.drop j) = 1 + 2 * l.getD j 0 + mk124 (l.drop (j + 1)) := fun l j h => by
 rw [List.drop_eq_getElem_cons h, mk124]; simp [List.getD_eq_getElem?_getD, List.getElem?_eq_getElem h]
theorem mk95_drop : ∀ (l : List (Nat × List Nat)) (j : Nat), j < l.length → mk95 (l.drop j) = 2 * (l.getD j (0, [])).1 + mk124 (l.getD j (0, [])).2 + mk95 (l.drop (j + 1)) := fun l j h => by
 rw [List.drop_eq_getElem_cons h, mk95]; simp [List.getD_eq_getElem?_getD, List.getElem?_eq_getElem h]
theorem mkNodeS (P : Nat → Prop) (v : Value) (n : Nat) (a : Int) (w0 w : World) (hB : Below w0.heap.size w0 w) (hs : Sh79 w P w0.heap.size v n) (h0 : 0 ≤ a) (h1 : a + 2 * n ≤ 4611686018427387904) :
  Calls Tryz.prog 45 #[v, .int .i64 a] w fun e w' => e = .returned (.int .i64 (a + 2 * n)) ∧ Below w0.heap.size w0 w' ∧ MkRel P w w' := by
 obtain ⟨hn, ⟨rfl, rfl⟩ | ⟨g, cap, cur, rfl, hP, hb, hc, hl, hsz, _⟩⟩ := hs
 ·go_enter Tryz.func45, Tryz.ntmps45
  go_wp2
  go_loopg [1, 5] 0 (fun gg v1 v5 wr => v1 = .int .i64 a ∧ v5 = .int .i64 0 ∧ Aside0 (wr = w))
  case atStart => exact ⟨rfl, rfl, ⟨rfl⟩⟩
  case round =>
   obtain ⟨rfl, rfl, HW⟩ := hrel
   have hw := HW.out
   subst hw
   go_wp2
   go_ret
   exact ⟨by simp, hB, MkRel.refl P _⟩
 ·have HC := am_ hc
  have HPB := am_ (And.intro hP hb)
  have HB := am_ hB
  have HS := am_ hsz
  clear hc hP hb hB hsz
  go_enter Tryz.func45, Tryz.ntmps45
  go_wp2
  go_loopg [1, 5] n (fun gg v1 v5 wr => ∃ j : Nat, j ≤ n ∧ n - j ≤ gg ∧ v1 = .int .i64 (a + 2 * j) ∧ v5 = .int .i64 j ∧ Aside0 (Below w0.heap.size w0 wr) ∧ Aside0 (MkRel P w wr))
  case atStart => exact ⟨0, Nat.zero_le _, by omega, by simp, rfl, HB, ⟨MkRel.refl P w⟩⟩
  case round =>
   obtain ⟨j, hj, hg, rfl, rfl, HB2, HM⟩ := hrel
   by_cases hlt : j < n
   ·have hltz : (j : Int) < (n : Int) := by omega
    have h0z : 0 ≤ (j : Int) := by omega
    obtain ⟨c', hc1, hs1, _, _⟩ := HM.out.2 g cur 79 (0, 0) HC.out
    have hs2 := HS.out
    have hx : wr.cell? ⟨g, j * 2, none⟩ = some (c'[j * 2]'(by omega)) := (blk_cell hc1 (j * 2)).trans (Array.getElem?_eq_getElem _)
    have hf : wr.frozen? ⟨g, j * 2, none⟩ = false := blk_frozen hc1 _
    have HC1 := am_ hc1
    have HS1 := am_ hs1
    clear hc1
    go_wp2_with (first | ((with_reducible refine gate_store (t := 3) (p := 16) rfl ?_); refine store_event (t := 3) (p := 16) (v := ?vo) (w1 := (wr.setCell ⟨g, j * 2, none⟩ (.int .i64 (a + 2 * j)))) ?hg ?ho ?hn ?hr ?_; (case ho => rfl); (case hg => rfl); (case hn => rfl); (case hr => first | (go_simp; done) | (go_simp; rfl)); intro w9 hw; have n0_ := am_ (show Below w0.heap.size w0 w9 from by rw [hw]; exact below_set HB2.out HPB.out.2); have n1_ := am_ (show MkRel P w w9 from by rw [hw]; exact HM.out.trans (MkRel.set HC1.out HPB.out.1 (by decide) (fun h_ => absurd h_ (by decide)) _)); have hc2 := blk_set HC1.out (j * 2) (.int .i64 (a + 2 * j)); rw [← hw] at hc2; have hx9 : w9.cell? ⟨g, j * 2 + 1, none⟩ = some (c'[j * 2 + 1]'(by have := HS1.out; have := HS.out; omega)) := (blk_cell hc2 (j * 2 + 1)).trans (by rw [Array.getElem?_setIfInBounds, if_neg (by omega)]; exact Array.getElem?_eq_getElem _); have hf9 : w9.frozen? ⟨g, j * 2 + 1, none⟩ = false := blk_frozen hc2 _; have HC2 := am_ hc2; clear hc2 hw HB2 HM hx hf; have HB2 := n0_; have HM := n1_; clear n0_ n1_))
    go_roundg (n - (j + 1))
    case measure => omega
    case rel => exact ⟨j + 1, by omega, by omega, by go_num, by go_num, ⟨below_set HB2.out HPB.out.2⟩, ⟨HM.out.trans (MkRel.set HC2.out HPB.out.1 (by decide) (fun h_ => absurd h_ (by decide)) _)⟩⟩
   ·have hltz : ¬ (j : Int) < (n : Int) := by omega
    have hjn : j = n := by omega
    subst hjn
    go_wp2
    go_ret
    exact ⟨rfl, HB2.out, HM.out⟩
theorem mkChangeS (P : Nat → Prop) (v : Value) (ns : List Nat) (a : Int) (w0 w : World) (hB : Below w0.heap.size w0 w) (hs : Sh124 w P w0.heap.size v ns) (h0 : 0 ≤ a) (h1 : a + mk124 ns ≤ 4611686018427387904) :
  Calls Tryz.prog 94 #[v, .int .i64 a] w fun e w' => e = .returned (.int .i64 (a + mk124 ns)) ∧ Below w0.heap.size w0 w' ∧ MkRel P w w' := by
 have HSH := am_ hs
 obtain ⟨hn, ⟨hz, rfl⟩ | ⟨g, cap, cur, rfl, hP, hb, hc, hl, hsz, _⟩⟩ := hs
 ·have hns : ns = [] := List.length_eq_zero_iff.1 hz
  subst hns
  clear HSH hz hn
  go_enter Tryz.func94, Tryz.ntmps94
  go_wp2
  go_loopg [1, 5] 0 (fun gg v1 v5 wr => v1 = .int .i64 a ∧ v5 = .int .i64 0 ∧ Aside0 (wr = w))
  case atStart => exact ⟨rfl, rfl, ⟨rfl⟩⟩
  case round =>
   obtain ⟨rfl, rfl, HW⟩ := hrel
   have hw := HW.out
   subst hw
   go_wp2
   go_ret
   exact ⟨by simp [mk124], hB, MkRel.refl P _⟩
 ·have HPB := am_ (And.intro hP hb)
  have HB := am_ hB
  clear hc hP hb hB hsz
  go_enter Tryz.func94, Tryz.ntmps94
  go_wp2
  go_loopg [1, 5] ns.length (fun gg v1 v5 wr => ∃ (j : Nat) (q : Int), j ≤ ns.length ∧ ns.length - j ≤ gg ∧ v1 = .int .i64 q ∧ v5 = .int .i64 j ∧ Aside0 (q + mk124 (ns.drop j) = a + mk124 ns) ∧ Aside0 (0 ≤ q) ∧ Aside0 (Below w0.heap.size w0 wr) ∧ Aside0 (MkRel P w wr))
  case atStart => exact ⟨0, a, Nat.zero_le _, by omega, rfl, rfl, ⟨by simp⟩, ⟨h0⟩, HB, ⟨MkRel.refl P w⟩⟩
  case round =>
   obtain ⟨j, q, hj, hg, rfl, rfl, HQ, HQ0, HB2, HM⟩ := hrel
   by_cases hlt : j < ns.length
   ·have hltz : (j : Int) < (ns.length : Int) := by omega
    have h0z : 0 ≤ (j : Int) := by omega
    have hq := HQ.out
    have hq0 := HQ0.out
    rw [mk124_drop ns j hlt] at hq
    obtain ⟨_, ⟨hz2, _⟩ | ⟨g2, cap2, c', hv2, _, _, hc1, hl1, hs1, hI⟩⟩ := Sh124.rel HM.out HSH.out
    ·omega
    injection hv2 with hv2 _ hv3
    injection hv2 with hv2
    injection hv2 with hv2
    subst hv2
    subst hv3
    obtain ⟨u, hu, hsu⟩ := hI j hlt
    generalize ns.getD j 0 = m at hsu hq
    have hx : wr.cell? ⟨g, j * 2, none⟩ = some (c'[j * 2]'(by omega)) := (blk_cell hc1 (j * 2)).trans (Array.getElem?_eq_getElem _)
    have hf : wr.frozen? ⟨g, j * 2, none⟩ = false := blk_frozen hc1 _
    have HC1 := am_ hc1
    have HU := am_ hu
    have HSU := am_ hsu
    clear hc1 hu hsu hI
    go_wp2_with (first | ((with_reducible refine gate_store (t := 3) (p := 16) rfl ?_); refine store_event (t := 3) (p := 16) (v := ?vo) (w1 := (wr.setCell ⟨g, j * 2, none⟩ (.int .i64 q))) ?hg ?ho ?hn ?hr ?_; (case ho => rfl); (case hg => rfl); (case hn => rfl); (case hr => first | (go_simp; done) | (go_simp; rfl)); intro w9 hw; have hr9 : MkRel P wr w9 := (by rw [hw]; exact MkRel.set HC1.out HPB.out.1 (by decide) (fun _ => ⟨j, Nat.mul_comm j 2⟩) _); have n0_ := am_ (show Below w0.heap.size w0 w9 from by rw [hw]; exact below_set HB2.out HPB.out.2); have n1_ := am_ (HM.out.trans hr9); have hc2 := blk_set HC1.out (j * 2) (.int .i64 q); rw [← hw] at hc2; have hx9 : w9.cell? ⟨g, j * 2 + 1, none⟩ = some u := (blk_cell hc2 (j * 2 + 1)).trans (by rw [Array.getElem?_setIfInBounds, if_neg (by omega), Nat.mul_comm j 2]; exact HU.out); have HS9 := am_ (HSU.out.rel hr9); clear hc2 hw HB2 HM hx hf hr9 HSU; have HB2 := n0_; have HM := n1_; clear n0_ n1_) | (go_at_call 45; (refine (mkNodeS P u m (q + 1) w0 _ HB2.out HS9.out (by omega) (by omega)).mono ?_); rintro e w' ⟨rfl, hb, hm⟩; have n0_ := am_ hb; have n1_ := am_ (HM.out.trans hm); clear hb hm HB2 HM; have HB2 := n0_; have HM := n1_; clear n0_ n1_))
    go_roundg (ns.length - (j + 1))
    case measure => omega
    case rel => exact ⟨j + 1, q + 1 + 2 * (m : Int), by omega, by omega, rfl, by go_num, ⟨by omega⟩, ⟨by omega⟩, HB2, HM⟩
   ·have hltz : ¬ (j : Int) < (ns.length : Int) := by omega
    have hq := HQ.out
    rw [List.drop_of_length_le (by omega)] at hq
    simp only [mk124] at hq
    have hq2 : q = a + mk124 ns := by omega
    subst hq2
    go_wp2
    go_ret
    exact ⟨rfl, HB2.out, HM.out⟩
theorem mkCommandS (P : Nat → Prop) (v : Value) (ms : List (Nat × List Nat)) (a : Int) (w0 w : World) (hB : Below w0.heap.size w0 w) (hs : Sh95 w P w0.heap.size v ms) (h0 : 0 ≤ a) (h1 : a + mk95 ms ≤ 4611686018427387904) :
  Calls Tryz.prog 46 #[v, .int .i64 a] w fun e w' => e = .returned (.int .i64 (a + mk95 ms)) ∧ Below w0.heap.size w0 w' ∧ MkRel P w w' := by
 have HSH := am_ hs
 obtain ⟨hn, ⟨hz, rfl⟩ | ⟨g, cap, cur, rfl, hP, hb, hc, hl, hsz, _⟩⟩ := hs
 ·have hns : ms = [] := List.length_eq_zero_iff.1 hz
  subst hns
  clear HSH hz hn
  go_enter Tryz.func46, Tryz.ntmps46
  go_wp2
  go_loopg [1, 5] 0 (fun gg v1 v5 wr => v1 = .int .i64 a ∧ v5 = .int .i64 0 ∧ Aside0 (wr = w))
  case atStart => exact ⟨rfl, rfl, ⟨rfl⟩⟩
  case round =>
   obtain ⟨rfl, rfl, HW⟩ := hrel
   have hw := HW.out
   subst hw
   go_wp2
   go_ret
   exact ⟨by simp [mk95], hB, MkRel.refl P _⟩
 ·have HPB := am_ (And.intro hP hb)
  have HB := am_ hB
  clear hc hP hb hB hsz
  go_enter Tryz.func46, Tryz.ntmps46
  go_wp2
  go_loopg [1, 5] ms.length (fun gg v1 v5 wr => ∃ (j : Nat) (q : Int), j ≤ ms.length ∧ ms.length - j ≤ gg ∧ v1 = .int .i64 q ∧ v5 = .int .i64 j ∧ Aside0 (q + mk95 (ms.drop j) = a + mk95 ms) ∧ Aside0 (0 ≤ q) ∧ Aside0 (Below w0.heap.size w0 wr) ∧ Aside0 (MkRel P w wr))
  case atStart => exact ⟨0, a, Nat.zero_le _, by omega, rfl, rfl, ⟨by simp⟩, ⟨h0⟩, HB, ⟨MkRel.refl P w⟩⟩
  case round =>
   obtain ⟨j, q, hj, hg, rfl, rfl, HQ, HQ0, HB2, HM⟩ := hrel
   by_cases hlt : j < ms.length
   ·have hltz : (j : Int) < (ms.length : Int) := by omega
    have h0z : 0 ≤ (j : Int) := by omega
    have hq := HQ.out
    have hq0 := HQ0.out
    rw [mk95_drop ms j hlt] at hq
    obtain ⟨_, ⟨hz2, _⟩ | ⟨g2, cap2, c', hv2, _, _, hc1, hl1, hs1, hI⟩⟩ := Sh95.rel HM.out HSH.out
    ·omega
    injection hv2 with hv2 _ hv3
    injection hv2 with hv2
    injection hv2 with hv2
    subst hv2
    subst hv3
    obtain ⟨u1, u2, hu1, hu2, hsu1, hsu2⟩ := hI j hlt
    generalize ms.getD j (0, []) = m at hsu1 hsu2 hq
    obtain ⟨m1, m2⟩ := m
    simp only at hsu1 hsu2 hq
    have hx : wr.cell? ⟨g, j * 2, none⟩ = some u1 := (blk_cell hc1 (j * 2)).trans (by rw [Nat.mul_comm j 2]; exact hu1)
    have HC1 := am_ hc1
    have HU2 := am_ hu2
    have HS1 := am_ hsu1
    have HS2 := am_ hsu2
    clear hc1 hu1 hu2 hsu1 hsu2 hI
    go_wp2_with (first | (go_at_call 45; (refine (mkNodeS P u1 m1 q w0 _ HB2.out HS1.out (by omega) (by omega)).mono ?_); rintro e w9 ⟨rfl, hb, hm⟩; have n0_ := am_ hb; have n1_ := am_ (HM.out.trans hm); obtain ⟨c9, hc9, _, ht9, _⟩ := hm.2 _ _ _ _ HC1.out; have hx9 : w9.cell? ⟨g, j * 2 + 1, none⟩ = some u2 := (blk_cell hc9 (j * 2 + 1)).trans (by rw [ht9 rfl, Nat.mul_comm j 2]; exact HU2.out); have HS9 := am_ (HS2.out.rel hm); clear hb hm HB2 HM hx hc9 ht9 HS2; have HB2 := n0_; have HM := n1_; clear n0_ n1_) | (go_at_call 94; (refine (mkChangeS P u2 m2 (q + 2 * m1) w0 _ HB2.out HS9.out (by omega) (by omega)).mono ?_); rintro e w' ⟨rfl, hb, hm⟩; have n0_ := am_ hb; have n1_ := am_ (HM.out.trans hm); clear hb hm HB2 HM; have HB2 := n0_; have HM := n1_; clear n0_ n1_))
    go_roundg (ms.length - (j + 1))
    case measure => omega
    case rel => exact ⟨j + 1, q + 2 * m1 + mk124 m2, by omega, by omega, rfl, by go_num, ⟨by omega⟩, ⟨by omega⟩, HB2, HM⟩
   ·have hltz : ¬ (j : Int) < (ms.length : Int) := by omega
    have hq := HQ.out
    rw [List.drop_of_length_le (by omega)] at hq
    simp only [mk95] at hq
    have hq2 : q = a + mk95 ms := by omega
    subst hq2
    go_wp2
    go_ret
    exact ⟨rfl, HB2.out, HM.out⟩
/-- How far markProgram counts. -/
def mkTot (l0 : List S79) (l1 : List S95) : Nat := 2 * l0.length + mk95 (l1.map (fun x => (x.f0.length, x.f1.map (fun y => y.f1.length))))
def laws_markProgram.f (k : Nat) (a0_0 a0_1 : Int) (l0_2 : List S79) (l0_3 : List S95) (a1 : Int) : Option Int := if 0 ≤ a1 ∧ a1 + mkTot l0_2 l0_3 ≤ 4611686018427387904 then some (a1 + mkTot l0_2 l0_3) else none
theorem laws_markProgram.calls (k : Nat) (P0_2_ : Nat → Prop) (a0_0 : Int) (a0_1 : Int) (u9002_ : Value) (l0_2 : List S79) (u9003_ : Value) (l0_3 : List S95) (a1 : Int) (r : Int) (w0 w : World) (hB : Below w0.heap.size w0 w) (ho0_2 : Kd.R k79 79 w w0.heap.size P0_2_ u9002_ l0_2) (ho0_3 : Kd.R k95 95 w w0.heap.size P0_2_ u9003_ l0_3) (h : laws_markProgram.f k a0_0 a0_1 l0_2 l0_3 a1 = some r) :
  Calls Tryz.prog 17 #[.agg #[.int .i64 a0_0, .int .i64 a0_1, u9002_, u9003_], .int .i64 a1] w fun e w' => e = .returned (.int .i64 r) ∧ Below w0.heap.size w0 w' ∧ Kept w w' (fun k_ => P0_2_ k_) := by
 have hf : 0 ≤ a1 ∧ a1 + mkTot l0_2 l0_3 ≤ 4611686018427387904 := by
  rcases Decidable.em (0 ≤ a1 ∧ a1 + mkTot l0_2 l0_3 ≤ 4611686018427387904) with h1 | h1
  ·exact h1
  ·rw [laws_markProgram.f, if_neg h1] at h; cases h
 rw [laws_markProgram.f, if_pos hf] at h
 obtain rfl := Option.some.inj h
 have HS2 := am_ (Sh79.of (Kd.R_mono (Kd.R_bound ho0_2) (fun k hk => (⟨hk.1, hk.2.2.1⟩ : P0_2_ k ∧ k < w.heap.size))))
 have HS3 := am_ (Sh95.of (Kd.R_mono (Kd.R_bound ho0_3) (fun k hk => (⟨hk.1, hk.2.2.1⟩ : P0_2_ k ∧ k < w.heap.size))))
 have HB := am_ hB
 have hu33 := Tryz.underlying33
 unfold mkTot at hf ⊢
 clear h ho0_2 ho0_3 hB
 generalize l0_3.map (fun x => (x.f0.length, x.f1.map (fun y => y.f1.length))) = ms at HS3 hf ⊢
 generalize l0_2.length = n at HS2 hf ⊢
 obtain ⟨tot, htot⟩ : ∃ tot : Int, a1 + ((2 * n + mk95 ms : Nat) : Int) = tot := ⟨_, rfl⟩
 have ht2 : a1 + 2 * n + mk95 ms = tot := by omega
 rw [htot]
 have HT := am_ ht2
 clear htot ht2
 go_enter Tryz.func17, Tryz.ntmps17
 go_wp2_with (first | ((with_reducible refine Sh.d 2 ?_); refine Sh.bx (N := 2) (cs := #[.int .i64 a0_0, .int .i64 a0_1, u9002_, u9003_]) (t := 33) (h := ?_); intro g hg w1 hbox hb; have HBX := am_ hbox; have HG := am_ hg; have HB1 := am_ (below_step HB.out hb); have HM := am_ (show MkRel (fun k => P0_2_ k ∧ k < w.heap.size) w w1 from MkRel.of_below hb); have HS4 := am_ (HS2.out.rel HM.out); have hx := (blk_cell hbox 2).trans (show _ = some u9002_ from rfl); have hfz := blk_frozen hbox 2; clear hg hbox hb) | (go_at_call 45; (refine (mkNodeS (fun k => P0_2_ k ∧ k < w.heap.size) u9002_ n a1 w0 _ HB1.out HS4.out hf.1 (by omega)).mono ?_); rintro e w2 ⟨rfl, hb, hm⟩; have HB2 := am_ hb; have HM2 := am_ (HM.out.trans hm); have hbox2 := blk_kept HBX.out hm.1 (fun h_ => by have := HG.out; omega); have HS5 := am_ (HS3.out.rel HM2.out); have hx2 := (blk_cell hbox2 3).trans (show _ = some u9003_ from rfl); have hfz2 := blk_frozen hbox2 3; clear hb hm hbox2 HM hx hfz) | (go_at_call 46; (refine (mkCommandS (fun k => P0_2_ k ∧ k < w.heap.size) u9003_ ms (a1 + 2 * n) w0 _ HB2.out HS5.out (by omega) (by omega)).mono ?_); rintro e w3 ⟨rfl, hb, hm⟩; have HB3 := am_ hb; have HM3 := am_ (HM2.out.trans hm); clear hb hm))
 go_ret
 exact ⟨by rw [HT.out]; rfl, HB3.out, HM3.out.1.mono (fun k hk => hk.1)⟩
def laws_markIntS.l0 : Nat → List Int → Int → Int → Option (Int × List Int)
 | 0, _, _, _ => none
 | k + 1, x0, x1, x5 => if x5 < (x0.length : Int) then (if 0 ≤ x5 then (laws_markIntS.l0 k (x0.set (x5 : Int).toNat x1) (wrap64 (x1 + 1)) (wrap64 (x5 + 1))) else (none)) else (some (x1, x0))
def laws_markIntS.f (k : Nat) (l0 : List Int) (a1 : Int) : Option (Int × List Int) := laws_markIntS.l0 k l0 a1 0
theorem laws_markIntS.mono_l : ∀ k, (∀ y0 y1 y2, LeO (laws_markIntS.l0 k y0 y1 y2) (laws_markIntS.l0 (k + 1) y0 y1 y2))
 | 0 => fun _ _ _ r h => by simp [laws_markIntS.l0] at h
 | k + 1 => by
  have ih0 := laws_markIntS.mono_l k
  ·intro y0 y1 y2
   unfold laws_markIntS.l0
   repeat' with_reducible first | apply ih0 | exact LeO.refl _ | exact LeO.none _ | apply LeO.ite | refine LeO.bind ?_ fun _ => ?_
theorem laws_markIntS.mono : ∀ a0 a1 k, LeO (laws_markIntS.f k a0 a1) (laws_markIntS.f (k + 1) a0 a1) := by
 intro a0 a1 k
 have ih0 := laws_markIntS.mono_l k
 unfold laws_markIntS.f
 repeat' with_reducible first | apply ih0 | exact LeO.refl _ | exact LeO.none _ | apply LeO.ite | refine LeO.bind ?_ fun _ => ?_
theorem laws_markIntS.calls (k : Nat) (P0_ : Nat → Prop) (u9000_ : Value) (l0 : List Int) (a1 : Int) (r1 : Int) (r2 : List Int) (w0 w : World) (hB : Below w0.heap.size w0 w) (ho0 : Kd.R (Kd.int .i64) 3 w w0.heap.size P0_ u9000_ l0) (h : laws_markIntS.f k l0 a1 = some (r1, r2)) :
  Calls Tryz.prog 18 #[u9000_, .int .i64 a1] w fun e w' => e = .returned (.int .i64 r1) ∧ Kd.R (Kd.int .i64) 3 w' w0.heap.size (fun k_ => (P0_ k_ ∨ w.heap.size ≤ k_)) u9000_ r2 ∧ Below w0.heap.size w0 w' ∧ Kept w w' (fun k_ => P0_ k_) := by
 have HO0 := am_ (show Kd.R (Kd.int .i64) 3 w w0.heap.size (fun k_ => (P0_ k_ ∨ w.heap.size ≤ k_)) u9000_ l0 from Kd.R_mono ho0 (fun k_ hk => (.inl hk)))
 have HK := am_ (Kept.refl w (fun k_ => P0_ k_))
 have HW0 := am_ hB.size
 have HB := am_ hB
 clear hB
 have H := h
 clear h
 unfold laws_markIntS.f at H
 have H' := am_ H
 clear H
 go_enter Tryz.func18, Tryz.ntmps18
 go_wp2
 go_loopg [1, 5] k (fun kq v1 v5 w' => ∃ (x0_1 : List Int) (x1_1 : Int) (x5_1 : Int), v1 = .int .i64 x1_1 ∧ v5 = .int .i64 x5_1 ∧ Aside0 (laws_markIntS.l0 kq x0_1 x1_1 x5_1 = some (r1, r2)) ∧ Aside0 (kq ≤ k) ∧ Aside0 (Kd.R (Kd.int .i64) 3 w' w0.heap.size (fun k_ => (P0_ k_ ∨ w.heap.size ≤ k_)) u9000_ x0_1) ∧ Aside0 (Kept w w' (fun k_ => P0_ k_)) ∧ Aside0 (Below w0.heap.size w0 w'))
 case atStart => exact ⟨(l0), (a1), (0), (Sh.es), (Sh.es), H', ⟨Nat.le_refl _⟩, ⟨Sh.rl HO0.out⟩, ⟨by repeat (first | (with_reducible first | exact HK.out | apply Kept.alloc | apply Kept.drewN | apply Kept.drew) | exact HK.out)⟩, ⟨Sh.bw⟩⟩
 case round =>
  clear H'
  obtain ⟨x0_1, x1_1, x5_1, rfl, rfl, HA, HK1, HO_0, HK, HB⟩ := hrel
  cases gk with
  | zero => exact absurd HA.out (by simp [laws_markIntS.l0])
  | succ k1 =>
   have H := HA.out
   clear HA
   simp only [laws_markIntS.l0] at H
   by_cases c3 : x5_1 < (x0_1.length : Int)
   ·rw [if_pos c3] at H
    replace c3 := decide_eq_true c3
    by_cases c4 : 0 ≤ x5_1
    ·rw [if_pos c4] at H
     replace c4 := decide_eq_true c4
     obtain ⟨y775, hy775⟩ : ∃ y_ : List Int, y_ = (x0_1.set (x5_1 : Int).toNat x1_1) := ⟨_, rfl⟩
     replace H : (laws_markIntS.l0 k1 y775 (wrap64 (x1_1 + 1)) (wrap64 (x5_1 + 1))) = some (r1, r2) := by first | (rw [hy775]; with_reducible exact H) | (have H2_ := (Option.bind_some _ _).symm.trans H; rw [hy775]; with_reducible exact H2_) | (have H2_ := (Option.bind_some _ _).symm.trans H; with_reducible exact H2_) | with_reducible exact H | (rw [hy775]; exact H) | exact H
     have Ny775 := am_ hy775
     clear hy775
     have H' := am_ H
     clear H
     obtain ⟨Ao6, co6, eo6⟩ := Kd.R_slice HO_0.out
     subst eo6
     have p5 : 0 ≤ (x5_1 : Int) := Sh.od
     have q5 : (x5_1 : Int) < ((x0_1.length : Int) : Int) := Sh.od
     obtain ⟨go5, co5, eo5, gb5, gl5, cl5, HG5⟩ := Kd.R_form HO_0.out (by omega)
     (first | cases eo5 | (injection eo5 with ea_ en_ ec_; (first | subst ea_ | (injection ea_ with ea_; subst ea_)); subst ec_; clear en_))
     have GB5 := am_ gb5
     have GG5 := am_ HG5
     clear gb5 gl5 HG5
     have HMgo5 := am_ (show (P0_ go5 ∨ w.heap.size ≤ go5) from (HO_0.out.1 _ rfl))
     obtain ⟨hx5_0, hf5_0⟩ := Kd.R_celln 0 HO_0.out (x5_1 : Int) p5 q5
     replace p5 := eq_true p5
     replace q5 := eq_true q5
     have HP7 := Kd.R_putg HO_0.out (x5_1 : Int) x1_1
     go_wp2_with (first | ((with_reducible refine gate_store (t := 3) (p := 15) rfl ?_); refine store_event (t := 3) (p := 15) (v := ?vo_w8) (w1 := (wr.setCell ⟨go5, (x5_1 : Int).toNat, none⟩ (.int .i64 x1_1))) ?hg ?ho ?hn ?hr ?_; (case ho => rfl); (case hg => rfl); (case hn => rfl); (case hr => first | (go_simp; done) | (go_simp; rfl)); intro w8 hw; have hg : wr.grownBy w8 (some go5) := (by rw [hw]; exact HP7.2); have hp_ : Kd.R (Kd.int .i64) 3 w8 w0.heap.size (fun k_ => (P0_ k_ ∨ w.heap.size ≤ k_)) (.slice (some ⟨go5, 0, none⟩) x0_1.length co6) y775 := (by rw [hw, Ny775.out]; exact HP7.1); clear HP7; replace HB := am_ ((by rw [hw]; exact below_set (HB.out) GB5.out : Below w0.heap.size w0 w8)); replace HK := am_ (Kept.of_grown (S := (fun k_ => P0_ k_)) hg (by repeat (first | (with_reducible first | exact HK.out | apply Kept.alloc | apply Kept.drewN | apply Kept.drew) | exact HK.out)) (fun k_ e_ => (HO_0.out.1 k_ e_))); replace HO_0 := am_ hp_; clear hg hw hp_))
     go_roundg k1
     case measure => have := HK1.out; omega
     case rel => exact ⟨(y775), (wrap64 (x1_1 + 1)), (wrap64 (x5_1 + 1)), (Sh.es), (Sh.es), H', ⟨by have := HK1.out; omega⟩, ⟨Sh.rl HO_0.out⟩, ⟨by repeat (first | (with_reducible first | exact HK.out | apply Kept.alloc | apply Kept.drewN | apply Kept.drew) | exact HK.out)⟩, ⟨Sh.bw⟩⟩
    ·rw [if_neg c4] at H
     cases H
   ·rw [if_neg c3] at H
    replace c3 := decide_eq_false c3
    obtain ⟨rfl, rfl⟩ := Prod.mk.inj (Option.some.inj H)
    obtain ⟨Ao9, co9, eo9⟩ := Kd.R_slice HO_0.out
    subst eo9
    go_wp2
    go_ret
    exact ⟨Sh.eR, Sh.rl HO_0.out, Sh.bw, by repeat (first | (with_reducible first | exact HK.out | apply Kept.alloc | apply Kept.drewN | apply Kept.drew) | exact HK.out)⟩
def laws_heldIntS.l0 : Nat → List Int → Int → Int → Option (Int)
 | 0, _, _, _ => none
 | k + 1, x0, x1, x5 => if x5 < (x0.length : Int) then (if 0 ≤ x5 then (if (rd x0 x5) = x1 then (laws_heldIntS.l0 k x0 (wrap64 (x1 + 1)) (wrap64 (x5 + 1))) else (some (-1))) else (none)) else (some x1)
def laws_heldIntS.f (k : Nat) (l0 : List Int) (a1 : Int) : Option (Int) := laws_heldIntS.l0 k l0 a1 0
theorem laws_heldIntS.mono_l : ∀ k, (∀ y0 y1 y2, LeO (laws_heldIntS.l0 k y0 y1 y2) (laws_heldIntS.l0 (k + 1) y0 y1 y2))
 | 0 => fun _ _ _ r h => by simp [laws_heldIntS.l0] at h
 | k + 1 => by
  have ih0 := laws_heldIntS.mono_l k
  ·intro y0 y1 y2
   unfold laws_heldIntS.l0
   repeat' with_reducible first | apply ih0 | exact LeO.refl _ | exact LeO.none _ | apply LeO.ite | refine LeO.bind ?_ fun _ => ?_
theorem laws_heldIntS.mono : ∀ a0 a1 k, LeO (laws_heldIntS.f k a0 a1) (laws_heldIntS.f (k + 1) a0 a1) := by
 intro a0 a1 k
 have ih0 := laws_heldIntS.mono_l k
 unfold laws_heldIntS.f
 repeat' with_reducible first | apply ih0 | exact LeO.refl _ | exact LeO.none _ | apply LeO.ite | refine LeO.bind ?_ fun _ => ?_
theorem laws_heldIntS.calls (k : Nat) (A0 : Option Addr) (c0 : Nat) (l0 : List Int) (a1 : Int) (r : Int) (w : World) (hr0 : Kd.C (Kd.int .i64) w A0 l0.length l0) (hc0 : l0.length ≤ c0) (h : laws_heldIntS.f k l0 a1 = some r) :
  Calls Tryz.prog 19 #[.slice A0 l0.length c0, .int .i64 a1] w fun e w' => e = .returned (.int .i64 r) ∧ Drawn0 w w' := by
 have HR0 := am_ hr0
 have HC0 := am_ hc0
 clear hr0 hc0
 have H := h
 clear h
 unfold laws_heldIntS.f at H
 have H' := am_ H
 clear H
 go_enter Tryz.func19, Tryz.ntmps19
 go_wp2
 go_loopg [1, 5] k (fun kq v1 v5 w' => ∃ (x1_1 : Int) (x5_1 : Int), v1 = .int .i64 x1_1 ∧ v5 = .int .i64 x5_1 ∧ Aside0 (laws_heldIntS.l0 kq l0 x1_1 x5_1 = some r) ∧ Aside0 (kq ≤ k) ∧ Drawn0 w w')
 case atStart => exact ⟨(a1), (0), (Sh.es), (Sh.es), H', ⟨Nat.le_refl _⟩, Sh.dr⟩
 case round =>
  clear H'
  obtain ⟨x1_1, x5_1, rfl, rfl, HA, HK1, ⟨m1, rfl⟩⟩ := hrel
  cases gk with
  | zero => exact absurd HA.out (by simp [laws_heldIntS.l0])
  | succ k1 =>
   have H := HA.out
   clear HA
   simp only [laws_heldIntS.l0] at H
   by_cases c3 : x5_1 < (l0.length : Int)
   ·rw [if_pos c3] at H
    replace c3 := decide_eq_true c3
    by_cases c4 : 0 ≤ x5_1
    ·rw [if_pos c4] at H
     replace c4 := decide_eq_true c4
     by_cases c5 : (rd l0 x5_1) = x1_1
     ·rw [if_pos c5] at H
      have c5b0 : ((rd l0 x5_1) == x1_1) = true := beq_iff_eq.mpr c5
      have c5b1 : ((rd l0 x5_1) != x1_1) = false := bne_eq_false_iff_eq.mpr c5
      clear c5
      have H' := am_ H
      clear H
      have p776 : 0 ≤ (x5_1 : Int) := Sh.od
      have q776 : x5_1 < (l0.length : Int) := Sh.od
      obtain ⟨ad776, e776, hx776_0⟩ := Kd.at_int HR0.out x5_1 p776 q776
      cases e776
      replace p776 := eq_true p776
      replace q776 := eq_true q776
      go_wp2
      go_roundg k1
      case measure => have := HK1.out; omega
      case rel => exact ⟨(wrap64 (x1_1 + 1)), (wrap64 (x5_1 + 1)), (Sh.es), (Sh.es), H', ⟨by have := HK1.out; omega⟩, Sh.dr⟩
     ·rw [if_neg c5] at H
      have c5b0 : ((rd l0 x5_1) == x1_1) = false := beq_eq_false_iff_ne.mpr c5
      have c5b1 : ((rd l0 x5_1) != x1_1) = true := bne_iff_ne.mpr c5
      obtain rfl := Option.some.inj H
      have p776 : 0 ≤ (x5_1 : Int) := Sh.od
      have q776 : x5_1 < (l0.length : Int) := Sh.od
      obtain ⟨ad776, e776, hx776_0⟩ := Kd.at_int HR0.out x5_1 p776 q776
      cases e776
      replace p776 := eq_true p776
      replace q776 := eq_true q776
      go_wp2
      go_ret
      exact ⟨Sh.es, Sh.dr⟩
    ·rw [if_neg c4] at H
     cases H
   ·rw [if_neg c3] at H
    replace c3 := decide_eq_false c3
    obtain rfl := Option.some.inj H
    go_wp2
    go_ret
    exact ⟨Sh.es, Sh.dr⟩
def spec_StuckIn.l0 : Nat → List Int → List Int → Int → Int → Int → Int → List (S79) → List (S95) → Option (List Int × Bool)
 | 0, _, _, _, _, _, _, _, _ => none
 | k + 1, x4, x11, x12, x13, x990000, x990001, x990002, x990003 => if x13 < x12 then (if 0 ≤ x13 then (if x13 < (x11.length : Int) then ((spec_l7Of.f k x990000 x990001 x990002 x990003 (rd x11 x13)).bind fun t995 => ((spec_l7Enabled.f k x990000 x990001 x990002 x990003 t995).bind fun t998 => (if (t998.length : Int) = 0 then (if x4.length < 17592186044416 then (spec_StuckIn.l0 k (x4 ++ [rd x11 x13]) x11 x12 (wrap64 (x13 + 1)) x990000 x990001 x990002 x990003) else (none)) else (spec_StuckIn.l0 k x4 x11 x12 (wrap64 (x13 + 1)) x990000 x990001 x990002 x990003)))) else (none)) else (none)) else (some (x4, true))
def spec_StuckIn.f (k : Nat) (a0_0 : Int) (a0_1 : Int) (l0_2 : List (S79)) (l0_3 : List (S95)) : Option (List Int × Bool) := (spec_l7Small.f k a0_0 a0_1 l0_2 l0_3).bind fun t990 => (if t990 = true then ((spec_l8Reach.f k a0_0 a0_1 l0_2 l0_3).bind fun t991 => (spec_StuckIn.l0 k ([] : List Int) t991 (t991.length : Int) 0 a0_0 a0_1 l0_2 l0_3)) else (some (([] : List Int), false)))
theorem spec_StuckIn.mono_l : ∀ k, (∀ y0 y1 y2 y3 y4 y5 y6 y7, LeO (spec_StuckIn.l0 k y0 y1 y2 y3 y4 y5 y6 y7) (spec_StuckIn.l0 (k + 1) y0 y1 y2 y3 y4 y5 y6 y7))
 | 0 => fun _ _ _ _ _ _ _ _ r h => by simp [spec_StuckIn.l0] at h
 | k + 1 => by
  have ih0 := spec_StuckIn.mono_l k
  ·intro y0 y1 y2 y3 y4 y5 y6 y7
   unfold spec_StuckIn.l0
   repeat' with_reducible first | apply ih0 | apply spec_l7Enabled.mono | apply spec_l7Of.mono | apply spec_l7Small.mono | apply spec_l8Reach.mono | exact LeO.refl _ | exact LeO.none _ | apply LeO.ite | refine LeO.bind ?_ fun _ => ?_
theorem spec_StuckIn.mono : ∀ a0 a1 a2 a3 k, LeO (spec_StuckIn.f k a0 a1 a2 a3) (spec_StuckIn.f (k + 1) a0 a1 a2 a3) := by
 intro a0 a1 a2 a3 k
 have ih0 := spec_StuckIn.mono_l k
 unfold spec_StuckIn.f
 repeat' with_reducible first | apply ih0 | apply spec_l7Enabled.mono | apply spec_l7Of.mono | apply spec_l7Small.mono | apply spec_l8Reach.mono | exact LeO.refl _ | exact LeO.none _ | apply LeO.ite | refine LeO.bind ?_ fun _ => ?_
theorem spec_StuckIn.calls (k : Nat) (a0_0 : Int) (a0_1 : Int) (A0_2 : Option Addr) (c0_2 : Nat) (l0_2 : List (S79)) (A0_3 : Option Addr) (c0_3 : Nat) (l0_3 : List (S95)) (r1 : List Int) (r2 : Bool) (w : World) (hr0_2 : Kd.C k79 w A0_2 l0_2.length l0_2) (hc0_2 : l0_2.length ≤ c0_2) (hr0_3 : Kd.C k95 w A0_3 l0_3.length l0_3) (hc0_3 : l0_3.length ≤ c0_3) (h : spec_StuckIn.f k a0_0 a0_1 l0_2 l0_3 = some (r1, r2)) :
  Calls Tryz.prog 32 #[.agg #[.int .i64 a0_0, .int .i64 a0_1, .slice A0_2 l0_2.length c0_2, .slice A0_3 l0_3.length c0_3]] w fun e w' => ∃ v0_ : Value, e = .returned (.tuple #[v0_, .bool r2]) ∧ Kd.R (Kd.int .i64) 3 w' w.heap.size (fun _ => True) v0_ r1 ∧ Below w.heap.size w w' := by
 have hu33 := Tryz.underlying33
 have HR0_2 := am_ hr0_2
 have HC0_2 := am_ hc0_2
 clear hr0_2 hc0_2
 have HR0_3 := am_ hr0_3
 have HC0_3 := am_ hc0_3
 clear hr0_3 hc0_3
 have HB := am_ (Below.refl w.heap.size w)
 have H := h
 clear h
 unfold spec_StuckIn.f at H
 obtain ⟨t990, A2, H⟩ := Sh.ba H
 by_cases c3 : t990 = true
 ·subst c3
  rw [if_pos rfl] at H
  obtain ⟨t991, A4, H⟩ := Sh.ba H
  have H' := am_ H
  clear H
  go_enter Tryz.func32, Tryz.ntmps32
  go_wp2_with (first | ((with_reducible refine Sh.d 1 ?_); refine Sh.bz w (N := 1) (cs := #[.int .i64 a0_0, .int .i64 a0_1, .slice A0_2 l0_2.length c0_2, .slice A0_3 l0_3.length c0_3]) (t := 33) (h := ?_); clear HB; intro gb989 w5 BK989 GE989 HB; obtain ⟨hcz6_0, hcz6_1, hcz6_2, hcz6_3, hfz6_0, hfz6_1, hfz6_2, hfz6_3⟩ := Sh.b4 BK989.out) | ((with_reducible refine Sh.k 47 ?_); refine Sh.gB (some 8) Tryz.func47 #[.agg #[.int .i64 a0_0, .int .i64 a0_1, .slice A0_2 l0_2.length c0_2, .slice A0_3 l0_3.length c0_3]] (spec_l7Small.calls k a0_0 a0_1 _ _ l0_2 _ _ l0_3 true _ (Sh.cB HR0_2.out) HC0_2.out (Sh.cB HR0_3.out) HC0_3.out A2.out) fun w7 hb => ?_; replace BK989 := Sh.ab BK989 hb; replace HB := Sh.hb hb; (try clear hb); (try clear hk); (try clear hi); obtain ⟨hcz8_0, hcz8_1, hcz8_2, hcz8_3, hfz8_0, hfz8_1, hfz8_2, hfz8_3⟩ := Sh.b4 BK989.out) | ((with_reducible refine Sh.k 59 ?_); refine Sh.gL (some 11) Tryz.func59 #[.agg #[.int .i64 a0_0, .int .i64 a0_1, .slice A0_2 l0_2.length c0_2, .slice A0_3 l0_3.length c0_3]] (h := ?_); (with_reducible refine (spec_l8Reach.calls k a0_0 a0_1 _ _ l0_2 _ _ l0_3 t991 _ (Sh.cB HR0_2.out) HC0_2.out (Sh.cB HR0_3.out) HC0_3.out A4.out).mono ?_); rintro e w9 ⟨v992, rfl, ho0, hb⟩; refine ⟨_, rfl, ?_⟩; have HO993 := am_ (Kd.R_lower ho0 (below_size Sh.bw)); replace BK989 := Sh.ab BK989 hb; replace HB := Sh.hb hb; (try clear hb); (try clear ho0); obtain ⟨Ao10, co10, eo10⟩ := Kd.R_slice HO993.out; subst eo10))
  go_loopg [4, 13] k (fun kq v4 v13 w' => ∃ (x4_1 : List Int) (x13_1 : Int), v13 = .int .i64 x13_1 ∧ Aside0 (spec_StuckIn.l0 kq x4_1 t991 (t991.length : Int) x13_1 a0_0 a0_1 l0_2 l0_3 = some (r1, r2)) ∧ Aside0 (kq ≤ k) ∧ Aside0 (Kd.R (Kd.int .i64) 3 w' w.heap.size (fun k_ => some k_ ≠ ((.slice Ao10 t991.length co10) : Value).ownBlock) v4 x4_1) ∧ Aside0 (Kd.R (Kd.int .i64) 3 w' w.heap.size (fun k_ => some k_ ≠ (v4 : Value).ownBlock) (.slice Ao10 t991.length co10) t991) ∧ Aside0 (w'.heap[gb989]? = some (.cells #[.int .i64 a0_0, .int .i64 a0_1, (.slice A0_2 l0_2.length c0_2), (.slice A0_3 l0_3.length c0_3)] 33 (0, 0))) ∧ Aside0 (Below w.heap.size w w'))
  case atStart => exact ⟨(([] : List Int)), (0), (Sh.es), H', ⟨Nat.le_refl _⟩, ⟨by first | exact Kd.R_nil _ _ _ _ _ | exact Kd.N_nil _ _ _ _ _ | exact Kd.V_nil _ _ _ _ _ | exact Kd.Q_nil _ _ _ _ _ | exact Kd.S_nil _ _ _ _ _⟩, ⟨Sh.rl (Kd.R_mono HO993.out (fun _ hk => (by simp [Value.ownBlock])))⟩, ⟨by refine Sh.pl ?_; exact BK989.out⟩, ⟨Sh.bw⟩⟩
  case round =>
   clear H'
   try clear hcz6_0
   try clear hcz6_1
   try clear hcz6_2
   try clear hcz6_3
   try clear hcz8_0
   try clear hcz8_1
   try clear hcz8_2
   try clear hcz8_3
   try clear hfz6_0
   try clear hfz6_1
   try clear hfz6_2
   try clear hfz6_3
   try clear hfz8_0
   try clear hfz8_1
   try clear hfz8_2
   try clear hfz8_3
   obtain ⟨x4_1, x13_1, rfl, HA, HK1, HO_4, HO_11, BK989, HB⟩ := hrel
   cases gk with
   | zero => exact absurd HA.out (by simp [spec_StuckIn.l0])
   | succ k1 =>
    have H := HA.out
    clear HA
    simp only [spec_StuckIn.l0] at H
    by_cases c11 : x13_1 < (t991.length : Int)
    ·rw [if_pos c11] at H
     replace c11 := decide_eq_true c11
     by_cases c12 : 0 ≤ x13_1
     ·rw [if_pos c12] at H
      replace c12 := decide_eq_true c12
      by_cases c13 : x13_1 < (t991.length : Int)
      ·rw [if_pos c13] at H
       replace c13 := decide_eq_true c13
       obtain ⟨t995, A14, H⟩ := Sh.ba H
       obtain ⟨t998, A15, H⟩ := Sh.ba H
       by_cases c16 : (t998.length : Int) = 0
       ·rw [if_pos c16] at H
        have c16b0 : ((t998.length : Int) == 0) = true := beq_iff_eq.mpr c16
        have c16b1 : ((t998.length : Int) != 0) = false := bne_eq_false_iff_eq.mpr c16
        clear c16
        by_cases c17 : x4_1.length < 17592186044416
        ·rw [if_pos c17] at H
         have LMc17 := am_ c17
         clear c17
         obtain ⟨y1001, hy1001⟩ : ∃ y_ : List Int, y_ = (x4_1 ++ [rd t991 x13_1]) := ⟨_, rfl⟩
         replace H : (spec_StuckIn.l0 k1 y1001 t991 (t991.length : Int) (wrap64 (x13_1 + 1)) a0_0 a0_1 l0_2 l0_3) = some (r1, r2) := by first | (rw [hy1001]; with_reducible exact H) | (have H2_ := (Option.bind_some _ _).symm.trans H; rw [hy1001]; with_reducible exact H2_) | (have H2_ := (Option.bind_some _ _).symm.trans H; with_reducible exact H2_) | with_reducible exact H | (rw [hy1001]; exact H) | exact H
         have Ny1001 := am_ hy1001
         clear hy1001
         have H' := am_ H
         clear H
         have p994 : 0 ≤ (x13_1 : Int) := Sh.od
         have q994 : x13_1 < (t991.length : Int) := Sh.od
         obtain ⟨ad994, e994, hx994_0⟩ := Kd.at_int (Kd.R_reads' HO_11.out).2.2 x13_1 p994 q994
         cases e994
         replace p994 := eq_true p994
         replace q994 := eq_true q994
         try go_wp2
         replace HO_4 := am_ (Kd.R_drew HO_4.out)
         replace HO_11 := am_ (Kd.R_drew HO_11.out)
         replace BK989 := am_ (blk_drew BK989.out)
         replace HB := am_ (below_drew1 HB.out)
         refine start_ (n := 7) (S := fun w' => w'.cell? ⟨gb989, 0, none⟩ = some (.int .i64 a0_0) ∧ w'.cell? ⟨gb989, 1, none⟩ = some (.int .i64 a0_1) ∧ w'.cell? ⟨gb989, 2, none⟩ = some (.slice A0_2 l0_2.length c0_2) ∧ w'.cell? ⟨gb989, 3, none⟩ = some (.slice A0_3 l0_3.length c0_3)) (ds := []) (Sh.nm 7 0) (by kernel_rfl) rfl rfl Sh.cs (fun hHeld => ?_)
         generalize wr.drew = w18 at HO_4 HO_11 BK989 HB hHeld ⊢
         refine Sh.pA 2 19 (Sh.nm 7 4) (by kernel_rfl) ?_
         refine Sh.tA 0 17 (Sh.nm 7 5) (by kernel_rfl) hHeld ?_ (hy := by rintro w' ⟨s0, s1, s2, s3⟩; go_simp; with_reducible rfl)
         refine Sh.tA 1 18 (Sh.pre 7 3) (by kernel_rfl) hHeld ?_ (hy := by rintro w' ⟨s0, s1, s2, s3⟩; go_simp; with_reducible rfl)
         refine one_ (i := 3) (N := some 20) (Sh.nm 7 15) rfl rfl (by kernel_rfl) (by decide) (fun K hK => ?_)
         refine goes_ Tryz.func61 (by kernel_rfl) rfl #[.agg #[.int .i64 a0_0, .int .i64 a0_1, .slice A0_2 l0_2.length c0_2, .slice A0_3 l0_3.length c0_3], .int .i64 (rd t991 x13_1)] (by rfl) rfl rfl (by (try simp only [List.map_toArray, List.map_cons, List.map_nil]); first | done | rfl | (simp only [List.length_drop, List.length_take]; rfl)) ?_
         with_reducible refine (spec_l7Of.calls k1 a0_0 a0_1 _ _ l0_2 _ _ l0_3 (rd t991 x13_1) t995 _ (Sh.cB HR0_2.out) HC0_2.out (Sh.cB HR0_3.out) HC0_3.out A14.out).mono ?_
         rintro e w19 ⟨v996, rfl, ho0, hb⟩
         refine ⟨_, rfl, ?_⟩
         replace HO_4 := am_ (Kd.R_below (Sh.rl HO_4.out) hb)
         replace HO_11 := am_ (Kd.R_below (Sh.rl HO_11.out) hb)
         have HO997 := am_ (Kd.R_lower ho0 (below_size Sh.bw))
         replace BK989 := Sh.ab BK989 hb
         replace HB := Sh.hb hb
         (try clear hb)
         (try clear hk)
         (try clear ho0)
         obtain ⟨Ao20, co20, eo20⟩ := Kd.R_slice HO997.out
         (first | subst eo20 | (injection eo20 with f1_ f2_ f3_; have f4_ := f1_.symm; have f5_ := f3_.symm; clear f1_ f2_ f3_; subst f4_; subst f5_))
         refine Sh.kN hK Sh.cs fun hHeld => ?_
         clear hK K
         refine one_ (i := 4) (N := some 21) (Sh.nm 7 31) rfl rfl (by kernel_rfl) (by decide) (fun K hK => ?_)
         refine goes_ Tryz.func73 (by kernel_rfl) rfl #[.agg #[.int .i64 a0_0, .int .i64 a0_1, .slice A0_2 l0_2.length c0_2, .slice A0_3 l0_3.length c0_3], .slice Ao20 t995.length co20] (by rfl) rfl rfl (by (try simp only [List.map_toArray, List.map_cons, List.map_nil]); first | done | rfl | (simp only [List.length_drop, List.length_take]; rfl)) ?_
         with_reducible refine (spec_l7Enabled.calls k1 a0_0 a0_1 _ _ l0_2 _ _ l0_3 _ _ t995 t998 _ (Sh.cB HR0_2.out) HC0_2.out (Sh.cB HR0_3.out) HC0_3.out (Sh.cR (Kd.R_reads' HO997.out).2.2) (Kd.R_reads' HO997.out).2.1 A15.out).mono ?_
         rintro e w21 ⟨v999, rfl, ho0, hb⟩
         refine ⟨_, rfl, ?_⟩
         replace HO997 := am_ (Kd.R_below (Sh.rl HO997.out) hb)
         have HO1000 := am_ (Kd.R_lower (Kd.R_new' (Kd.R_new' ho0 (Kd.R_lt (Sh.rl HO_4.out))) (Kd.R_lt (Sh.rl HO_11.out))) (below_size Sh.bw))
         replace HO_4 := am_ (Kd.R_elder' (Sh.rl HO_4.out) (Kd.R_base ho0) hb)
         replace HO_11 := am_ (Kd.R_elder' (Sh.rl HO_11.out) (Kd.R_base ho0) hb)
         replace BK989 := Sh.ab BK989 hb
         replace HB := Sh.hb hb
         (try clear hb)
         (try clear ho0)
         obtain ⟨Ao22, co22, eo22⟩ := Kd.R_slice HO1000.out
         (first | subst eo22 | (injection eo22 with f1_ f2_ f3_; have f4_ := f1_.symm; have f5_ := f3_.symm; clear f1_ f2_ f3_; subst f4_; subst f5_))
         refine Sh.kN hK Sh.cs fun hHeld => ?_
         clear hK K
         refine Sh.pA 5 22 (Sh.pre 7 6) (by kernel_rfl) ?_
         refine Sh.pA 6 23 (Sh.pre 7 7) (by kernel_rfl) ?_
         refine done_ (by kernel_rfl) ?_
         try go_wp2_with (first | ((with_reducible refine gate_builtin (b := .append) (xs := #[.tmp 24, .tmp 26]) rfl ?_); at_builtin; refine Kd.R_append (Kd.int .i64) (w0 := w) w.heap.size rfl (.tmp 24) (.tmp 26) 27 3 (.int .i64 0) 8 rfl Tryz.underlying27 info3 rfl (by decide) (by omega) u4 x4_1 (rd t991 x13_1) [.int .i64 (rd t991 x13_1)] (fun k_ => some k_ ≠ (.slice (some ad994) t991.length co10 : Value).ownBlock ∧ some k_ ≠ (.slice Ao22 t998.length co22 : Value).ownBlock) (fun _ => False) rfl rfl ?aP (fun _ hk => hk.elim) ?aF ?aO ?aB ?aS ?aL ?_; (case aP => exact rfl); (case aB => exact Sh.bw); (case aF => exact (fun k_ hk => ⟨Kd.fresh' (Kd.R_lt (Sh.rl HO_11.out)) k_ hk, Kd.fresh' (Kd.R_lt (Sh.rl HO1000.out)) k_ hk⟩)); (case aO => exact (Sh.rl HO_4.out)); (case aS => exact (below_size Sh.bw)); (case aL => have := LMc17.out; omega); intro v1002 w23 ho hb hg hat; rw [← Ny1001.out] at ho; have n0_ := am_ (Kd.R_after (ok := (fun k_ => some k_ ≠ (.slice Ao22 t998.length co22 : Value).ownBlock)) (Sh.rl (Kd.R_mono HO_11.out (fun _ h => ⟨h.2, h.1⟩))) hg hat); have n1_ := am_ (blk_grown (g := gb989) (o := .cells #[.int .i64 a0_0, .int .i64 a0_1, .slice A0_2 l0_2.length c0_2, .slice A0_3 l0_3.length c0_3] 33 (0, 0)) (Sh.pl BK989.out) hg (Kd.R_ne HO_4.out BK989.out (by decide))); have n2_ := am_ (Kd.R_over' (Sh.rl HO997.out) (Kd.R_typed (Sh.rl HO_4.out)) (by decide) hg); have n3_ := am_ (Kd.R_after (ok := (fun k_ => some k_ ≠ (.slice (some ad994) t991.length co10 : Value).ownBlock)) (Sh.rl (Kd.R_mono HO1000.out (fun _ h => ⟨h.2, h.1.2⟩))) hg hat); have n4_ := am_ hb; have n5_ := am_ ho; clear HO_11; clear BK989; clear HO997; clear HO1000; clear HB; clear HO_4; have HO_11 := n0_; have BK989 := n1_; have HO997 := n2_; have HO1000 := n3_; have HB := n4_; have HO1003 := n5_; clear n0_ n1_ n2_ n3_ n4_ n5_; clear ho hb hg hat))
         go_roundg k1
         case measure => have := HK1.out; omega
         case rel => exact ⟨(y1001), (wrap64 (x13_1 + 1)), (Sh.es), H', ⟨by have := HK1.out; omega⟩, ⟨Sh.rl (Kd.R_mono HO1003.out (fun _ hk => hk.1))⟩, ⟨Sh.rl (Kd.R_mono HO_11.out (fun _ hk => hk.2))⟩, ⟨by refine Sh.pl ?_; exact BK989.out⟩, ⟨Sh.bw⟩⟩
        ·rw [if_neg c17] at H
         cases H
       ·rw [if_neg c16] at H
        have c16b0 : ((t998.length : Int) == 0) = false := beq_eq_false_iff_ne.mpr c16
        have c16b1 : ((t998.length : Int) != 0) = true := bne_iff_ne.mpr c16
        have c16b2 : ¬ (t998 = []) := fun h_ => c16 (by rw [h_]; rfl)
        have H' := am_ H
        clear H
        have p994 : 0 ≤ (x13_1 : Int) := Sh.od
        have q994 : x13_1 < (t991.length : Int) := Sh.od
        obtain ⟨ad994, e994, hx994_0⟩ := Kd.at_int (Kd.R_reads' HO_11.out).2.2 x13_1 p994 q994
        cases e994
        replace p994 := eq_true p994
        replace q994 := eq_true q994
        try go_wp2
        replace HO_4 := am_ (Kd.R_drew HO_4.out)
        replace HO_11 := am_ (Kd.R_drew HO_11.out)
        replace BK989 := am_ (blk_drew BK989.out)
        replace HB := am_ (below_drew1 HB.out)
        refine start_ (n := 7) (S := fun w' => w'.cell? ⟨gb989, 0, none⟩ = some (.int .i64 a0_0) ∧ w'.cell? ⟨gb989, 1, none⟩ = some (.int .i64 a0_1) ∧ w'.cell? ⟨gb989, 2, none⟩ = some (.slice A0_2 l0_2.length c0_2) ∧ w'.cell? ⟨gb989, 3, none⟩ = some (.slice A0_3 l0_3.length c0_3)) (ds := []) (Sh.nm 7 0) (by kernel_rfl) rfl rfl Sh.cs (fun hHeld => ?_)
        generalize wr.drew = w24 at HO_4 HO_11 BK989 HB hHeld ⊢
        refine Sh.pA 2 19 (Sh.nm 7 4) (by kernel_rfl) ?_
        refine Sh.tA 0 17 (Sh.nm 7 5) (by kernel_rfl) hHeld ?_ (hy := by rintro w' ⟨s0, s1, s2, s3⟩; go_simp; with_reducible rfl)
        refine Sh.tA 1 18 (Sh.pre 7 3) (by kernel_rfl) hHeld ?_ (hy := by rintro w' ⟨s0, s1, s2, s3⟩; go_simp; with_reducible rfl)
        refine one_ (i := 3) (N := some 20) (Sh.nm 7 15) rfl rfl (by kernel_rfl) (by decide) (fun K hK => ?_)
        refine goes_ Tryz.func61 (by kernel_rfl) rfl #[.agg #[.int .i64 a0_0, .int .i64 a0_1, .slice A0_2 l0_2.length c0_2, .slice A0_3 l0_3.length c0_3], .int .i64 (rd t991 x13_1)] (by rfl) rfl rfl (by (try simp only [List.map_toArray, List.map_cons, List.map_nil]); first | done | rfl | (simp only [List.length_drop, List.length_take]; rfl)) ?_
        with_reducible refine (spec_l7Of.calls k1 a0_0 a0_1 _ _ l0_2 _ _ l0_3 (rd t991 x13_1) t995 _ (Sh.cB HR0_2.out) HC0_2.out (Sh.cB HR0_3.out) HC0_3.out A14.out).mono ?_
        rintro e w25 ⟨v996, rfl, ho0, hb⟩
        refine ⟨_, rfl, ?_⟩
        replace HO_4 := am_ (Kd.R_below (Sh.rl HO_4.out) hb)
        replace HO_11 := am_ (Kd.R_below (Sh.rl HO_11.out) hb)
        have HO997 := am_ (Kd.R_lower ho0 (below_size Sh.bw))
        replace BK989 := Sh.ab BK989 hb
        replace HB := Sh.hb hb
        (try clear hb)
        (try clear hk)
        (try clear ho0)
        obtain ⟨Ao26, co26, eo26⟩ := Kd.R_slice HO997.out
        (first | subst eo26 | (injection eo26 with f1_ f2_ f3_; have f4_ := f1_.symm; have f5_ := f3_.symm; clear f1_ f2_ f3_; subst f4_; subst f5_))
        refine Sh.kN hK Sh.cs fun hHeld => ?_
        clear hK K
        refine one_ (i := 4) (N := some 21) (Sh.nm 7 31) rfl rfl (by kernel_rfl) (by decide) (fun K hK => ?_)
        refine goes_ Tryz.func73 (by kernel_rfl) rfl #[.agg #[.int .i64 a0_0, .int .i64 a0_1, .slice A0_2 l0_2.length c0_2, .slice A0_3 l0_3.length c0_3], .slice Ao26 t995.length co26] (by rfl) rfl rfl (by (try simp only [List.map_toArray, List.map_cons, List.map_nil]); first | done | rfl | (simp only [List.length_drop, List.length_take]; rfl)) ?_
        with_reducible refine (spec_l7Enabled.calls k1 a0_0 a0_1 _ _ l0_2 _ _ l0_3 _ _ t995 t998 _ (Sh.cB HR0_2.out) HC0_2.out (Sh.cB HR0_3.out) HC0_3.out (Sh.cR (Kd.R_reads' HO997.out).2.2) (Kd.R_reads' HO997.out).2.1 A15.out).mono ?_
        rintro e w27 ⟨v999, rfl, ho0, hb⟩
        refine ⟨_, rfl, ?_⟩
        replace HO997 := am_ (Kd.R_below (Sh.rl HO997.out) hb)
        have HO1000 := am_ (Kd.R_lower (Kd.R_new' (Kd.R_new' ho0 (Kd.R_lt (Sh.rl HO_4.out))) (Kd.R_lt (Sh.rl HO_11.out))) (below_size Sh.bw))
        replace HO_4 := am_ (Kd.R_elder' (Sh.rl HO_4.out) (Kd.R_base ho0) hb)
        replace HO_11 := am_ (Kd.R_elder' (Sh.rl HO_11.out) (Kd.R_base ho0) hb)
        replace BK989 := Sh.ab BK989 hb
        replace HB := Sh.hb hb
        (try clear hb)
        (try clear ho0)
        obtain ⟨Ao28, co28, eo28⟩ := Kd.R_slice HO1000.out
        (first | subst eo28 | (injection eo28 with f1_ f2_ f3_; have f4_ := f1_.symm; have f5_ := f3_.symm; clear f1_ f2_ f3_; subst f4_; subst f5_))
        refine Sh.kN hK Sh.cs fun hHeld => ?_
        clear hK K
        refine Sh.pA 5 22 (Sh.pre 7 6) (by kernel_rfl) ?_
        refine Sh.pA 6 23 (Sh.pre 7 7) (by kernel_rfl) ?_
        refine done_ (by kernel_rfl) ?_
        try go_wp2
        go_roundg k1
        case measure => have := HK1.out; omega
        case rel => exact ⟨(x4_1), (wrap64 (x13_1 + 1)), (Sh.es), H', ⟨by have := HK1.out; omega⟩, ⟨Sh.rl (Kd.R_mono HO_4.out (fun _ hk => hk.1))⟩, ⟨Sh.rl (Kd.R_mono HO_11.out (fun _ hk => hk.1))⟩, ⟨by refine Sh.pl ?_; exact BK989.out⟩, ⟨Sh.bw⟩⟩
      ·rw [if_neg c13] at H
       cases H
     ·rw [if_neg c12] at H
      cases H
    ·rw [if_neg c11] at H
     replace c11 := decide_eq_false c11
     obtain ⟨rfl, rfl⟩ := Prod.mk.inj (Option.some.inj H)
     go_wp2
     go_ret2
     exact ⟨_, Sh.eR, Sh.rl (Kd.R_mono HO_4.out (fun _ hk => trivial)), Sh.bw⟩
 ·replace c3 := Bool.eq_false_iff.mpr c3
  subst c3
  rw [Sh.nf] at H
  obtain ⟨rfl, rfl⟩ := Prod.mk.inj (Option.some.inj H)
  go_enter Tryz.func32, Tryz.ntmps32
  go_wp2_with (first | ((with_reducible refine Sh.d 1 ?_); refine Sh.bz w (N := 1) (cs := #[.int .i64 a0_0, .int .i64 a0_1, .slice A0_2 l0_2.length c0_2, .slice A0_3 l0_3.length c0_3]) (t := 33) (h := ?_); clear HB; intro gb989 w29 BK989 GE989 HB; obtain ⟨hcz30_0, hcz30_1, hcz30_2, hcz30_3, hfz30_0, hfz30_1, hfz30_2, hfz30_3⟩ := Sh.b4 BK989.out) | ((with_reducible refine Sh.k 47 ?_); refine Sh.gB (some 8) Tryz.func47 #[.agg #[.int .i64 a0_0, .int .i64 a0_1, .slice A0_2 l0_2.length c0_2, .slice A0_3 l0_3.length c0_3]] (spec_l7Small.calls k a0_0 a0_1 _ _ l0_2 _ _ l0_3 false _ (Sh.cB HR0_2.out) HC0_2.out (Sh.cB HR0_3.out) HC0_3.out A2.out) fun w31 hb => ?_; replace BK989 := Sh.ab BK989 hb; replace HB := Sh.hb hb; (try clear hb); (try clear hk)))
  go_ret2
  exact ⟨_, Sh.eR, by first | exact Kd.R_nil _ _ _ _ _ | exact Kd.N_nil _ _ _ _ _ | exact Kd.V_nil _ _ _ _ _ | exact Kd.Q_nil _ _ _ _ _ | exact Kd.S_nil _ _ _ _ _, Sh.bw⟩
def impl_StuckIn_1.f (k : Nat) (l0_0 : List (S79)) (l0_1 : List (S124)) (a1_0 : Int) (a1_1 : Int) (l1_2 : List (S79)) (l1_3 : List (S95)) (l2_0 : List Int) : Option (Bool) := (impl_Program_holds.f k a1_0 a1_1 l1_2 l1_3 l0_0 l2_0).bind fun t1005 => (some t1005)
theorem impl_StuckIn_1.mono : ∀ a0 a1 a2 a3 a4 a5 a6 k, LeO (impl_StuckIn_1.f k a0 a1 a2 a3 a4 a5 a6) (impl_StuckIn_1.f (k + 1) a0 a1 a2 a3 a4 a5 a6) := by
 intro a0 a1 a2 a3 a4 a5 a6 k
 unfold impl_StuckIn_1.f
 repeat' with_reducible first | apply impl_Program_holds.mono | exact LeO.refl _ | exact LeO.none _ | apply LeO.ite | refine LeO.bind ?_ fun _ => ?_
theorem impl_StuckIn_1.calls (k : Nat) (A0_0 : Option Addr) (c0_0 : Nat) (l0_0 : List (S79)) (A0_1 : Option Addr) (c0_1 : Nat) (l0_1 : List (S124)) (bp1 : Nat) (a1_0 : Int) (a1_1 : Int) (A1_2 : Option Addr) (c1_2 : Nat) (l1_2 : List (S79)) (A1_3 : Option Addr) (c1_3 : Nat) (l1_3 : List (S95)) (bp2 : Nat) (A2_0 : Option Addr) (c2_0 : Nat) (l2_0 : List Int) (r : Bool) (w : World) (hr0_0 : Kd.C k79 w A0_0 l0_0.length l0_0) (hc0_0 : l0_0.length ≤ c0_0) (hr0_1 : Kd.C k124 w A0_1 l0_1.length l0_1) (hc0_1 : l0_1.length ≤ c0_1) (hr1_2 : Kd.C k79 w A1_2 l1_2.length l1_2) (hc1_2 : l1_2.length ≤ c1_2) (hr1_3 : Kd.C k95 w A1_3 l1_3.length l1_3) (hc1_3 : l1_3.length ≤ c1_3) (hr2_0 : Kd.C (Kd.int .u64) w A2_0 l2_0.length l2_0) (hc2_0 : l2_0.length ≤ c2_0) (hb1 : w.heap[bp1]? = some (.cells #[.int .i64 a1_0, .int .i64 a1_1, .slice A1_2 l1_2.length c1_2, .slice A1_3 l1_3.length c1_3] 33 (0, 0))) (hb2 : w.heap[bp2]? = some (.cells #[.slice A2_0 l2_0.length c2_0] 71 (0, 0))) (hd1_2 : bp1 ≠ bp2) (h : impl_StuckIn_1.f k l0_0 l0_1 a1_0 a1_1 l1_2 l1_3 l2_0 = some r) :
  Calls Tryz.prog 75 #[.agg #[.slice A0_0 l0_0.length c0_0, .slice A0_1 l0_1.length c0_1], .pointer (some ⟨bp1, 0, none⟩), .pointer (some ⟨bp2, 0, none⟩)] w fun e w' => e = .returned (.bool r) ∧ Below w.heap.size w w' := by
 have hu95 := Tryz.underlying95
 have hu33 := Tryz.underlying33
 have HR0_0 := am_ hr0_0
 have HC0_0 := am_ hc0_0
 clear hr0_0 hc0_0
 have HR0_1 := am_ hr0_1
 have HC0_1 := am_ hc0_1
 clear hr0_1 hc0_1
 have HR1_2 := am_ hr1_2
 have HC1_2 := am_ hc1_2
 clear hr1_2 hc1_2
 have HR1_3 := am_ hr1_3
 have HC1_3 := am_ hc1_3
 clear hr1_3 hc1_3
 have HR2_0 := am_ hr2_0
 have HC2_0 := am_ hc2_0
 clear hr2_0 hc2_0
 have HX1 := am_ hb1
 clear hb1
 have HX2 := am_ hb2
 clear hb2
 have NB1_2 := am_ hd1_2
 have NB2_1 := am_ hd1_2.symm
 clear hd1_2
 have HB := am_ (Below.refl w.heap.size w)
 have H := h
 clear h
 unfold impl_StuckIn_1.f at H
 obtain ⟨t1005, A4, H⟩ := Sh.ba H
 obtain rfl := Option.some.inj H
 go_enter Tryz.func75, Tryz.ntmps75
 go_wp2_with (first | ((with_reducible refine Sh.d 3 ?_); refine Sh.bx (N := 3) (cs := #[.slice A0_0 l0_0.length c0_0, .slice A0_1 l0_1.length c0_1]) (t := 95) (h := ?_); intro gb1004 hg w5 hbox hb; have BK1004 := am_ hbox; have GE1004 := Sh.ag w hg; replace HB := Sh.hb hb; have NB1_1004 := am_ ((by rw [hg]; exact Nat.ne_of_lt (blk_lt (g := bp1) (o := .cells #[.int .i64 a1_0, .int .i64 a1_1, .slice A1_2 l1_2.length c1_2, .slice A1_3 l1_3.length c1_3] 33 (0, 0)) (Sh.pl HX1.out)) : bp1 ≠ gb1004)); have NB1004_1 := am_ ((by rw [hg]; exact Nat.ne_of_gt (blk_lt (g := bp1) (o := .cells #[.int .i64 a1_0, .int .i64 a1_1, .slice A1_2 l1_2.length c1_2, .slice A1_3 l1_3.length c1_3] 33 (0, 0)) (Sh.pl HX1.out)) : gb1004 ≠ bp1)); replace HX1 := am_ (blk_below (g := bp1) (o := .cells #[.int .i64 a1_0, .int .i64 a1_1, .slice A1_2 l1_2.length c1_2, .slice A1_3 l1_3.length c1_3] 33 (0, 0)) (Sh.pl HX1.out) hb); have NB2_1004 := am_ ((by rw [hg]; exact Nat.ne_of_lt (blk_lt (g := bp2) (o := .cells #[.slice A2_0 l2_0.length c2_0] 71 (0, 0)) (Sh.pl HX2.out)) : bp2 ≠ gb1004)); have NB1004_2 := am_ ((by rw [hg]; exact Nat.ne_of_gt (blk_lt (g := bp2) (o := .cells #[.slice A2_0 l2_0.length c2_0] 71 (0, 0)) (Sh.pl HX2.out)) : gb1004 ≠ bp2)); replace HX2 := am_ (blk_below (g := bp2) (o := .cells #[.slice A2_0 l2_0.length c2_0] 71 (0, 0)) (Sh.pl HX2.out) hb); clear hb hbox hg; have hnb6 := NB1_2.out; have hnc6 := NB2_1.out; have hnb7 := NB1_1004.out; have hnc7 := NB1004_1.out; have hcz8_0 : w5.cell? ⟨bp1, 0, none⟩ = some (.int .i64 a1_0) := (blk_cell HX1.out 0).trans rfl; have hcz8_1 : w5.cell? ⟨bp1, 1, none⟩ = some (.int .i64 a1_1) := (blk_cell HX1.out 1).trans rfl; have hcz8_2 : w5.cell? ⟨bp1, 2, none⟩ = some (.slice A1_2 l1_2.length c1_2) := (blk_cell HX1.out 2).trans rfl; have hcz8_3 : w5.cell? ⟨bp1, 3, none⟩ = some (.slice A1_3 l1_3.length c1_3) := (blk_cell HX1.out 3).trans rfl; have hfz8_0 := blk_frozen HX1.out 0; have hfz8_1 := blk_frozen HX1.out 1; have hfz8_2 := blk_frozen HX1.out 2; have hfz8_3 := blk_frozen HX1.out 3; have hnb9 := NB1004_2.out; have hnc9 := NB2_1004.out; obtain ⟨hcz10_0, hcz10_1, hfz10_0, hfz10_1⟩ := Sh.b2 BK1004.out; have hcz11_0 : w5.cell? ⟨bp2, 0, none⟩ = some (.slice A2_0 l2_0.length c2_0) := (blk_cell HX2.out 0).trans rfl; have hfz11_0 := blk_frozen HX2.out 0) | ((with_reducible refine Sh.k 56 ?_); refine Sh.gB (some 9) Tryz.func56 #[.agg #[.int .i64 a1_0, .int .i64 a1_1, .slice A1_2 l1_2.length c1_2, .slice A1_3 l1_3.length c1_3], .slice A0_0 l0_0.length c0_0, .slice A2_0 l2_0.length c2_0] (impl_Program_holds.calls k a1_0 a1_1 _ _ l1_2 _ _ l1_3 _ _ l0_0 _ _ l2_0 t1005 _ (Sh.cB HR1_2.out) HC1_2.out (Sh.cB HR1_3.out) HC1_3.out (Sh.cB HR0_0.out) HC0_0.out (Sh.cB HR2_0.out) HC2_0.out A4.out) fun w12 hb => ?_; replace HX1 := am_ (blk_below (g := bp1) (o := .cells #[.int .i64 a1_0, .int .i64 a1_1, .slice A1_2 l1_2.length c1_2, .slice A1_3 l1_3.length c1_3] 33 (0, 0)) (Sh.pl HX1.out) hb); replace HX2 := am_ (blk_below (g := bp2) (o := .cells #[.slice A2_0 l2_0.length c2_0] 71 (0, 0)) (Sh.pl HX2.out) hb); replace BK1004 := Sh.ab BK1004 hb; replace HB := Sh.hb hb; (try clear hb); (try clear hb2)))
 go_ret
 exact ⟨Sh.eR, Sh.bw⟩
def impl_Command_74_by_impl_StuckIn_1.f (k : Nat) (l0 : List (S95)) (a1_0 : Int) (a1_1 : Int) (l1_2 : List (S79)) (l1_3 : List (S95)) (l2_0 : List Int) : Option (Bool) := anyO (fun x_ => impl_StuckIn_1.f k x_.f0 x_.f1 a1_0 a1_1 l1_2 l1_3 l2_0) l0
theorem impl_Command_74_by_impl_StuckIn_1.mono : ∀ a0 a1 a2 a3 a4 a5 k, LeO (impl_Command_74_by_impl_StuckIn_1.f k a0 a1 a2 a3 a4 a5) (impl_Command_74_by_impl_StuckIn_1.f (k + 1) a0 a1 a2 a3 a4 a5) := by
 intro a0 a1 a2 a3 a4 a5 k
 unfold impl_Command_74_by_impl_StuckIn_1.f
 with_reducible exact anyO_mono (fun x_ => impl_StuckIn_1.mono (S95.f0 x_) (S95.f1 x_) a1 a2 a3 a4 a5 k) a0
theorem impl_Command_74_by_impl_StuckIn_1.calls (k : Nat) (A0 : Option Addr) (c0 : Nat) (l0 : List (S95)) (bp1 : Nat) (a1_0 : Int) (a1_1 : Int) (A1_2 : Option Addr) (c1_2 : Nat) (l1_2 : List (S79)) (A1_3 : Option Addr) (c1_3 : Nat) (l1_3 : List (S95)) (bp2 : Nat) (A2_0 : Option Addr) (c2_0 : Nat) (l2_0 : List Int) (r : Bool) (w : World) (hr0 : Kd.C k95 w A0 l0.length l0) (hc0 : l0.length ≤ c0) (hr1_2 : Kd.C k79 w A1_2 l1_2.length l1_2) (hc1_2 : l1_2.length ≤ c1_2) (hr1_3 : Kd.C k95 w A1_3 l1_3.length l1_3) (hc1_3 : l1_3.length ≤ c1_3) (hb1 : w.heap[bp1]? = some (.cells #[.int .i64 a1_0, .int .i64 a1_1, .slice A1_2 l1_2.length c1_2, .slice A1_3 l1_3.length c1_3] 33 (0, 0))) (hr2_0 : Kd.C (Kd.int .u64) w A2_0 l2_0.length l2_0) (hc2_0 : l2_0.length ≤ c2_0) (hb2 : w.heap[bp2]? = some (.cells #[.slice A2_0 l2_0.length c2_0] 71 (0, 0))) (hd1_2 : bp1 ≠ bp2) (h : impl_Command_74_by_impl_StuckIn_1.f k l0 a1_0 a1_1 l1_2 l1_3 l2_0 = some r) :
  Calls Tryz.prog 74 #[.slice A0 l0.length c0, .func (.func 75) #[] #[.pointer (some ⟨bp1, 0, none⟩), .pointer (some ⟨bp2, 0, none⟩)]] w fun e w' => e = .returned (.bool r) ∧ Below w.heap.size w w' := by
 refine impl_Command_74.gen 75 #[.pointer (some ⟨bp1, 0, none⟩), .pointer (some ⟨bp2, 0, none⟩)] (enters_of Tryz.func75 (by kernel_rfl) rfl) _ A0 c0 l0 r w hr0 hc0 ?_ h
 intro W x b A0 c0 A1 c1 hB_ hin_ hq_ hl0_ hC0_ hl1_ hC1_
 refine (impl_StuckIn_1.calls k _ _ x.f0 _ _ x.f1 bp1 a1_0 a1_1 _ _ l1_2 _ _ l1_3 bp2 _ _ l2_0 b W hC0_ hl0_ hC1_ hl1_ (Kd.C_below hr1_2 hB_) hc1_2 (Kd.C_below hr1_3 hB_) hc1_3 (Kd.C_below hr2_0 hB_) hc2_0 ((hB_.block _ (blk_lt hb1)).trans hb1) ((hB_.block _ (blk_lt hb2)).trans hb2) hd1_2 hq_).mono ?_
 rintro e w' ⟨rfl, hd_⟩
 exact ⟨rfl, hd_⟩
def impl_StuckIn.l0 : Nat → List Int → List Int → Int → Int → Int → Int → List (S79) → List (S95) → Option (List Int × Bool)
 | 0, _, _, _, _, _, _, _, _ => none
 | k + 1, x4, x13, x14, x15, x1007000, x1007001, x1007002, x1007003 => if x15 < x14 then (if 0 ≤ x15 then (if x15 < (x13.length : Int) then ((impl_Program_stateOf.f k x1007000 x1007001 x1007002 x1007003 (rd x13 x15)).bind fun t1015 => ((impl_Command_74_by_impl_StuckIn_1.f k x1007003 x1007000 x1007001 x1007002 x1007003 t1015).bind fun t1019 => (if t1019 = true then (impl_StuckIn.l0 k x4 x13 x14 (wrap64 (x15 + 1)) x1007000 x1007001 x1007002 x1007003) else (if x4.length < 17592186044416 then (impl_StuckIn.l0 k (x4 ++ [rd x13 x15]) x13 x14 (wrap64 (x15 + 1)) x1007000 x1007001 x1007002 x1007003) else (none))))) else (none)) else (none)) else (some (x4, true))
def impl_StuckIn.f (k : Nat) (a0_0 : Int) (a0_1 : Int) (l0_2 : List (S79)) (l0_3 : List (S95)) : Option (List Int × Bool) := (impl_isSmall.f k a0_0 a0_1 l0_2 l0_3).bind fun t1007 => (if t1007 = true then ((impl_Program_reach.f k a0_0 a0_1 l0_2 l0_3).bind fun t1011 => (impl_StuckIn.l0 k (([] : List Int)) t1011 (t1011.length : Int) 0 a0_0 a0_1 l0_2 l0_3)) else (some (([] : List Int), false)))
theorem impl_StuckIn.mono_l : ∀ k, (∀ y0 y1 y2 y3 y4 y5 y6 y7, LeO (impl_StuckIn.l0 k y0 y1 y2 y3 y4 y5 y6 y7) (impl_StuckIn.l0 (k + 1) y0 y1 y2 y3 y4 y5 y6 y7))
 | 0 => fun _ _ _ _ _ _ _ _ r h => by simp [impl_StuckIn.l0] at h
 | k + 1 => by
  have ih0 := impl_StuckIn.mono_l k
  ·intro y0 y1 y2 y3 y4 y5 y6 y7
   unfold impl_StuckIn.l0
   repeat' with_reducible first | apply ih0 | apply impl_Command_74_by_impl_StuckIn_1.mono | apply impl_Program_reach.mono | apply impl_Program_stateOf.mono | apply impl_isSmall.mono | exact LeO.refl _ | exact LeO.none _ | apply LeO.ite | refine LeO.bind ?_ fun _ => ?_
theorem impl_StuckIn.mono : ∀ a0 a1 a2 a3 k, LeO (impl_StuckIn.f k a0 a1 a2 a3) (impl_StuckIn.f (k + 1) a0 a1 a2 a3) := by
 intro a0 a1 a2 a3 k
 have ih0 := impl_StuckIn.mono_l k
 unfold impl_StuckIn.f
 repeat' with_reducible first | apply ih0 | apply impl_Command_74_by_impl_StuckIn_1.mono | apply impl_Program_reach.mono | apply impl_Program_stateOf.mono | apply impl_isSmall.mono | exact LeO.refl _ | exact LeO.none _ | apply LeO.ite | refine LeO.bind ?_ fun _ => ?_
theorem impl_StuckIn.calls (k : Nat) (a0_0 : Int) (a0_1 : Int) (A0_2 : Option Addr) (c0_2 : Nat) (l0_2 : List (S79)) (A0_3 : Option Addr) (c0_3 : Nat) (l0_3 : List (S95)) (r1 : List Int) (r2 : Bool) (w : World) (hr0_2 : Kd.C k79 w A0_2 l0_2.length l0_2) (hc0_2 : l0_2.length ≤ c0_2) (hr0_3 : Kd.C k95 w A0_3 l0_3.length l0_3) (hc0_3 : l0_3.length ≤ c0_3) (h : impl_StuckIn.f k a0_0 a0_1 l0_2 l0_3 = some (r1, r2)) :
  Calls Tryz.prog 33 #[.agg #[.int .i64 a0_0, .int .i64 a0_1, .slice A0_2 l0_2.length c0_2, .slice A0_3 l0_3.length c0_3]] w fun e w' => ∃ v0_ : Value, e = .returned (.tuple #[v0_, .bool r2]) ∧ Kd.R (Kd.int .i64) 3 w' w.heap.size (fun _ => True) v0_ r1 ∧ Below w.heap.size w w' := by
 have hu33 := Tryz.underlying33
 have HR0_2 := am_ hr0_2
 have HC0_2 := am_ hc0_2
 clear hr0_2 hc0_2
 have HR0_3 := am_ hr0_3
 have HC0_3 := am_ hc0_3
 clear hr0_3 hc0_3
 have HB := am_ (Below.refl w.heap.size w)
 have H := h
 clear h
 unfold impl_StuckIn.f at H
 obtain ⟨t1007, A2, H⟩ := Sh.ba H
 by_cases c3 : t1007 = true
 ·subst c3
  rw [if_pos rfl] at H
  obtain ⟨y1008, hy1008⟩ : ∃ y_ : List Int, y_ = (([] : List Int)) := ⟨_, rfl⟩
  replace H : ((impl_Program_reach.f k a0_0 a0_1 l0_2 l0_3).bind fun t1011 => (impl_StuckIn.l0 k y1008 t1011 (t1011.length : Int) 0 a0_0 a0_1 l0_2 l0_3)) = some (r1, r2) := by first | (rw [hy1008]; with_reducible exact H) | (have H2_ := (Option.bind_some _ _).symm.trans H; rw [hy1008]; with_reducible exact H2_) | (have H2_ := (Option.bind_some _ _).symm.trans H; with_reducible exact H2_) | with_reducible exact H | (rw [hy1008]; exact H) | exact H
  have Ny1008 := am_ hy1008
  clear hy1008
  obtain ⟨t1011, A4, H⟩ := Sh.ba H
  have H' := am_ H
  clear H
  go_enter Tryz.func33, Tryz.ntmps33
  go_wp2_with (first | ((with_reducible refine Sh.d 1 ?_); refine Sh.bz w (N := 1) (cs := #[.int .i64 a0_0, .int .i64 a0_1, .slice A0_2 l0_2.length c0_2, .slice A0_3 l0_3.length c0_3]) (t := 33) (h := ?_); clear HB; intro gb1006 w5 BK1006 GE1006 HB; obtain ⟨hcz6_0, hcz6_1, hcz6_2, hcz6_3, hfz6_0, hfz6_1, hfz6_2, hfz6_3⟩ := Sh.b4 BK1006.out) | ((with_reducible refine Sh.k 63 ?_); refine Sh.gB (some 9) Tryz.func63 #[.agg #[.int .i64 a0_0, .int .i64 a0_1, .slice A0_2 l0_2.length c0_2, .slice A0_3 l0_3.length c0_3]] (impl_isSmall.calls k a0_0 a0_1 _ _ l0_2 _ _ l0_3 true _ (Sh.cB HR0_2.out) HC0_2.out (Sh.cB HR0_3.out) HC0_3.out A2.out) fun w7 hb => ?_; replace BK1006 := Sh.ab BK1006 hb; replace HB := Sh.hb hb; (try clear hb); (try clear hb2)) | ((with_reducible refine Sh.d 11 ?_); refine Kd.R_lit (Kd.int .i64) _ 3 ?hg (N := 11) ?hd (xs := ([] : List Int)) (inner := []) (ok := fun _ => True) (okp := fun _ => True) ?hr ?hp (fun _ hk => hk) trivial (Below.refl _ _) (Nat.le_refl _) (by simp) ?_; (case hd => rfl); (case hg => rfl); (case hr => first | (go_simp; done) | (go_simp; rfl)); (case hp => exact (Reps.none _ _)); intro v1009 w8 ho9 hb hg_ hnew_; clear hg_ hnew_; (first | rw [← Ny1008.out] at ho9 | (simp only [Int.reduceToNat] at ho9; rw [← Ny1008.out] at ho9)); have HO1010 := am_ (Kd.R_lower ho9 (below_size Sh.bw)); replace BK1006 := Sh.ab BK1006 hb; replace HB := Sh.hb hb; clear hb ho9; obtain ⟨hcz10_0, hcz10_1, hcz10_2, hcz10_3, hfz10_0, hfz10_1, hfz10_2, hfz10_3⟩ := Sh.b4 BK1006.out) | ((with_reducible refine Sh.k 65 ?_); refine Sh.gL (some 13) Tryz.func65 #[.agg #[.int .i64 a0_0, .int .i64 a0_1, .slice A0_2 l0_2.length c0_2, .slice A0_3 l0_3.length c0_3]] (h := ?_); (with_reducible refine (impl_Program_reach.calls k a0_0 a0_1 _ _ l0_2 _ _ l0_3 t1011 _ (Sh.cB HR0_2.out) HC0_2.out (Sh.cB HR0_3.out) HC0_3.out A4.out).mono ?_); rintro e w11 ⟨v1012, rfl, ho0, hb⟩; refine ⟨_, rfl, ?_⟩; have HO1013 := am_ (Kd.R_lower (Kd.R_new' ho0 (Kd.R_lt (Sh.rl HO1010.out))) (below_size Sh.bw)); replace HO1010 := am_ (Kd.R_elder' (Sh.rl HO1010.out) (Kd.R_base ho0) hb); replace BK1006 := Sh.ab BK1006 hb; replace HB := Sh.hb hb; (try clear hb); (try clear hk); (try clear ho0); obtain ⟨Ao12, co12, eo12⟩ := Kd.R_slice HO1013.out; subst eo12))
  go_loopg [4, 15] k (fun kq v4 v15 w' => ∃ (x4_1 : List Int) (x15_1 : Int), v15 = .int .i64 x15_1 ∧ Aside0 (impl_StuckIn.l0 kq x4_1 t1011 (t1011.length : Int) x15_1 a0_0 a0_1 l0_2 l0_3 = some (r1, r2)) ∧ Aside0 (kq ≤ k) ∧ Aside0 (Kd.R (Kd.int .i64) 3 w' w.heap.size (fun k_ => some k_ ≠ ((.slice Ao12 t1011.length co12) : Value).ownBlock) v4 x4_1) ∧ Aside0 (Kd.R (Kd.int .i64) 3 w' w.heap.size (fun k_ => some k_ ≠ (v4 : Value).ownBlock) (.slice Ao12 t1011.length co12) t1011) ∧ Aside0 (w'.heap[gb1006]? = some (.cells #[.int .i64 a0_0, .int .i64 a0_1, (.slice A0_2 l0_2.length c0_2), (.slice A0_3 l0_3.length c0_3)] 33 (0, 0))) ∧ Aside0 (Below w.heap.size w w'))
  case atStart => exact ⟨(y1008), (0), (Sh.es), H', ⟨Nat.le_refl _⟩, ⟨Sh.rl (Kd.R_mono HO1010.out (fun _ hk => hk.2))⟩, ⟨Sh.rl (Kd.R_mono HO1013.out (fun _ hk => hk.2))⟩, ⟨by refine Sh.pl ?_; exact BK1006.out⟩, ⟨Sh.bw⟩⟩
  case round =>
   clear H'
   try clear hcz10_0
   try clear hcz10_1
   try clear hcz10_2
   try clear hcz10_3
   try clear hcz6_0
   try clear hcz6_1
   try clear hcz6_2
   try clear hcz6_3
   try clear hfz10_0
   try clear hfz10_1
   try clear hfz10_2
   try clear hfz10_3
   try clear hfz6_0
   try clear hfz6_1
   try clear hfz6_2
   try clear hfz6_3
   obtain ⟨x4_1, x15_1, rfl, HA, HK1, HO_4, HO_13, BK1006, HB⟩ := hrel
   cases gk with
   | zero => exact absurd HA.out (by simp [impl_StuckIn.l0])
   | succ k1 =>
    have H := HA.out
    clear HA
    simp only [impl_StuckIn.l0] at H
    by_cases c13 : x15_1 < (t1011.length : Int)
    ·rw [if_pos c13] at H
     replace c13 := decide_eq_true c13
     by_cases c14 : 0 ≤ x15_1
     ·rw [if_pos c14] at H
      replace c14 := decide_eq_true c14
      by_cases c15 : x15_1 < (t1011.length : Int)
      ·rw [if_pos c15] at H
       replace c15 := decide_eq_true c15
       obtain ⟨t1015, A16, H⟩ := Sh.ba H
       obtain ⟨t1019, A17, H⟩ := Sh.ba H
       by_cases c18 : t1019 = true
       ·subst c18
        rw [if_pos rfl] at H
        have H' := am_ H
        clear H
        have p1014 : 0 ≤ (x15_1 : Int) := Sh.od
        have q1014 : x15_1 < (t1011.length : Int) := Sh.od
        obtain ⟨ad1014, e1014, hx1014_0⟩ := Kd.at_int (Kd.R_reads' HO_13.out).2.2 x15_1 p1014 q1014
        cases e1014
        replace p1014 := eq_true p1014
        replace q1014 := eq_true q1014
        have hcz19_0 := Sh.bc BK1006.out 0
        have hcz19_1 := Sh.bc BK1006.out 1
        have hcz19_2 := Sh.bc BK1006.out 2
        have hcz19_3 := Sh.bc BK1006.out 3
        have hfz19_0 := blk_frozen BK1006.out 0
        have hfz19_1 := blk_frozen BK1006.out 1
        have hfz19_2 := blk_frozen BK1006.out 2
        have hfz19_3 := blk_frozen BK1006.out 3
        go_wp2_with (first | ((with_reducible refine Sh.k 57 ?_); refine Sh.gL (some 21) Tryz.func57 #[.agg #[.int .i64 a0_0, .int .i64 a0_1, .slice A0_2 l0_2.length c0_2, .slice A0_3 l0_3.length c0_3], .int .i64 (rd t1011 x15_1)] (h := ?_); (with_reducible refine (impl_Program_stateOf.calls k1 a0_0 a0_1 _ _ l0_2 _ _ l0_3 (rd t1011 x15_1) t1015 _ (Sh.cB HR0_2.out) HC0_2.out (Sh.cB HR0_3.out) HC0_3.out A16.out).mono ?_); rintro e w20 ⟨v1016, rfl, ho0, hb⟩; refine ⟨_, rfl, ?_⟩; replace HO_4 := am_ (Kd.R_below (Sh.rl HO_4.out) hb); replace HO_13 := am_ (Kd.R_below (Sh.rl HO_13.out) hb); have HO1017 := am_ (Kd.R_lower ho0 (below_size Sh.bw)); replace BK1006 := Sh.ab BK1006 hb; replace HB := Sh.hb hb; (try clear hb); (try clear hk); (try clear ho0)) | ((with_reducible refine Sh.d 7 ?_); refine Sh.bx (N := 7) (cs := #[.slice none 0 0]) (t := 71) (h := ?_); intro gb1018 hg w21 hbox hb; replace HO_4 := am_ (Kd.R_below (Sh.rl HO_4.out) hb); replace HO_13 := am_ (Kd.R_below (Sh.rl HO_13.out) hb); replace HO1017 := am_ (Kd.R_below (Sh.rl HO1017.out) hb); have BK1018 := am_ hbox; have GE1018 := Sh.ag w hg; replace HB := Sh.hb hb; have NB1006_1018 := am_ (Sh.nl hg BK1006.out); have NB1018_1006 := am_ (Sh.ng hg BK1006.out); replace BK1006 := Sh.ab BK1006 hb; clear hb hbox hg; obtain ⟨Ao22, co22, eo22⟩ := Kd.R_slice HO1017.out; subst eo22; have hnb23 := NB1018_1006.out; have hnc23 := NB1006_1018.out; have hcz24_0 := Sh.bc BK1018.out 0; have hfz24_0 := blk_frozen BK1018.out 0; obtain ⟨hcz25_0, hcz25_1, hcz25_2, hcz25_3, hfz25_0, hfz25_1, hfz25_2, hfz25_3⟩ := Sh.b4 BK1006.out) | ((with_reducible refine Sh.k 74 ?_); refine Sh.gL (some 25) Tryz.func74 #[.slice A0_3 l0_3.length c0_3, .func (.func 75) #[] #[.pointer (some ⟨gb1006, 0, none⟩), .pointer (some ⟨gb1018, 0, none⟩)]] (h := ?_); (with_reducible refine (impl_Command_74_by_impl_StuckIn_1.calls k1 _ _ l0_3 gb1006 a0_0 a0_1 A0_2 c0_2 l0_2 A0_3 c0_3 l0_3 gb1018 Ao22 co22 t1015 true _ (Sh.cB HR0_3.out) HC0_3.out (Sh.cB HR0_2.out) HC0_2.out (Sh.cB HR0_3.out) HC0_3.out ?side7 ?side8 ?side9 ?side10 ?side11 A17.out).mono ?_); (case side7 => refine Sh.pl ?_; refine blk_far ?_ NB1006_1018.out _; refine Sh.pl ?_; exact BK1006.out); (case side8 => refine (Kd.R_reads' (e := 77) (base := w.heap.size) (ok := fun k_ => True) (n := t1015.length) (c := co22) ?_).2.2; exact (Sh.rl (Kd.R_mono (Kd.R_far (p := ⟨gb1018, 0, none⟩) (Kd.R_types HO1017.out BK1018.out (by decide)) (fun _ hk => hk.2) (.slice Ao22 t1015.length co22)) (fun _ h_ => h_.1)))); (case side9 => exact (Kd.R_reads' HO1017.out).2.1); (case side10 => refine Sh.pl ?_; refine blk_put (cs := #[.slice none 0 0]) ?_ 0 _ rfl; refine Sh.pl ?_; exact BK1018.out); (case side11 => exact NB1006_1018.out); rintro e w26 ⟨rfl, hb⟩; refine ⟨_, rfl, ?_⟩; replace HO_4 := am_ (Kd.R_below (Sh.rl (Kd.R_mono (Kd.R_far (p := ⟨gb1018, 0, none⟩) (Kd.R_types HO_4.out BK1018.out (by decide)) (fun _ hk => hk.2) (.slice Ao22 t1015.length co22)) (fun _ h_ => h_.1))) hb); replace HO_13 := am_ (Kd.R_below (Sh.rl (Kd.R_mono (Kd.R_far (p := ⟨gb1018, 0, none⟩) (Kd.R_types HO_13.out BK1018.out (by decide)) (fun _ hk => hk.2) (.slice Ao22 t1015.length co22)) (fun _ h_ => h_.1))) hb); replace HO1017 := am_ (Kd.R_below (Sh.rl (Kd.R_mono (Kd.R_far (p := ⟨gb1018, 0, none⟩) (Kd.R_types HO1017.out BK1018.out (by decide)) (fun _ hk => hk.2) (.slice Ao22 t1015.length co22)) (fun _ h_ => h_.1))) hb); replace BK1006 := am_ (blk_below (g := gb1006) (o := .cells #[.int .i64 a0_0, .int .i64 a0_1, .slice A0_2 l0_2.length c0_2, .slice A0_3 l0_3.length c0_3] 33 (0, 0)) (by refine Sh.pl ?_; refine blk_far ?_ NB1006_1018.out _; refine Sh.pl ?_; exact BK1006.out) hb); replace BK1018 := am_ (blk_below (g := gb1018) (o := .cells #[.slice Ao22 t1015.length co22] 71 (0, 0)) (by refine Sh.pl ?_; refine blk_put (cs := #[.slice none 0 0]) ?_ 0 _ rfl; refine Sh.pl ?_; exact BK1018.out) hb); replace HB := Sh.hb hb; (try clear hb); (try clear hk)))
        go_roundg k1
        case measure => have := HK1.out; omega
        case rel => exact ⟨(x4_1), (wrap64 (x15_1 + 1)), (Sh.es), H', ⟨by have := HK1.out; omega⟩, ⟨Sh.rl HO_4.out⟩, ⟨Sh.rl HO_13.out⟩, ⟨by refine Sh.pl ?_; exact BK1006.out⟩, ⟨Sh.bw⟩⟩
       ·replace c18 := Bool.eq_false_iff.mpr c18
        subst c18
        rw [Sh.nf] at H
        by_cases c27 : x4_1.length < 17592186044416
        ·rw [if_pos c27] at H
         have LMc27 := am_ c27
         clear c27
         obtain ⟨y1020, hy1020⟩ : ∃ y_ : List Int, y_ = (x4_1 ++ [rd t1011 x15_1]) := ⟨_, rfl⟩
         replace H : (impl_StuckIn.l0 k1 y1020 t1011 (t1011.length : Int) (wrap64 (x15_1 + 1)) a0_0 a0_1 l0_2 l0_3) = some (r1, r2) := by first | (rw [hy1020]; with_reducible exact H) | (have H2_ := (Option.bind_some _ _).symm.trans H; rw [hy1020]; with_reducible exact H2_) | (have H2_ := (Option.bind_some _ _).symm.trans H; with_reducible exact H2_) | with_reducible exact H | (rw [hy1020]; exact H) | exact H
         have Ny1020 := am_ hy1020
         clear hy1020
         have H' := am_ H
         clear H
         have p1014 : 0 ≤ (x15_1 : Int) := Sh.od
         have q1014 : x15_1 < (t1011.length : Int) := Sh.od
         obtain ⟨ad1014, e1014, hx1014_0⟩ := Kd.at_int (Kd.R_reads' HO_13.out).2.2 x15_1 p1014 q1014
         cases e1014
         replace p1014 := eq_true p1014
         replace q1014 := eq_true q1014
         have hcz28_0 := Sh.bc BK1006.out 0
         have hcz28_1 := Sh.bc BK1006.out 1
         have hcz28_2 := Sh.bc BK1006.out 2
         have hcz28_3 := Sh.bc BK1006.out 3
         have hfz28_0 := blk_frozen BK1006.out 0
         have hfz28_1 := blk_frozen BK1006.out 1
         have hfz28_2 := blk_frozen BK1006.out 2
         have hfz28_3 := blk_frozen BK1006.out 3
         go_wp2_with (first | ((with_reducible refine Sh.k 57 ?_); refine Sh.gL (some 21) Tryz.func57 #[.agg #[.int .i64 a0_0, .int .i64 a0_1, .slice A0_2 l0_2.length c0_2, .slice A0_3 l0_3.length c0_3], .int .i64 (rd t1011 x15_1)] (h := ?_); (with_reducible refine (impl_Program_stateOf.calls k1 a0_0 a0_1 _ _ l0_2 _ _ l0_3 (rd t1011 x15_1) t1015 _ (Sh.cB HR0_2.out) HC0_2.out (Sh.cB HR0_3.out) HC0_3.out A16.out).mono ?_); rintro e w29 ⟨v1016, rfl, ho0, hb⟩; refine ⟨_, rfl, ?_⟩; replace HO_4 := am_ (Kd.R_below (Sh.rl HO_4.out) hb); replace HO_13 := am_ (Kd.R_below (Sh.rl HO_13.out) hb); have HO1017 := am_ (Kd.R_lower ho0 (below_size Sh.bw)); replace BK1006 := Sh.ab BK1006 hb; replace HB := Sh.hb hb; (try clear hb); (try clear ho0)) | ((with_reducible refine Sh.d 7 ?_); refine Sh.bx (N := 7) (cs := #[.slice none 0 0]) (t := 71) (h := ?_); intro gb1018 hg w30 hbox hb; replace HO_4 := am_ (Kd.R_below (Sh.rl HO_4.out) hb); replace HO_13 := am_ (Kd.R_below (Sh.rl HO_13.out) hb); replace HO1017 := am_ (Kd.R_below (Sh.rl HO1017.out) hb); have BK1018 := am_ hbox; have GE1018 := Sh.ag w hg; replace HB := Sh.hb hb; have NB1006_1018 := am_ (Sh.nl hg BK1006.out); have NB1018_1006 := am_ (Sh.ng hg BK1006.out); replace BK1006 := Sh.ab BK1006 hb; clear hb hbox hg; obtain ⟨Ao31, co31, eo31⟩ := Kd.R_slice HO1017.out; subst eo31; have hnb32 := NB1018_1006.out; have hnc32 := NB1006_1018.out; have hcz33_0 := Sh.bc BK1018.out 0; have hfz33_0 := blk_frozen BK1018.out 0; obtain ⟨hcz34_0, hcz34_1, hcz34_2, hcz34_3, hfz34_0, hfz34_1, hfz34_2, hfz34_3⟩ := Sh.b4 BK1006.out) | ((with_reducible refine Sh.k 74 ?_); refine Sh.gL (some 25) Tryz.func74 #[.slice A0_3 l0_3.length c0_3, .func (.func 75) #[] #[.pointer (some ⟨gb1006, 0, none⟩), .pointer (some ⟨gb1018, 0, none⟩)]] (h := ?_); (with_reducible refine (impl_Command_74_by_impl_StuckIn_1.calls k1 _ _ l0_3 gb1006 a0_0 a0_1 A0_2 c0_2 l0_2 A0_3 c0_3 l0_3 gb1018 Ao31 co31 t1015 false _ (Sh.cB HR0_3.out) HC0_3.out (Sh.cB HR0_2.out) HC0_2.out (Sh.cB HR0_3.out) HC0_3.out ?side7 ?side8 ?side9 ?side10 ?side11 A17.out).mono ?_); (case side7 => refine Sh.pl ?_; refine blk_far ?_ NB1006_1018.out _; refine Sh.pl ?_; exact BK1006.out); (case side8 => refine (Kd.R_reads' (e := 77) (base := w.heap.size) (ok := fun k_ => True) (n := t1015.length) (c := co31) ?_).2.2; exact (Sh.rl (Kd.R_mono (Kd.R_far (p := ⟨gb1018, 0, none⟩) (Kd.R_types HO1017.out BK1018.out (by decide)) (fun _ hk => hk.2) (.slice Ao31 t1015.length co31)) (fun _ h_ => h_.1)))); (case side9 => exact (Kd.R_reads' HO1017.out).2.1); (case side10 => refine Sh.pl ?_; refine blk_put (cs := #[.slice none 0 0]) ?_ 0 _ rfl; refine Sh.pl ?_; exact BK1018.out); (case side11 => exact NB1006_1018.out); rintro e w35 ⟨rfl, hb⟩; refine ⟨_, rfl, ?_⟩; replace HO_4 := am_ (Kd.R_below (Sh.rl (Kd.R_mono (Kd.R_far (p := ⟨gb1018, 0, none⟩) (Kd.R_types HO_4.out BK1018.out (by decide)) (fun _ hk => hk.2) (.slice Ao31 t1015.length co31)) (fun _ h_ => h_.1))) hb); replace HO_13 := am_ (Kd.R_below (Sh.rl (Kd.R_mono (Kd.R_far (p := ⟨gb1018, 0, none⟩) (Kd.R_types HO_13.out BK1018.out (by decide)) (fun _ hk => hk.2) (.slice Ao31 t1015.length co31)) (fun _ h_ => h_.1))) hb); replace HO1017 := am_ (Kd.R_below (Sh.rl (Kd.R_mono (Kd.R_far (p := ⟨gb1018, 0, none⟩) (Kd.R_types HO1017.out BK1018.out (by decide)) (fun _ hk => hk.2) (.slice Ao31 t1015.length co31)) (fun _ h_ => h_.1))) hb); replace BK1006 := am_ (blk_below (g := gb1006) (o := .cells #[.int .i64 a0_0, .int .i64 a0_1, .slice A0_2 l0_2.length c0_2, .slice A0_3 l0_3.length c0_3] 33 (0, 0)) (by refine Sh.pl ?_; refine blk_far ?_ NB1006_1018.out _; refine Sh.pl ?_; exact BK1006.out) hb); replace BK1018 := am_ (blk_below (g := gb1018) (o := .cells #[.slice Ao31 t1015.length co31] 71 (0, 0)) (by refine Sh.pl ?_; refine blk_put (cs := #[.slice none 0 0]) ?_ 0 _ rfl; refine Sh.pl ?_; exact BK1018.out) hb); replace HB := Sh.hb hb; (try clear hb); (try clear hk)) | ((with_reducible refine gate_builtin (b := .append) (xs := #[.tmp 27, .tmp 29]) rfl ?_); at_builtin; refine Kd.R_append (Kd.int .i64) (w0 := w) w.heap.size rfl (.tmp 27) (.tmp 29) 27 3 (.int .i64 0) 8 rfl Tryz.underlying27 info3 rfl (by decide) (by omega) u4 x4_1 (rd t1011 x15_1) [.int .i64 (rd t1011 x15_1)] (fun k_ => some k_ ≠ (.slice (some ad1014) t1011.length co12 : Value).ownBlock) (fun _ => False) rfl rfl ?aP (fun _ hk => hk.elim) ?aF ?aO ?aB ?aS ?aL ?_; (case aP => exact rfl); (case aB => exact Sh.bw); (case aF => exact (fun k_ hk => Kd.fresh' (Kd.R_lt (Sh.rl HO_13.out)) k_ hk)); (case aO => exact (Sh.rl HO_4.out)); (case aS => exact (below_size Sh.bw)); (case aL => have := LMc27.out; omega); intro v1021 w36 ho hb hg hat; rw [← Ny1020.out] at ho; have n0_ := am_ (Kd.R_after (ok := (fun _ => True)) (Sh.rl (Kd.R_mono HO_13.out (fun _ hk => ⟨trivial, hk⟩))) hg hat); have n1_ := am_ (blk_grown (g := gb1006) (o := .cells #[.int .i64 a0_0, .int .i64 a0_1, .slice A0_2 l0_2.length c0_2, .slice A0_3 l0_3.length c0_3] 33 (0, 0)) (Sh.pl BK1006.out) hg (Kd.R_ne HO_4.out BK1006.out (by decide))); have n2_ := am_ (Kd.R_over' (Sh.rl HO1017.out) (Kd.R_typed (Sh.rl HO_4.out)) (by decide) hg); have n3_ := am_ (blk_grown (g := gb1018) (o := .cells #[.slice Ao31 t1015.length co31] 71 (0, 0)) (Sh.pl BK1018.out) hg (Kd.R_ne HO_4.out BK1018.out (by decide))); have n4_ := am_ hb; have n5_ := am_ ho; clear HO_13; clear BK1006; clear HO1017; clear BK1018; clear HB; clear HO_4; have HO_13 := n0_; have BK1006 := n1_; have HO1017 := n2_; have BK1018 := n3_; have HB := n4_; have HO1022 := n5_; clear n0_ n1_ n2_ n3_ n4_ n5_; clear ho hb hg hat))
         go_roundg k1
         case measure => have := HK1.out; omega
         case rel => exact ⟨(y1020), (wrap64 (x15_1 + 1)), (Sh.es), H', ⟨by have := HK1.out; omega⟩, ⟨Sh.rl HO1022.out⟩, ⟨Sh.rl (Kd.R_mono HO_13.out (fun _ hk => hk.2))⟩, ⟨by refine Sh.pl ?_; exact BK1006.out⟩, ⟨Sh.bw⟩⟩
        ·rw [if_neg c27] at H
         cases H
      ·rw [if_neg c15] at H
       cases H
     ·rw [if_neg c14] at H
      cases H
    ·rw [if_neg c13] at H
     replace c13 := decide_eq_false c13
     obtain ⟨rfl, rfl⟩ := Prod.mk.inj (Option.some.inj H)
     go_wp2
     go_ret2
     exact ⟨_, Sh.eR, Sh.rl (Kd.R_mono HO_4.out (fun _ hk => trivial)), Sh.bw⟩
 ·replace c3 := Bool.eq_false_iff.mpr c3
  subst c3
  rw [Sh.nf] at H
  obtain ⟨rfl, rfl⟩ := Prod.mk.inj (Option.some.inj H)
  go_enter Tryz.func33, Tryz.ntmps33
  go_wp2_with (first | ((with_reducible refine Sh.d 1 ?_); refine Sh.bz w (N := 1) (cs := #[.int .i64 a0_0, .int .i64 a0_1, .slice A0_2 l0_2.length c0_2, .slice A0_3 l0_3.length c0_3]) (t := 33) (h := ?_); clear HB; intro gb1006 w37 BK1006 GE1006 HB; obtain ⟨hcz38_0, hcz38_1, hcz38_2, hcz38_3, hfz38_0, hfz38_1, hfz38_2, hfz38_3⟩ := Sh.b4 BK1006.out) | ((with_reducible refine Sh.k 63 ?_); refine Sh.gB (some 9) Tryz.func63 #[.agg #[.int .i64 a0_0, .int .i64 a0_1, .slice A0_2 l0_2.length c0_2, .slice A0_3 l0_3.length c0_3]] (impl_isSmall.calls k a0_0 a0_1 _ _ l0_2 _ _ l0_3 false _ (Sh.cB HR0_2.out) HC0_2.out (Sh.cB HR0_3.out) HC0_3.out A2.out) fun w39 hb => ?_; replace BK1006 := Sh.ab BK1006 hb; replace HB := Sh.hb hb; (try clear hb); (try clear hk)))
  go_ret2
  exact ⟨_, Sh.eR, by first | exact Kd.R_nil _ _ _ _ _ | exact Kd.N_nil _ _ _ _ _ | exact Kd.V_nil _ _ _ _ _ | exact Kd.Q_nil _ _ _ _ _ | exact Kd.S_nil _ _ _ _ _, Sh.bw⟩
open Go.Proofs.YtngefmofelengaaGreat.Lw
def laws_FnExactStuckIn.Holds (k : Nat) (a0_0 : Int) (a0_1 : Int) (l0_2 : List (S81)) (l0_3 : List (S104)) : Prop :=
 ∃ s6 : Int, laws_szProgram.f k a0_0 a0_1 l0_2 l0_3 1048576 = some s6 ∧ ((s6 < 0) ∨ (¬ (s6 < 0)) ∧ (∃ (y9 : List (S79)) (y10 : List (S95)) (y24 : List Int) (y25 : Bool) (m81 : Int) (m84 : Int) (y85 : List Int), laws_toProgram.f k a0_0 a0_1 l0_2 l0_3 = some (a0_0, a0_1, y9, y10) ∧ spec_StuckIn.f k a0_0 a0_1 y9 y10 = some (y24, y25) ∧ impl_StuckIn.f k a0_0 a0_1 y9 y10 = some (y24, y25) ∧ laws_eqIntS.f k y24 y24 = some true ∧ laws_eqProgram.f k a0_0 a0_1 y9 y10 a0_0 a0_1 y9 y10 = some true ∧ laws_markProgram.f k a0_0 a0_1 y9 y10 1 = some m81 ∧ laws_markIntS.f k y24 1 = some (m84, y85) ∧ laws_heldIntS.f k y85 1 = some m84 ∧ ¬ m81 < 0 ∧ ¬ m84 < 0))
theorem laws_FnExactStuckIn.calls (k : Nat) (a0_0 : Int) (a0_1 : Int) (A0_2 : Option Addr) (c0_2 : Nat) (l0_2 : List (S81)) (A0_3 : Option Addr) (c0_3 : Nat) (l0_3 : List (S104)) (w : World) (hr0_2 : Kd.C k81 w A0_2 l0_2.length l0_2) (hc0_2 : l0_2.length ≤ c0_2) (hr0_3 : Kd.C k104 w A0_3 l0_3.length l0_3) (hc0_3 : l0_3.length ≤ c0_3) (h : laws_FnExactStuckIn.Holds k a0_0 a0_1 l0_2 l0_3) :
  Calls Tryz.prog 8 #[.agg #[.int .i64 a0_0, .int .i64 a0_1, .slice A0_2 l0_2.length c0_2, .slice A0_3 l0_3.length c0_3]] w fun e w' => e = .returned (.bool true) ∧ Below w.heap.size w w' := by
 have hu25 := Tryz.underlying25
 have hu33 := Tryz.underlying33
 have HR0_2 := am_ hr0_2
 have HC0_2 := am_ hc0_2
 clear hr0_2 hc0_2
 have HR0_3 := am_ hr0_3
 have HC0_3 := am_ hc0_3
 clear hr0_3 hc0_3
 have HB := am_ (Below.refl w.heap.size w)
 have NW : 0 ≤ w.heap.size := Nat.zero_le _
 obtain ⟨s6, ESs6, h⟩ := h
 replace ESs6 := am_ ESs6
 rcases h with c | ⟨c, h⟩
 ·have cb : decide (s6 < 0) = true := decide_eq_true c
  clear c
  go_enter Tryz.func8, Tryz.ntmps8
  go_wp2_with (first | ((with_reducible refine Sh.d 1 ?_); refine Sh.bx (N := 1) (cs := #[.int .i64 a0_0, .int .i64 a0_1, .slice A0_2 l0_2.length c0_2, .slice A0_3 l0_3.length c0_3]) (t := 25) (h := ?_); intro g1 hg w3 hbox hb; have BK2 := box_new (w := w) (W := w) HB.out hg hbox; have oa4 := new_g (W := w) hg NW; replace HB := am_ (below_step HB.out hb); replace NW := Nat.le_trans NW hb.size; replace NW := BK2.lt; clear hb hbox hg; have hczq5_0 : w3.cell? ⟨g1, 0, none⟩ = some (.int .i64 a0_0) := (blk_cell BK2.b 0).trans rfl; have hfzq5_0 := blk_frozen BK2.b 0; have hczq5_1 : w3.cell? ⟨g1, 1, none⟩ = some (.int .i64 a0_1) := (blk_cell BK2.b 1).trans rfl; have hfzq5_1 := blk_frozen BK2.b 1; have hczq5_2 : w3.cell? ⟨g1, 2, none⟩ = some (.slice A0_2 l0_2.length c0_2) := (blk_cell BK2.b 2).trans rfl; have hfzq5_2 := blk_frozen BK2.b 2; have hczq5_3 : w3.cell? ⟨g1, 3, none⟩ = some (.slice A0_3 l0_3.length c0_3) := (blk_cell BK2.b 3).trans rfl; have hfzq5_3 := blk_frozen BK2.b 3) | ((with_reducible refine Sh.k 11 ?_); refine Sh.gL (some 16) Tryz.func11 #[.agg #[.int .i64 a0_0, .int .i64 a0_1, .slice A0_2 l0_2.length c0_2, .slice A0_3 l0_3.length c0_3], .int .i64 1048576] (h := ?_); (with_reducible refine (laws_szProgram.calls k a0_0 a0_1 _ _ l0_2 _ _ l0_3 1048576 s6 _ (Kd.C_below HR0_2.out HB.out) HC0_2.out (Kd.C_below HR0_3.out HB.out) HC0_3.out ESs6.out).mono ?_); rintro e w7 ⟨rfl, hb⟩; refine ⟨_, rfl, ?_⟩; replace BK2 := BK2.same hb; replace HB := am_ (below_step HB.out hb); replace NW := Nat.le_trans NW hb.size; clear hb; have hczq8_0 : w7.cell? ⟨g1, 0, none⟩ = some (.int .i64 a0_0) := (blk_cell BK2.b 0).trans rfl; have hfzq8_0 := blk_frozen BK2.b 0; have hczq8_1 : w7.cell? ⟨g1, 1, none⟩ = some (.int .i64 a0_1) := (blk_cell BK2.b 1).trans rfl; have hfzq8_1 := blk_frozen BK2.b 1; have hczq8_2 : w7.cell? ⟨g1, 2, none⟩ = some (.slice A0_2 l0_2.length c0_2) := (blk_cell BK2.b 2).trans rfl; have hfzq8_2 := blk_frozen BK2.b 2; have hczq8_3 : w7.cell? ⟨g1, 3, none⟩ = some (.slice A0_3 l0_3.length c0_3) := (blk_cell BK2.b 3).trans rfl; have hfzq8_3 := blk_frozen BK2.b 3))
  go_ret
  exact ⟨rfl, HB.out⟩
 have cb0 : decide (s6 < 0) = false := decide_eq_false c
 clear c
 obtain ⟨y9, y10, y24, y25, m81, m84, y85, E1, E2, E3, E4, E5, E6, E7, E8, cd0, cd1⟩ := h
 replace E1 := am_ E1
 replace E2 := am_ E2
 replace E3 := am_ E3
 replace E4 := am_ E4
 replace E5 := am_ E5
 replace E6 := am_ E6
 replace E7 := am_ E7
 replace E8 := am_ E8
 have ce0 : decide (m81 < 0) = false := decide_eq_false cd0
 clear cd0
 have ce1 : decide (m84 < 0) = false := decide_eq_false cd1
 clear cd1
 have cr0 : (y25 != y25) = false := bne_self_eq_false _
 go_enter Tryz.func8, Tryz.ntmps8
 go_upto_region 10 with (first | ((with_reducible refine Sh.d 1 ?_); refine Sh.bx (N := 1) (cs := #[.int .i64 a0_0, .int .i64 a0_1, .slice A0_2 l0_2.length c0_2, .slice A0_3 l0_3.length c0_3]) (t := 25) (h := ?_); intro g1 hg w3 hbox hb; have BK2 := box_new (w := w) (W := w) HB.out hg hbox; have oa4 := new_g (W := w) hg NW; replace HB := am_ (below_step HB.out hb); replace NW := Nat.le_trans NW hb.size; replace NW := BK2.lt; clear hb hbox hg; have hczq5_0 : w3.cell? ⟨g1, 0, none⟩ = some (.int .i64 a0_0) := (blk_cell BK2.b 0).trans rfl; have hfzq5_0 := blk_frozen BK2.b 0; have hczq5_1 : w3.cell? ⟨g1, 1, none⟩ = some (.int .i64 a0_1) := (blk_cell BK2.b 1).trans rfl; have hfzq5_1 := blk_frozen BK2.b 1; have hczq5_2 : w3.cell? ⟨g1, 2, none⟩ = some (.slice A0_2 l0_2.length c0_2) := (blk_cell BK2.b 2).trans rfl; have hfzq5_2 := blk_frozen BK2.b 2; have hczq5_3 : w3.cell? ⟨g1, 3, none⟩ = some (.slice A0_3 l0_3.length c0_3) := (blk_cell BK2.b 3).trans rfl; have hfzq5_3 := blk_frozen BK2.b 3) | ((with_reducible refine Sh.k 11 ?_); refine Sh.gL (some 16) Tryz.func11 #[.agg #[.int .i64 a0_0, .int .i64 a0_1, .slice A0_2 l0_2.length c0_2, .slice A0_3 l0_3.length c0_3], .int .i64 1048576] (h := ?_); (with_reducible refine (laws_szProgram.calls k a0_0 a0_1 _ _ l0_2 _ _ l0_3 1048576 s6 _ (Kd.C_below HR0_2.out HB.out) HC0_2.out (Kd.C_below HR0_3.out HB.out) HC0_3.out ESs6.out).mono ?_); rintro e w7 ⟨rfl, hb⟩; refine ⟨_, rfl, ?_⟩; replace BK2 := BK2.same hb; replace HB := am_ (below_step HB.out hb); replace NW := Nat.le_trans NW hb.size; clear hb; have hczq8_0 : w7.cell? ⟨g1, 0, none⟩ = some (.int .i64 a0_0) := (blk_cell BK2.b 0).trans rfl; have hfzq8_0 := blk_frozen BK2.b 0; have hczq8_1 : w7.cell? ⟨g1, 1, none⟩ = some (.int .i64 a0_1) := (blk_cell BK2.b 1).trans rfl; have hfzq8_1 := blk_frozen BK2.b 1; have hczq8_2 : w7.cell? ⟨g1, 2, none⟩ = some (.slice A0_2 l0_2.length c0_2) := (blk_cell BK2.b 2).trans rfl; have hfzq8_2 := blk_frozen BK2.b 2; have hczq8_3 : w7.cell? ⟨g1, 3, none⟩ = some (.slice A0_3 l0_3.length c0_3) := (blk_cell BK2.b 3).trans rfl; have hfzq8_3 := blk_frozen BK2.b 3) | ((with_reducible refine Sh.k 13 ?_); refine Sh.gL (some 21) Tryz.func13 #[.agg #[.int .i64 a0_0, .int .i64 a0_1, .slice A0_2 l0_2.length c0_2, .slice A0_3 l0_3.length c0_3]] (h := ?_); (with_reducible refine (laws_toProgram.calls k a0_0 a0_1 _ _ l0_2 _ _ l0_3 a0_0 a0_1 y9 y10 _ (Kd.C_below HR0_2.out HB.out) HC0_2.out (Kd.C_below HR0_3.out HB.out) HC0_3.out E1.out).mono ?_); rintro e w11 ⟨v2_, v3_, rfl, ho0, ho1, hb⟩; refine ⟨_, rfl, ?_⟩; obtain ⟨lo14, hi15, ⟨HO12, HO13⟩, oa16, ob17, NW2⟩ := new1 (F := fun lo_ hi_ => Held k79 79 w11 w.heap.size lo_ hi_ v2_ y9 ∧ Held k95 95 w11 w.heap.size lo_ hi_ v3_ y10) ⟨held_new ho0 hb HB.out, held_new ho1 hb HB.out⟩ hb NW; replace BK2 := BK2.same hb; replace HB := am_ (below_step HB.out hb); replace NW := Nat.le_trans NW hb.size; replace NW := NW2; skip; obtain ⟨A18, c19, e20⟩ := HO12.slice; subst e20; obtain ⟨A21, c22, e23⟩ := HO13.slice; subst e23; clear hb ho0 ho1) | ((with_reducible refine Sh.k 32 ?_); refine Sh.gL (some 22) Tryz.func32 #[.agg #[.int .i64 a0_0, .int .i64 a0_1, .slice A18 y9.length c19, .slice A21 y10.length c22]] (h := ?_); (with_reducible refine (spec_StuckIn.calls k a0_0 a0_1 _ _ y9 _ _ y10 y24 y25 _ HO12.C HO12.c HO13.C HO13.c E2.out).mono ?_); rintro e w26 ⟨v0_, rfl, ho0, hb⟩; refine ⟨_, rfl, ?_⟩; obtain ⟨lo28, hi29, HO27, oa30, ob31, NW2⟩ := new1 (F := fun lo_ hi_ => Held (Kd.int .i64) 3 w26 w.heap.size lo_ hi_ v0_ y24) (held_new ho0 hb HB.out) hb NW; replace BK2 := BK2.same hb; replace HO12 := HO12.same hb; replace HO13 := HO13.same hb; replace HB := am_ (below_step HB.out hb); replace NW := Nat.le_trans NW hb.size; replace NW := NW2; skip; obtain ⟨A32, c33, e34⟩ := HO27.slice; subst e34; clear hb ho0; have hczq35_0 : w26.cell? ⟨g1, 0, none⟩ = some (.int .i64 a0_0) := (blk_cell BK2.b 0).trans rfl; have hfzq35_0 := blk_frozen BK2.b 0; have hczq35_1 : w26.cell? ⟨g1, 1, none⟩ = some (.int .i64 a0_1) := (blk_cell BK2.b 1).trans rfl; have hfzq35_1 := blk_frozen BK2.b 1; have hczq35_2 : w26.cell? ⟨g1, 2, none⟩ = some (.slice A0_2 l0_2.length c0_2) := (blk_cell BK2.b 2).trans rfl; have hfzq35_2 := blk_frozen BK2.b 2; have hczq35_3 : w26.cell? ⟨g1, 3, none⟩ = some (.slice A0_3 l0_3.length c0_3) := (blk_cell BK2.b 3).trans rfl; have hfzq35_3 := blk_frozen BK2.b 3) | ((with_reducible refine Sh.k 13 ?_); refine Sh.gL (some 26) Tryz.func13 #[.agg #[.int .i64 a0_0, .int .i64 a0_1, .slice A0_2 l0_2.length c0_2, .slice A0_3 l0_3.length c0_3]] (h := ?_); (with_reducible refine (laws_toProgram.calls k a0_0 a0_1 _ _ l0_2 _ _ l0_3 a0_0 a0_1 y9 y10 _ (Kd.C_below HR0_2.out HB.out) HC0_2.out (Kd.C_below HR0_3.out HB.out) HC0_3.out E1.out).mono ?_); rintro e w36 ⟨v2_, v3_, rfl, ho0, ho1, hb⟩; refine ⟨_, rfl, ?_⟩; obtain ⟨lo39, hi40, ⟨HO37, HO38⟩, oa41, ob42, NW2⟩ := new1 (F := fun lo_ hi_ => Held k79 79 w36 w.heap.size lo_ hi_ v2_ y9 ∧ Held k95 95 w36 w.heap.size lo_ hi_ v3_ y10) ⟨held_new ho0 hb HB.out, held_new ho1 hb HB.out⟩ hb NW; replace BK2 := BK2.same hb; replace HO12 := HO12.same hb; replace HO13 := HO13.same hb; replace HO27 := HO27.same hb; replace HB := am_ (below_step HB.out hb); replace NW := Nat.le_trans NW hb.size; replace NW := NW2; skip; obtain ⟨A43, c44, e45⟩ := HO37.slice; subst e45; obtain ⟨A46, c47, e48⟩ := HO38.slice; subst e48; clear hb ho0 ho1) | ((with_reducible refine Sh.d 6 ?_); refine Sh.bx (N := 6) (cs := #[.int .i64 0, .int .i64 0, .slice none 0 0, .slice none 0 0]) (t := 33) (h := ?_); intro g49 hg w51 hbox hb; have BK50 := box_new (w := w) (W := w36) HB.out hg hbox; have oa52 := new_g (W := w36) hg NW; replace BK2 := BK2.same hb; replace HO12 := HO12.same hb; replace HO13 := HO13.same hb; replace HO27 := HO27.same hb; replace HO37 := HO37.same hb; replace HO38 := HO38.same hb; replace HB := am_ (below_step HB.out hb); replace NW := Nat.le_trans NW hb.size; replace NW := BK50.lt; clear hb hbox hg) | ((with_reducible refine gate_ (.store 33 (.tmp 6) (.tmp 26)) rfl ?_); refine store_event 6 (.tmp 26) rfl rfl rfl BK50 rfl [.int .i64 a0_0, .int .i64 a0_1, .slice A43 y9.length c44, .slice A46 y10.length c47] rfl rfl ?hs rfl ?h1 ?_; (case hs => kernel_rfl); (case h1 => (simp only [List.mem_cons, List.not_mem_nil, or_false]; intro q_ h_; rcases h_ with h_ | h_ | h_ | h_ <;> (subst h_; rfl))); intro w53 hbx hb hk; replace BK2 := BK2.move hk (by omega); replace HO12 := HO12.move hk (by omega); replace HO13 := HO13.move hk (by omega); replace HO27 := HO27.move hk (by omega); replace HO37 := HO37.move hk (by omega); replace HO38 := HO38.move hk (by omega); replace BK50 := hbx; replace NW := Nat.le_trans NW hk.1; replace HB := am_ (HB.out.trans hb); clear hk hb; have hczq54_0 : w53.cell? ⟨g49, 0, none⟩ = some (.int .i64 a0_0) := (blk_cell BK50.b 0).trans rfl; have hfzq54_0 := blk_frozen BK50.b 0; have hczq54_1 : w53.cell? ⟨g49, 1, none⟩ = some (.int .i64 a0_1) := (blk_cell BK50.b 1).trans rfl; have hfzq54_1 := blk_frozen BK50.b 1; have hczq54_2 : w53.cell? ⟨g49, 2, none⟩ = some (.slice A43 y9.length c44) := (blk_cell BK50.b 2).trans rfl; have hfzq54_2 := blk_frozen BK50.b 2; have hczq54_3 : w53.cell? ⟨g49, 3, none⟩ = some (.slice A46 y10.length c47) := (blk_cell BK50.b 3).trans rfl; have hfzq54_3 := blk_frozen BK50.b 3) | ((with_reducible refine Sh.k 33 ?_); refine Sh.gL (some 29) Tryz.func33 #[.agg #[.int .i64 a0_0, .int .i64 a0_1, .slice A43 y9.length c44, .slice A46 y10.length c47]] (h := ?_); (with_reducible refine (impl_StuckIn.calls k a0_0 a0_1 _ _ y9 _ _ y10 y24 y25 _ HO37.C HO37.c HO38.C HO38.c E3.out).mono ?_); rintro e w55 ⟨v0_, rfl, ho0, hb⟩; refine ⟨_, rfl, ?_⟩; obtain ⟨lo57, hi58, HO56, oa59, ob60, NW2⟩ := new1 (F := fun lo_ hi_ => Held (Kd.int .i64) 3 w55 w.heap.size lo_ hi_ v0_ y24) (held_new ho0 hb HB.out) hb NW; replace BK2 := BK2.same hb; replace HO12 := HO12.same hb; replace HO13 := HO13.same hb; replace HO27 := HO27.same hb; replace HO37 := HO37.same hb; replace HO38 := HO38.same hb; replace BK50 := BK50.same hb; replace HB := am_ (below_step HB.out hb); replace NW := Nat.le_trans NW hb.size; replace NW := NW2; skip; obtain ⟨A61, c62, e63⟩ := HO56.slice; subst e63; clear hb ho0) | ((with_reducible refine Sh.k 15 ?_); refine Sh.gL (some 34) Tryz.func15 #[.slice A61 y24.length c62, .slice A32 y24.length c33] (h := ?_); (with_reducible refine (laws_eqIntS.calls k _ _ y24 _ _ y24 true _ HO56.C HO56.c HO27.C HO27.c E4.out).mono ?_); rintro e w64 ⟨rfl, hb⟩; refine ⟨_, rfl, ?_⟩; replace hb := hb.below; replace BK2 := BK2.same hb; replace HO12 := HO12.same hb; replace HO13 := HO13.same hb; replace HO27 := HO27.same hb; replace HO37 := HO37.same hb; replace HO38 := HO38.same hb; replace BK50 := BK50.same hb; replace HO56 := HO56.same hb; replace HB := am_ (below_step HB.out hb); replace NW := Nat.le_trans NW hb.size; clear hb))
 (try simp only [Act.put, List.setIfInBounds_toArray, List.set_cons_zero, List.set_cons_succ])
 try go_wp2
 have hb : Below w64.heap.size w64 w64.drew := below_drew (Below.refl _ _)
 replace BK2 := BK2.same hb
 replace HO12 := HO12.same hb
 replace HO13 := HO13.same hb
 replace HO27 := HO27.same hb
 replace HO37 := HO37.same hb
 replace HO38 := HO38.same hb
 replace BK50 := BK50.same hb
 replace HO56 := HO56.same hb
 replace HB := am_ (below_step HB.out hb)
 replace NW := Nat.le_trans NW hb.size
 clear hb
 have hL_ : 0 ≤ 0 := Nat.le_refl 0
 refine start_ (n := 5) (S := fun w' => w'.cell? ⟨g49, 0, none⟩ = some (.int .i64 a0_0) ∧ w'.cell? ⟨g49, 1, none⟩ = some (.int .i64 a0_1) ∧ w'.cell? ⟨g49, 2, none⟩ = some (.slice A43 y9.length c44) ∧ w'.cell? ⟨g49, 3, none⟩ = some (.slice A46 y10.length c47) ∧ w'.cell? ⟨g1, 0, none⟩ = some (.int .i64 a0_0) ∧ w'.cell? ⟨g1, 1, none⟩ = some (.int .i64 a0_1) ∧ w'.cell? ⟨g1, 2, none⟩ = some (.slice A0_2 l0_2.length c0_2) ∧ w'.cell? ⟨g1, 3, none⟩ = some (.slice A0_3 l0_3.length c0_3)) (ds := []) (Sh.nm 5 0) (by kernel_rfl) rfl rfl ⟨(blk_cell BK50.b 0).trans rfl, (blk_cell BK50.b 1).trans rfl, (blk_cell BK50.b 2).trans rfl, (blk_cell BK50.b 3).trans rfl, (blk_cell BK2.b 0).trans rfl, (blk_cell BK2.b 1).trans rfl, (blk_cell BK2.b 2).trans rfl, (blk_cell BK2.b 3).trans rfl⟩ (fun hHeld => ?_)
 generalize w64.drew = w65 at BK2 HO12 HO13 HO27 HO37 HO38 BK50 HO56 HB NW hHeld ⊢
 clear hL_
 refine Sh.tA 0 41 (Sh.nm 5 1) (by kernel_rfl) hHeld ?_ (hy := by rintro w' ⟨s0, s1, s2, s3, s4, s5, s6, s7⟩; go_simp; with_reducible rfl)
 refine Sh.tA 1 42 (Sh.nm 5 3) (by kernel_rfl) hHeld ?_ (hy := by rintro w' ⟨s0, s1, s2, s3, s4, s5, s6, s7⟩; go_simp; with_reducible rfl)
 refine one_ (i := 2) (N := some 43) (Sh.nm 5 7) rfl rfl (by kernel_rfl) (by decide) (fun K hK => ?_)
 refine goes_ Tryz.func13 (by kernel_rfl) rfl #[.agg #[.int .i64 a0_0, .int .i64 a0_1, .slice A0_2 l0_2.length c0_2, .slice A0_3 l0_3.length c0_3]] (by rfl) rfl rfl (by (try simp only [List.map_toArray, List.map_cons, List.map_nil]); first | done | rfl | (simp only [List.length_drop, List.length_take]; rfl)) ?_
 with_reducible refine (laws_toProgram.calls k a0_0 a0_1 _ _ l0_2 _ _ l0_3 a0_0 a0_1 y9 y10 _ (Kd.C_below HR0_2.out HB.out) HC0_2.out (Kd.C_below HR0_3.out HB.out) HC0_3.out E1.out).mono ?_
 rintro e w66 ⟨v2_, v3_, rfl, ho0, ho1, hb⟩
 refine ⟨_, rfl, ?_⟩
 obtain ⟨lo69, hi70, ⟨HO67, HO68⟩, oa71, ob72, NW2⟩ := new1 (F := fun lo_ hi_ => Held k79 79 w66 w.heap.size lo_ hi_ v2_ y9 ∧ Held k95 95 w66 w.heap.size lo_ hi_ v3_ y10) ⟨held_new ho0 hb HB.out, held_new ho1 hb HB.out⟩ hb NW
 replace BK2 := BK2.same hb
 replace HO12 := HO12.same hb
 replace HO13 := HO13.same hb
 replace HO27 := HO27.same hb
 replace HO37 := HO37.same hb
 replace HO38 := HO38.same hb
 replace BK50 := BK50.same hb
 replace HO56 := HO56.same hb
 replace HB := am_ (below_step HB.out hb)
 replace NW := Nat.le_trans NW hb.size
 replace NW := NW2
 skip
 obtain ⟨A73, c74, e75⟩ := HO67.slice
 subst e75
 obtain ⟨A76, c77, e78⟩ := HO68.slice
 subst e78
 clear hb ho0 ho1
 refine Sh.kN hK ⟨(blk_cell BK50.b 0).trans rfl, (blk_cell BK50.b 1).trans rfl, (blk_cell BK50.b 2).trans rfl, (blk_cell BK50.b 3).trans rfl, (blk_cell BK2.b 0).trans rfl, (blk_cell BK2.b 1).trans rfl, (blk_cell BK2.b 2).trans rfl, (blk_cell BK2.b 3).trans rfl⟩ fun hHeld => ?_
 clear hK K
 refine one_ (i := 3) (N := some 44) (Sh.nm 5 15) rfl rfl (by kernel_rfl) (by decide) (fun K hK => ?_)
 refine goes_ Tryz.func16 (by kernel_rfl) rfl #[.agg #[.int .i64 a0_0, .int .i64 a0_1, .slice A43 y9.length c44, .slice A46 y10.length c47], .agg #[.int .i64 a0_0, .int .i64 a0_1, .slice A73 y9.length c74, .slice A76 y10.length c77]] (by rfl) rfl rfl (by (try simp only [List.map_toArray, List.map_cons, List.map_nil]); first | done | rfl | (simp only [List.length_drop, List.length_take]; rfl)) ?_
 with_reducible refine (laws_eqProgram.calls k a0_0 a0_1 _ _ y9 _ _ y10 a0_0 a0_1 _ _ y9 _ _ y10 true _ HO37.C HO37.c HO38.C HO38.c HO67.C HO67.c HO68.C HO68.c E5.out).mono ?_
 rintro e w79 ⟨rfl, hb⟩
 refine ⟨_, rfl, ?_⟩
 replace BK2 := BK2.same hb
 replace HO12 := HO12.same hb
 replace HO13 := HO13.same hb
 replace HO27 := HO27.same hb
 replace HO37 := HO37.same hb
 replace HO38 := HO38.same hb
 replace BK50 := BK50.same hb
 replace HO56 := HO56.same hb
 replace HO67 := HO67.same hb
 replace HO68 := HO68.same hb
 replace HB := am_ (below_step HB.out hb)
 replace NW := Nat.le_trans NW hb.size
 clear hb
 refine Sh.kN hK ⟨(blk_cell BK50.b 0).trans rfl, (blk_cell BK50.b 1).trans rfl, (blk_cell BK50.b 2).trans rfl, (blk_cell BK50.b 3).trans rfl, (blk_cell BK2.b 0).trans rfl, (blk_cell BK2.b 1).trans rfl, (blk_cell BK2.b 2).trans rfl, (blk_cell BK2.b 3).trans rfl⟩ fun hHeld => ?_
 clear hK K
 refine Sh.pA 4 45 (Sh.nm 5 31) (by kernel_rfl) ?_
 refine done_ (by kernel_rfl) ?_
 have hczq80_0 : w79.cell? ⟨g49, 0, none⟩ = some (.int .i64 a0_0) := (blk_cell BK50.b 0).trans rfl; have hfzq80_0 := blk_frozen BK50.b 0
 have hczq80_1 : w79.cell? ⟨g49, 1, none⟩ = some (.int .i64 a0_1) := (blk_cell BK50.b 1).trans rfl; have hfzq80_1 := blk_frozen BK50.b 1
 have hczq80_2 : w79.cell? ⟨g49, 2, none⟩ = some (.slice A43 y9.length c44) := (blk_cell BK50.b 2).trans rfl; have hfzq80_2 := blk_frozen BK50.b 2
 have hczq80_3 : w79.cell? ⟨g49, 3, none⟩ = some (.slice A46 y10.length c47) := (blk_cell BK50.b 3).trans rfl; have hfzq80_3 := blk_frozen BK50.b 3
 go_wp2_with (first | ((with_reducible refine Sh.k 17 ?_); refine Sh.gL (some 48) Tryz.func17 #[.agg #[.int .i64 a0_0, .int .i64 a0_1, .slice A43 y9.length c44, .slice A46 y10.length c47], .int .i64 1] (h := ?_); (with_reducible refine (laws_markProgram.calls k (fun k_ => lo39 ≤ k_ ∧ k_ < hi40) a0_0 a0_1 _ y9 _ y10 1 m81 w _ HB.out HO37.r HO38.r E6.out).mono ?_); rintro e w82 ⟨rfl, hb, hk⟩; refine ⟨_, rfl, ?_⟩; replace hk : Kept w79 w82 (fun k_ => lo39 ≤ k_ ∧ k_ < hi40) := hk; replace BK2 := BK2.move hk (by omega); replace HO12 := HO12.move hk (by omega); replace HO13 := HO13.move hk (by omega); replace HO27 := HO27.move hk (by omega); replace BK50 := BK50.move hk (by omega); replace HO56 := HO56.move hk (by omega); replace HO67 := HO67.move hk (by omega); replace HO68 := HO68.move hk (by omega); clear HO37 HO38; replace NW := Nat.le_trans NW hk.1; replace HB := am_ hb; clear hk hb) | ((with_reducible refine Sh.k 15 ?_); (with_reducible refine Sh.d 54 ?_); (try simp only [ce0, ce1, cr0]); refine gate_guard (by rfl) ?_; dsimp only; refine Sh.gL (some 54) Tryz.func15 #[.slice A61 y24.length c62, .slice A32 y24.length c33] (h := ?_); (with_reducible refine (laws_eqIntS.calls k _ _ y24 _ _ y24 true _ HO56.C HO56.c HO27.C HO27.c E4.out).mono ?_); rintro e w83 ⟨rfl, hb⟩; refine ⟨_, rfl, ?_⟩; replace hb := hb.below; replace BK2 := BK2.same hb; replace HO12 := HO12.same hb; replace HO13 := HO13.same hb; replace HO27 := HO27.same hb; replace BK50 := BK50.same hb; replace HO56 := HO56.same hb; replace HO67 := HO67.same hb; replace HO68 := HO68.same hb; replace HB := am_ (below_step HB.out hb); replace NW := Nat.le_trans NW hb.size; clear hb) | ((with_reducible refine Sh.k 18 ?_); refine Sh.gL (some 64) Tryz.func18 #[.slice A61 y24.length c62, .int .i64 1] (h := ?_); (with_reducible refine (laws_markIntS.calls k (fun k_ => lo57 ≤ k_ ∧ k_ < hi58) _ y24 1 m84 y85 w _ HB.out HO56.r E7.out).mono ?_); rintro e w86 ⟨rfl, hm0, hb, hk⟩; refine ⟨_, rfl, ?_⟩; replace hk : Kept w83 w86 (fun k_ => lo57 ≤ k_ ∧ k_ < hi58) := hk; replace BK2 := BK2.move hk (by omega); replace HO12 := HO12.move hk (by omega); replace HO13 := HO13.move hk (by omega); replace HO27 := HO27.move hk (by omega); replace BK50 := BK50.move hk (by omega); replace HO67 := HO67.move hk (by omega); replace HO68 := HO68.move hk (by omega); replace HO56 := HO56.marked rfl hm0 hk; replace NW := Nat.le_trans NW hk.1; replace HB := am_ hb; clear hk hb hm0) | ((with_reducible refine Sh.k 19 ?_); refine Sh.gL (some 67) Tryz.func19 #[.slice A61 y24.length c62, .int .i64 1] (h := ?_); refine calls_of_args (args' := #[.slice A61 y85.length c62, .int .i64 1]) (by rw [← HO56.n]) ?_; (with_reducible refine (laws_heldIntS.calls k _ _ y85 1 m84 _ HO56.C HO56.c E8.out).mono ?_); rintro e w87 ⟨rfl, hb⟩; refine ⟨_, rfl, ?_⟩; replace hb := hb.below; replace BK2 := BK2.same hb; replace HO12 := HO12.same hb; replace HO13 := HO13.same hb; replace HO27 := HO27.same hb; replace BK50 := BK50.same hb; replace HO56 := HO56.same hb; replace HO67 := HO67.same hb; replace HO68 := HO68.same hb; replace HB := am_ (below_step HB.out hb); replace NW := Nat.le_trans NW hb.size; clear hb; have hczq88_0 : w87.cell? ⟨g1, 0, none⟩ = some (.int .i64 a0_0) := (blk_cell BK2.b 0).trans rfl; have hfzq88_0 := blk_frozen BK2.b 0; have hczq88_1 : w87.cell? ⟨g1, 1, none⟩ = some (.int .i64 a0_1) := (blk_cell BK2.b 1).trans rfl; have hfzq88_1 := blk_frozen BK2.b 1; have hczq88_2 : w87.cell? ⟨g1, 2, none⟩ = some (.slice A0_2 l0_2.length c0_2) := (blk_cell BK2.b 2).trans rfl; have hfzq88_2 := blk_frozen BK2.b 2; have hczq88_3 : w87.cell? ⟨g1, 3, none⟩ = some (.slice A0_3 l0_3.length c0_3) := (blk_cell BK2.b 3).trans rfl; have hfzq88_3 := blk_frozen BK2.b 3) | ((with_reducible refine Sh.k 13 ?_); refine Sh.gL (some 75) Tryz.func13 #[.agg #[.int .i64 a0_0, .int .i64 a0_1, .slice A0_2 l0_2.length c0_2, .slice A0_3 l0_3.length c0_3]] (h := ?_); (with_reducible refine (laws_toProgram.calls k a0_0 a0_1 _ _ l0_2 _ _ l0_3 a0_0 a0_1 y9 y10 _ (Kd.C_below HR0_2.out HB.out) HC0_2.out (Kd.C_below HR0_3.out HB.out) HC0_3.out E1.out).mono ?_); rintro e w89 ⟨v2_, v3_, rfl, ho0, ho1, hb⟩; refine ⟨_, rfl, ?_⟩; obtain ⟨lo92, hi93, ⟨HO90, HO91⟩, oa94, ob95, NW2⟩ := new1 (F := fun lo_ hi_ => Held k79 79 w89 w.heap.size lo_ hi_ v2_ y9 ∧ Held k95 95 w89 w.heap.size lo_ hi_ v3_ y10) ⟨held_new ho0 hb HB.out, held_new ho1 hb HB.out⟩ hb NW; replace BK2 := BK2.same hb; replace HO12 := HO12.same hb; replace HO13 := HO13.same hb; replace HO27 := HO27.same hb; replace BK50 := BK50.same hb; replace HO56 := HO56.same hb; replace HO67 := HO67.same hb; replace HO68 := HO68.same hb; replace HB := am_ (below_step HB.out hb); replace NW := Nat.le_trans NW hb.size; replace NW := NW2; skip; obtain ⟨A96, c97, e98⟩ := HO90.slice; subst e98; obtain ⟨A99, c100, e101⟩ := HO91.slice; subst e101; clear hb ho0 ho1) | ((with_reducible refine Sh.k 33 ?_); refine Sh.gL (some 76) Tryz.func33 #[.agg #[.int .i64 a0_0, .int .i64 a0_1, .slice A96 y9.length c97, .slice A99 y10.length c100]] (h := ?_); (with_reducible refine (impl_StuckIn.calls k a0_0 a0_1 _ _ y9 _ _ y10 y24 y25 _ HO90.C HO90.c HO91.C HO91.c E3.out).mono ?_); rintro e w102 ⟨v0_, rfl, ho0, hb⟩; refine ⟨_, rfl, ?_⟩; obtain ⟨lo104, hi105, HO103, oa106, ob107, NW2⟩ := new1 (F := fun lo_ hi_ => Held (Kd.int .i64) 3 w102 w.heap.size lo_ hi_ v0_ y24) (held_new ho0 hb HB.out) hb NW; replace BK2 := BK2.same hb; replace HO12 := HO12.same hb; replace HO13 := HO13.same hb; replace HO27 := HO27.same hb; replace BK50 := BK50.same hb; replace HO56 := HO56.same hb; replace HO67 := HO67.same hb; replace HO68 := HO68.same hb; replace HO90 := HO90.same hb; replace HO91 := HO91.same hb; replace HB := am_ (below_step HB.out hb); replace NW := Nat.le_trans NW hb.size; replace NW := NW2; skip; obtain ⟨A108, c109, e110⟩ := HO103.slice; subst e110; clear hb ho0) | ((with_reducible refine Sh.k 15 ?_); refine Sh.gL (some 81) Tryz.func15 #[.slice A108 y24.length c109, .slice A32 y24.length c33] (h := ?_); (with_reducible refine (laws_eqIntS.calls k _ _ y24 _ _ y24 true _ HO103.C HO103.c HO27.C HO27.c E4.out).mono ?_); rintro e w111 ⟨rfl, hb⟩; refine ⟨_, rfl, ?_⟩; replace hb := hb.below; replace BK2 := BK2.same hb; replace HO12 := HO12.same hb; replace HO13 := HO13.same hb; replace HO27 := HO27.same hb; replace BK50 := BK50.same hb; replace HO56 := HO56.same hb; replace HO67 := HO67.same hb; replace HO68 := HO68.same hb; replace HO90 := HO90.same hb; replace HO91 := HO91.same hb; replace HO103 := HO103.same hb; replace HB := am_ (below_step HB.out hb); replace NW := Nat.le_trans NW hb.size; clear hb) | ((with_reducible refine Sh.k 19 ?_); refine Sh.gL (some 90) Tryz.func19 #[.slice A61 y24.length c62, .int .i64 1] (h := ?_); refine calls_of_args (args' := #[.slice A61 y85.length c62, .int .i64 1]) (by rw [← HO56.n]) ?_; (with_reducible refine (laws_heldIntS.calls k _ _ y85 1 m84 _ HO56.C HO56.c E8.out).mono ?_); rintro e w112 ⟨rfl, hb⟩; refine ⟨_, rfl, ?_⟩; replace hb := hb.below; replace BK2 := BK2.same hb; replace HO12 := HO12.same hb; replace HO13 := HO13.same hb; replace HO27 := HO27.same hb; replace BK50 := BK50.same hb; replace HO56 := HO56.same hb; replace HO67 := HO67.same hb; replace HO68 := HO68.same hb; replace HO90 := HO90.same hb; replace HO91 := HO91.same hb; replace HO103 := HO103.same hb; replace HB := am_ (below_step HB.out hb); replace NW := Nat.le_trans NW hb.size; clear hb))
 go_ret
 exact ⟨rfl, HB.out⟩
end Go.Proofs.YtngefmofelengaaGreat.P
