/- Go functions of this seat as Lean functions, and the proofs that the calls come to what these say; printed by a program of this session. No condition. -/
import Derived.Test.YtjenmoopbmklfaaGreatP0
import Derived.Test.YtjenmoopbmklfaaGreatMFnExactPlayCommands2
set_option linter.unusedVariables false
set_option linter.unusedSimpArgs false
set_option maxHeartbeats 40000000
set_option maxRecDepth 100000
namespace Go.Proofs.YtjenmoopbmklfaaGreat.P
open Go.RowKit Go.Proofs.YtjenmoopbmklfaaGreatW.PrintWords Go.Proofs.YtjenmoopbmklfaaGreatW.PrintLast Go.Proofs.YtjenmoopbmklfaaGreatW.PrintMore Go.Proofs.YtjenmoopbmklfaaGreat.Hof
attribute [local go_sem] max2_int min2_int max_two min_two max_three min_three max_four min_four
mutual
def impl_GoodTerm.j0 : Nat → Int → Int → List (S80) → Bool → Option (Bool)
 | 0, _, _, _, _ => none
 | k + 1, x0, x1, x2, x31 => if x31 = true then (some false) else (impl_GoodTerm.l0 k x0 x1 (([] : List Int)) x2 (x2.length : Int) 0)
def impl_GoodTerm.l0 : Nat → Int → Int → List Int → List (S80) → Int → Int → Option (Bool)
 | 0, _, _, _, _, _, _ => none
 | k + 1, x0, x1, x7, x33, x34, x35 => if x35 < x34 then (if 0 ≤ x35 then (if x35 < (x33.length : Int) then ((impl_operandsOf.f k ((rd_T80 x33 x35).f0)).bind fun bt339 => (if bt339.2.2 = 0 then (some false) else ((impl_isLeafRight.f x0 x1 ((rd_T80 x33 x35).f0) ((rd_T80 x33 x35).f1)).bind fun t343 => (if t343 = true then (if (wrap64 ((x7.length : Int) - bt339.1)) < 0 then (some false) else (if 0 ≤ (wrap64 ((x7.length : Int) - bt339.1)) then (if (wrap64 ((x7.length : Int) - bt339.1)) ≤ (x7.length : Int) then ((slices_ContainsFunc_int_int_by_impl_GoodTerm_1.f (x7.drop ((wrap64 ((x7.length : Int) - bt339.1)) : Int).toNat) bt339.2.1).bind fun t348 => (if t348 = true then (some false) else ((some (x7.take ((wrap64 ((x7.length : Int) - bt339.1)) : Int).toNat : List Int)).bind fun y349 => (if y349.length < 17592186044416 then (impl_GoodTerm.l0 k x0 x1 (y349 ++ [bt339.2.2]) x33 x34 (wrap64 (x35 + 1))) else (none))))) else (none)) else (none))) else (some false))))) else (none)) else (none)) else (some ((x7.length : Int) == 1))
end
def impl_GoodTerm.f (k : Nat) (a0 : Int) (a1 : Int) (l2 : List (S80)) : Option (Bool) := (impl_isWide.f a0).bind fun t332 => (if t332 = true then ((impl_isVars.f a1).bind fun t333 => (if t333 = true then (if (l2.length : Int) < 1 then (impl_GoodTerm.j0 k a0 a1 l2 true) else (impl_GoodTerm.j0 k a0 a1 l2 (decide ((l2.length : Int) > 48)))) else (impl_GoodTerm.j0 k a0 a1 l2 true))) else (impl_GoodTerm.j0 k a0 a1 l2 true))
theorem impl_GoodTerm.mono_l : ∀ k, (∀ y0 y1 y2 y3, LeO (impl_GoodTerm.j0 k y0 y1 y2 y3) (impl_GoodTerm.j0 (k + 1) y0 y1 y2 y3)) ∧ (∀ y0 y1 y2 y3 y4 y5, LeO (impl_GoodTerm.l0 k y0 y1 y2 y3 y4 y5) (impl_GoodTerm.l0 (k + 1) y0 y1 y2 y3 y4 y5))
 | 0 => ⟨fun _ _ _ _ r h => by simp [impl_GoodTerm.j0] at h, fun _ _ _ _ _ _ r h => by simp [impl_GoodTerm.l0] at h⟩
 | k + 1 => by
  obtain ⟨ih0, ih1⟩ := impl_GoodTerm.mono_l k
  and_intros <;> intros
  all_goals (first | unfold impl_GoodTerm.j0 | unfold impl_GoodTerm.l0)
  all_goals repeat' with_reducible first | apply ih0 | apply ih1 | apply impl_operandsOf.mono | exact LeO.refl _ | exact LeO.none _ | apply LeO.ite | refine LeO.bind ?_ fun _ => ?_
theorem impl_GoodTerm.mono : ∀ a0 a1 a2 k, LeO (impl_GoodTerm.f k a0 a1 a2) (impl_GoodTerm.f (k + 1) a0 a1 a2) := by
 intro a0 a1 a2 k
 obtain ⟨ih0, ih1⟩ := impl_GoodTerm.mono_l k
 unfold impl_GoodTerm.f
 repeat' with_reducible first | apply ih0 | apply ih1 | apply impl_operandsOf.mono | exact LeO.refl _ | exact LeO.none _ | apply LeO.ite | refine LeO.bind ?_ fun _ => ?_
theorem impl_GoodTerm.calls (k : Nat) (a0 : Int) (a1 : Int) (A2 : Option Addr) (c2 : Nat) (l2 : List (S80)) (r : Bool) (w : World) (hr2 : Kd.C k80 w A2 l2.length l2) (hc2 : l2.length ≤ c2) (h : impl_GoodTerm.f k a0 a1 l2 = some r) :
  Calls Tryz.prog 91 #[.int .i64 a0, .int .i64 a1, .slice A2 l2.length c2] w fun e w' => e = .returned (.bool r) ∧ Below w.heap.size w w' := by
 have hu80 := Tryz.underlying80
 have HR2 := am_ hr2
 have HC2 := am_ hc2
 clear hr2 hc2
 have HB := am_ (Below.refl w.heap.size w)
 have H := h
 clear h
 unfold impl_GoodTerm.f at H
 have HC4 := am_ H
 clear H
 go_enter Tryz.func91, Tryz.ntmps91
 go_upto_region 1 with (fail)
 go_cut [31] (fun v31 wc => ∃ (kq : Nat) (x31_3 : Bool), v31 = .bool x31_3 ∧ Aside0 (impl_GoodTerm.j0 kq a0 a1 l2 x31_3 = some r) ∧ Aside0 (kq ≤ k) ∧ Aside0 (Below w.heap.size w wc))
 case first =>
  have H := HC4.out
  clear HC4
  obtain ⟨t332, A5, H⟩ := Sh.ba H
  by_cases c6 : t332 = true
  ·subst c6
   rw [if_pos rfl] at H
   obtain ⟨t333, A7, H⟩ := Sh.ba H
   by_cases c8 : t333 = true
   ·subst c8
    rw [if_pos rfl] at H
    by_cases c9 : (l2.length : Int) < 1
    ·rw [if_pos c9] at H
     have c9b0 := decide_eq_true c9
     have c9b1 : decide (l2.length < 1) = true := decide_eq_true (by omega)
     clear c9
     first | rw [c9b0] | (simp only [i64_w, i32_w]; rw [c9b0]) | skip
     have H' := am_ H
     clear H
     go_wp2_with (first | ((with_reducible refine Sh.k 61 ?_); refine Sh.gD (some 15) Tryz.func61 #[.int .i64 a0] (impl_isWide.calls a0 true _ A5.out) fun nd => ?_) | (go_at_call 62; (with_reducible refine (impl_isVars.calls a1 true _ A7.out).mono ?_); rintro e w' ⟨rfl, ⟨nd, rfl⟩⟩))
     go_meet
     case rel => exact ⟨_, (true), (Sh.es), H', ⟨Sh.om⟩, ⟨Sh.bw⟩⟩
    ·rw [if_neg c9] at H
     have c9b0 := decide_eq_false c9
     have c9b1 : decide (l2.length < 1) = false := decide_eq_false (by omega)
     clear c9
     first | rw [c9b0] | (simp only [i64_w, i32_w]; rw [c9b0]) | skip
     have H' := am_ H
     clear H
     go_wp2_with (first | ((with_reducible refine Sh.k 61 ?_); refine Sh.gD (some 15) Tryz.func61 #[.int .i64 a0] (impl_isWide.calls a0 true _ A5.out) fun nd => ?_) | (go_at_call 62; (with_reducible refine (impl_isVars.calls a1 true _ A7.out).mono ?_); rintro e w' ⟨rfl, ⟨nd, rfl⟩⟩))
     go_meet
     case rel => exact ⟨_, (decide ((l2.length : Int) > 48)), (Sh.es), H', ⟨Sh.om⟩, ⟨Sh.bw⟩⟩
   ·replace c8 := Bool.eq_false_iff.mpr c8
    subst c8
    rw [Sh.nf] at H
    have H' := am_ H
    clear H
    go_wp2_with (first | ((with_reducible refine Sh.k 61 ?_); refine Sh.gD (some 15) Tryz.func61 #[.int .i64 a0] (impl_isWide.calls a0 true _ A5.out) fun nd => ?_) | (go_at_call 62; (with_reducible refine (impl_isVars.calls a1 false _ A7.out).mono ?_); rintro e w' ⟨rfl, ⟨nd, rfl⟩⟩))
    go_meet
    case rel => exact ⟨_, (true), (Sh.es), H', ⟨Sh.om⟩, ⟨Sh.bw⟩⟩
  ·replace c6 := Bool.eq_false_iff.mpr c6
   subst c6
   rw [Sh.nf] at H
   have H' := am_ H
   clear H
   go_wp2_with (first | ((with_reducible refine Sh.k 61 ?_); refine Sh.gD (some 15) Tryz.func61 #[.int .i64 a0] (impl_isWide.calls a0 false _ A5.out) fun nd => ?_))
   go_meet
   case rel => exact ⟨_, (true), (Sh.es), H', ⟨Sh.om⟩, ⟨Sh.bw⟩⟩
 case rest =>
  clear HC4
  obtain ⟨kq, x31_3, rfl, HA, HJ3, HB⟩ := hcut
  cases kq with
  | zero => exact absurd HA.out (by simp [impl_GoodTerm.j0])
  | succ kj3 =>
   have H := HA.out
   clear HA
   simp only [impl_GoodTerm.j0] at H
   by_cases c10 : x31_3 = true
   ·subst c10
    rw [if_pos rfl] at H
    obtain rfl := Option.some.inj H
    go_wp2
    go_ret
    exact ⟨Sh.eR, Sh.bw⟩
   ·replace c10 := Bool.eq_false_iff.mpr c10
    subst c10
    rw [Sh.nf] at H
    obtain ⟨y334, hy334⟩ : ∃ y_ : List Int, y_ = (([] : List Int)) := ⟨_, rfl⟩
    replace H : (impl_GoodTerm.l0 kj3 a0 a1 y334 l2 (l2.length : Int) 0) = some r := by first | (rw [hy334]; with_reducible exact H) | (have H2_ := (Option.bind_some _ _).symm.trans H; rw [hy334]; with_reducible exact H2_) | (have H2_ := (Option.bind_some _ _).symm.trans H; with_reducible exact H2_) | with_reducible exact H | (rw [hy334]; exact H) | exact H
    have Ny334 := am_ hy334
    clear hy334
    have H' := am_ H
    clear H
    go_wp2_with (first | ((with_reducible refine Sh.d 32 ?_); (try (refine gate_guard (by rfl) ?_; dsimp only)); refine Kd.R_lit (Kd.int .i64) _ 3 ?hg (N := 32) ?hd (xs := ([] : List Int)) (inner := []) (ok := fun _ => True) (okp := fun _ => True) ?hr ?hp (fun _ hk => hk) trivial (Below.refl _ _) (Nat.le_refl _) (by simp) ?_; (case hd => rfl); (case hg => rfl); (case hr => first | (go_simp; done) | (go_simp; rfl)); (case hp => exact (Reps.none _ _)); intro v335 w11 ho12 hb hg_ hnew_; clear hg_ hnew_; (first | rw [← Ny334.out] at ho12 | (simp only [Int.reduceToNat] at ho12; rw [← Ny334.out] at ho12)); have HO336 := am_ (Kd.R_lower ho12 (below_size Sh.bw)); replace HB := Sh.hb hb; clear hb ho12))
    go_loopg [7, 35] kj3 (fun kq v7 v35 w' => ∃ (x7_2 : List Int) (x35_2 : Int), v35 = .int .i64 x35_2 ∧ Aside0 (impl_GoodTerm.l0 kq a0 a1 x7_2 l2 (l2.length : Int) x35_2 = some r) ∧ Aside0 (kq ≤ kj3) ∧ Aside0 (Kd.R (Kd.int .i64) 3 w' w.heap.size (fun _ => True) v7 x7_2) ∧ Aside0 (Below w.heap.size w w'))
    case atStart => exact ⟨(y334), (0), (Sh.es), H', ⟨Nat.le_refl _⟩, ⟨Sh.rl HO336.out⟩, ⟨Sh.bw⟩⟩
    case round =>
     clear H'
     obtain ⟨x7_2, x35_2, rfl, HA, HK2, HO_7, HB⟩ := hrel
     cases gk with
     | zero => exact absurd HA.out (by simp [impl_GoodTerm.l0])
     | succ k2 =>
      have H := HA.out
      clear HA
      simp only [impl_GoodTerm.l0] at H
      by_cases c13 : x35_2 < (l2.length : Int)
      ·rw [if_pos c13] at H
       have c13b0 := decide_eq_true c13
       clear c13
       by_cases c14 : 0 ≤ x35_2
       ·rw [if_pos c14] at H
        have c14b0 := decide_eq_true c14
        clear c14
        by_cases c15 : x35_2 < (l2.length : Int)
        ·rw [if_pos c15] at H
         have c15b0 := decide_eq_true c15
         clear c15
         obtain ⟨⟨t339, t340, t341⟩, A160, H⟩ := Sh.bd H
         have A16 := am_ A160
         clear A160
         by_cases c17 : t341 = 0
         ·rw [if_pos c17] at H
          have c17b0 : (t341 == 0) = true := beq_iff_eq.mpr c17
          have c17b1 : (t341 != 0) = false := bne_eq_false_iff_eq.mpr c17
          clear c17
          obtain rfl := Option.some.inj H
          have p337 : 0 ≤ (x35_2 : Int) := Sh.od
          have q337 : x35_2 < (l2.length : Int) := Sh.od
          obtain ⟨ad337, e337, hx337_0, hx337_1⟩ := at_T80 HR2.out x35_2 p337 q337
          cases e337
          try replace hx337_0 := Sh.cw hx337_0
          try replace hx337_1 := Sh.cw hx337_1
          replace p337 := eq_true p337
          replace q337 := eq_true q337
          go_wp2_with (first | ((with_reducible refine Sh.d 9 ?_); (try (refine gate_guard (by rfl) ?_; dsimp only)); refine Sh.bx (N := 9) (cs := #[.int .i64 0, .int .u64 0]) (t := 80) (h := ?_); intro gb338 hg w18 hbox hb; replace HO_7 := am_ (Kd.R_below (Sh.rl HO_7.out) hb); have BK338 := am_ hbox; have GE338 := Sh.ag w hg; replace HB := Sh.hb hb; clear hb hbox hg; obtain ⟨hcz19_0, hcz19_1, hfz19_0, hfz19_1⟩ := Sh.b2 BK338.out) | ((with_reducible refine Sh.k 98 ?_); refine Sh.gD (some 42) Tryz.func98 #[.int .i64 ((rd_T80 l2 x35_2).f0)] (impl_operandsOf.calls k2 ((rd_T80 l2 x35_2).f0) t339 t340 t341 _ A16.out) fun nd => ?_) | ((with_reducible refine Sh.d 11 ?_); (try (refine gate_guard (by rfl) ?_; dsimp only)); refine Sh.bx (N := 11) (cs := #[.int .i64 0]) (t := 3) (h := ?_); intro gb342 hg w20 hbox hb; have n0_ := am_ (Kd.R_below (Kd.R_elderB (Sh.rl (Kd.R_mono (Kd.R_far (p := ⟨gb338, 1, none⟩) (Kd.R_far (p := ⟨gb338, 0, none⟩) (Kd.R_types HO_7.out BK338.out (by decide)) (fun _ hk => hk.2) (.int .i64 ((rd_T80 l2 x35_2).f0))) (fun _ hk => hk.2) (.int .u64 ((rd_T80 l2 x35_2).f1))) (fun _ h_ => h_.1))) gb342 (Nat.le_of_eq hg.symm)) hb); have n1_ := am_ (blk_below (g := gb338) (o := .cells #[.int .i64 ((rd_T80 l2 x35_2).f0), .int .u64 ((rd_T80 l2 x35_2).f1)] 80 (0, 0)) (by refine Sh.pl ?_; refine blk_put (cs := #[.int .i64 ((rd_T80 l2 x35_2).f0), .int .u64 0]) ?_ 1 _ rfl; refine Sh.pl ?_; refine blk_put (cs := #[.int .i64 0, .int .u64 0]) ?_ 0 _ rfl; refine Sh.pl ?_; exact BK338.out) hb); have n2_ := am_ (below_step Sh.bw hb); have n3_ := am_ hbox; have n4_ := am_ (Sh.gw (w := w) hg); have n5_ := am_ (Sh.gw (w := w) hg); have n6_ := am_ ((by rw [hg]; exact Nat.ne_of_lt (blk_lt (g := gb338) (o := .cells #[.int .i64 ((rd_T80 l2 x35_2).f0), .int .u64 ((rd_T80 l2 x35_2).f1)] 80 (0, 0)) (by refine Sh.pl ?_; refine blk_put (cs := #[.int .i64 ((rd_T80 l2 x35_2).f0), .int .u64 0]) ?_ 1 _ rfl; refine Sh.pl ?_; refine blk_put (cs := #[.int .i64 0, .int .u64 0]) ?_ 0 _ rfl; refine Sh.pl ?_; exact BK338.out)) : gb338 ≠ gb342)); have n7_ := am_ ((by rw [hg]; exact Nat.ne_of_gt (blk_lt (g := gb338) (o := .cells #[.int .i64 ((rd_T80 l2 x35_2).f0), .int .u64 ((rd_T80 l2 x35_2).f1)] 80 (0, 0)) (by refine Sh.pl ?_; refine blk_put (cs := #[.int .i64 ((rd_T80 l2 x35_2).f0), .int .u64 0]) ?_ 1 _ rfl; refine Sh.pl ?_; refine blk_put (cs := #[.int .i64 0, .int .u64 0]) ?_ 0 _ rfl; refine Sh.pl ?_; exact BK338.out)) : gb342 ≠ gb338)); clear HO_7; clear BK338; clear HB; have HO_7 := n0_; have BK338 := n1_; have HB := n2_; have BK342 := n3_; have GW342 := n4_; have GE342 := n5_; have NB338_342 := n6_; have NB342_338 := n7_; clear n0_ n1_ n2_ n3_ n4_ n5_ n6_ n7_; clear hb hbox hg; have hnb21 := NB342_338.out; have hnc21 := NB338_342.out; have hcz22_0 := Sh.bc BK342.out 0; have hfz22_0 := blk_frozen BK342.out 0; obtain ⟨Ao23, co23, eo23⟩ := Kd.R_slice HO_7.out; subst eo23))
          go_ret
          exact ⟨Sh.eR, Sh.bw⟩
         ·rw [if_neg c17] at H
          have c17b0 : (t341 == 0) = false := beq_eq_false_iff_ne.mpr c17
          have c17b1 : (t341 != 0) = true := bne_iff_ne.mpr c17
          obtain ⟨t343, A24, H⟩ := Sh.ba H
          by_cases c25 : t343 = true
          ·subst c25
           rw [if_pos rfl] at H
           by_cases c26 : (wrap64 ((x7_2.length : Int) - t339)) < 0
           ·rw [if_pos c26] at H
            have c26b0 := decide_eq_true c26
            clear c26
            obtain rfl := Option.some.inj H
            have p337 : 0 ≤ (x35_2 : Int) := Sh.od
            have q337 : x35_2 < (l2.length : Int) := Sh.od
            obtain ⟨ad337, e337, hx337_0, hx337_1⟩ := at_T80 HR2.out x35_2 p337 q337
            cases e337
            try replace hx337_0 := Sh.cw hx337_0
            try replace hx337_1 := Sh.cw hx337_1
            replace p337 := eq_true p337
            replace q337 := eq_true q337
            go_wp2_with (first | ((with_reducible refine Sh.d 9 ?_); (try (refine gate_guard (by rfl) ?_; dsimp only)); refine Sh.bx (N := 9) (cs := #[.int .i64 0, .int .u64 0]) (t := 80) (h := ?_); intro gb338 hg w27 hbox hb; replace HO_7 := am_ (Kd.R_below (Sh.rl HO_7.out) hb); have BK338 := am_ hbox; have GE338 := Sh.ag w hg; replace HB := Sh.hb hb; clear hb hbox hg; obtain ⟨hcz28_0, hcz28_1, hfz28_0, hfz28_1⟩ := Sh.b2 BK338.out) | ((with_reducible refine Sh.k 98 ?_); refine Sh.gD (some 42) Tryz.func98 #[.int .i64 ((rd_T80 l2 x35_2).f0)] (impl_operandsOf.calls k2 ((rd_T80 l2 x35_2).f0) t339 t340 t341 _ A16.out) fun nd => ?_) | ((with_reducible refine Sh.d 11 ?_); (try (refine gate_guard (by rfl) ?_; dsimp only)); refine Sh.bx (N := 11) (cs := #[.int .i64 0]) (t := 3) (h := ?_); intro gb342 hg w29 hbox hb; have n0_ := am_ (Kd.R_below (Kd.R_elderB (Sh.rl (Kd.R_mono (Kd.R_far (p := ⟨gb338, 1, none⟩) (Kd.R_far (p := ⟨gb338, 0, none⟩) (Kd.R_types HO_7.out BK338.out (by decide)) (fun _ hk => hk.2) (.int .i64 ((rd_T80 l2 x35_2).f0))) (fun _ hk => hk.2) (.int .u64 ((rd_T80 l2 x35_2).f1))) (fun _ h_ => h_.1))) gb342 (Nat.le_of_eq hg.symm)) hb); have n1_ := am_ (blk_below (g := gb338) (o := .cells #[.int .i64 ((rd_T80 l2 x35_2).f0), .int .u64 ((rd_T80 l2 x35_2).f1)] 80 (0, 0)) (by refine Sh.pl ?_; refine blk_put (cs := #[.int .i64 ((rd_T80 l2 x35_2).f0), .int .u64 0]) ?_ 1 _ rfl; refine Sh.pl ?_; refine blk_put (cs := #[.int .i64 0, .int .u64 0]) ?_ 0 _ rfl; refine Sh.pl ?_; exact BK338.out) hb); have n2_ := am_ (below_step Sh.bw hb); have n3_ := am_ hbox; have n4_ := am_ (Sh.gw (w := w) hg); have n5_ := am_ (Sh.gw (w := w) hg); have n6_ := am_ ((by rw [hg]; exact Nat.ne_of_lt (blk_lt (g := gb338) (o := .cells #[.int .i64 ((rd_T80 l2 x35_2).f0), .int .u64 ((rd_T80 l2 x35_2).f1)] 80 (0, 0)) (by refine Sh.pl ?_; refine blk_put (cs := #[.int .i64 ((rd_T80 l2 x35_2).f0), .int .u64 0]) ?_ 1 _ rfl; refine Sh.pl ?_; refine blk_put (cs := #[.int .i64 0, .int .u64 0]) ?_ 0 _ rfl; refine Sh.pl ?_; exact BK338.out)) : gb338 ≠ gb342)); have n7_ := am_ ((by rw [hg]; exact Nat.ne_of_gt (blk_lt (g := gb338) (o := .cells #[.int .i64 ((rd_T80 l2 x35_2).f0), .int .u64 ((rd_T80 l2 x35_2).f1)] 80 (0, 0)) (by refine Sh.pl ?_; refine blk_put (cs := #[.int .i64 ((rd_T80 l2 x35_2).f0), .int .u64 0]) ?_ 1 _ rfl; refine Sh.pl ?_; refine blk_put (cs := #[.int .i64 0, .int .u64 0]) ?_ 0 _ rfl; refine Sh.pl ?_; exact BK338.out)) : gb342 ≠ gb338)); clear HO_7; clear BK338; clear HB; have HO_7 := n0_; have BK338 := n1_; have HB := n2_; have BK342 := n3_; have GW342 := n4_; have GE342 := n5_; have NB338_342 := n6_; have NB342_338 := n7_; clear n0_ n1_ n2_ n3_ n4_ n5_ n6_ n7_; clear hb hbox hg; have hnb30 := NB342_338.out; have hnc30 := NB338_342.out; have hcz31_0 := Sh.bc BK342.out 0; have hfz31_0 := blk_frozen BK342.out 0; obtain ⟨Ao32, co32, eo32⟩ := Kd.R_slice HO_7.out; subst eo32; obtain ⟨hcz33_0, hcz33_1, hfz33_0, hfz33_1⟩ := Sh.b2 BK338.out) | (go_at_call 99; (with_reducible refine (impl_isLeafRight.calls a0 a1 ((rd_T80 l2 x35_2).f0) ((rd_T80 l2 x35_2).f1) true _ A24.out).mono ?_); rintro e w34 ⟨rfl, hb⟩; replace HO_7 := am_ (Kd.R_below (Sh.rl (Kd.R_mono (Kd.R_far (p := ⟨gb342, 0, none⟩) (Kd.R_mono HO_7.out (fun k_ hk => (⟨hk, hk.2⟩ : _ ∧ k_ ≠ gb342))) (fun _ hk => hk.2) (.int .i64 t340)) (fun _ h_ => h_.1))) hb); replace BK338 := am_ (blk_below (g := gb338) (o := .cells #[.int .i64 ((rd_T80 l2 x35_2).f0), .int .u64 ((rd_T80 l2 x35_2).f1)] 80 (0, 0)) (by refine Sh.pl ?_; refine blk_far ?_ NB338_342.out _; refine Sh.pl ?_; exact BK338.out) hb); replace BK342 := am_ (blk_below (g := gb342) (o := .cells #[.int .i64 t340] 3 (0, 0)) (by refine Sh.pl ?_; refine blk_put (cs := #[.int .i64 0]) ?_ 0 _ rfl; refine Sh.pl ?_; exact BK342.out) hb); replace HB := Sh.hb hb; (try clear hb); (try clear hb2); (try clear hk); (try clear hi)))
            go_ret
            exact ⟨Sh.eR, Sh.bw⟩
           ·rw [if_neg c26] at H
            have c26b0 := decide_eq_false c26
            clear c26
            obtain ⟨ji35, hj1⟩ : ∃ j_ : Int, (wrap64 ((x7_2.length : Int) - t339)) = j_ := ⟨_, rfl⟩
            replace H : (if 0 ≤ (ji35) then (if (ji35) ≤ (x7_2.length : Int) then ((slices_ContainsFunc_int_int_by_impl_GoodTerm_1.f (x7_2.drop ((ji35) : Int).toNat) t340).bind fun t348 => (if t348 = true then (some false) else ((some (x7_2.take ((ji35) : Int).toNat : List Int)).bind fun y349 => (if y349.length < 17592186044416 then (impl_GoodTerm.l0 k2 a0 a1 (y349 ++ [t341]) l2 (l2.length : Int) (wrap64 (x35_2 + 1))) else (none))))) else (none)) else (none)) = some r := by first | (rw [hj1] at H; exact H) | (simp only [hj1] at H ⊢; exact H)
            (try rw [hj1] at c26b0)
            (try rw [hj1] at A16)
            (try rw [hj1] at A24)
            have hji35w : (IntKind.i64.wrap ((x7_2.length : Int) - t339)) = ji35 := (i64_w _).trans hj1
            by_cases c36 : 0 ≤ (ji35)
            ·rw [if_pos c36] at H
             have c36b0 := eq_true c36
             have c36b1 := decide_eq_true c36
             clear c36
             by_cases c37 : (ji35) ≤ (x7_2.length : Int)
             ·rw [if_pos c37] at H
              have c37b0 := eq_true c37
              have c37b1 := decide_eq_true c37
              clear c37
              obtain ⟨y344, hy344⟩ : ∃ y_ : List Int, y_ = (x7_2.drop ((ji35) : Int).toNat) := ⟨_, rfl⟩
              replace H : ((slices_ContainsFunc_int_int_by_impl_GoodTerm_1.f y344 t340).bind fun t348 => (if t348 = true then (some false) else ((some (x7_2.take ((ji35) : Int).toNat : List Int)).bind fun y349 => (if y349.length < 17592186044416 then (impl_GoodTerm.l0 k2 a0 a1 (y349 ++ [t341]) l2 (l2.length : Int) (wrap64 (x35_2 + 1))) else (none))))) = some r := by first | (rw [hy344]; with_reducible exact H) | (have H2_ := (Option.bind_some _ _).symm.trans H; rw [hy344]; with_reducible exact H2_) | (have H2_ := (Option.bind_some _ _).symm.trans H; with_reducible exact H2_) | with_reducible exact H | (rw [hy344]; exact H) | exact H
              have Ny344 := am_ hy344
              clear hy344
              obtain ⟨t348, A38, H⟩ := Sh.ba H
              by_cases c39 : t348 = true
              ·subst c39
               rw [if_pos rfl] at H
               obtain rfl := Option.some.inj H
               have p337 : 0 ≤ (x35_2 : Int) := Sh.od
               have q337 : x35_2 < (l2.length : Int) := Sh.od
               obtain ⟨ad337, e337, hx337_0, hx337_1⟩ := at_T80 HR2.out x35_2 p337 q337
               cases e337
               try replace hx337_0 := Sh.cw hx337_0
               try replace hx337_1 := Sh.cw hx337_1
               replace p337 := eq_true p337
               replace q337 := eq_true q337
               go_wp2_with (first | ((with_reducible refine Sh.d 9 ?_); (try (refine gate_guard (by rfl) ?_; dsimp only)); refine Sh.bx (N := 9) (cs := #[.int .i64 0, .int .u64 0]) (t := 80) (h := ?_); intro gb338 hg w40 hbox hb; replace HO_7 := am_ (Kd.R_below (Sh.rl HO_7.out) hb); have BK338 := am_ hbox; have GE338 := Sh.ag w hg; replace HB := Sh.hb hb; clear hb hbox hg; obtain ⟨hcz41_0, hcz41_1, hfz41_0, hfz41_1⟩ := Sh.b2 BK338.out) | ((with_reducible refine Sh.k 98 ?_); refine Sh.gD (some 42) Tryz.func98 #[.int .i64 ((rd_T80 l2 x35_2).f0)] (impl_operandsOf.calls k2 ((rd_T80 l2 x35_2).f0) t339 t340 t341 _ A16.out) fun nd => ?_) | ((with_reducible refine Sh.d 11 ?_); (try (refine gate_guard (by rfl) ?_; dsimp only)); refine Sh.bx (N := 11) (cs := #[.int .i64 0]) (t := 3) (h := ?_); intro gb342 hg w42 hbox hb; have n0_ := am_ (Kd.R_below (Kd.R_elderB (Sh.rl (Kd.R_mono (Kd.R_far (p := ⟨gb338, 1, none⟩) (Kd.R_far (p := ⟨gb338, 0, none⟩) (Kd.R_types HO_7.out BK338.out (by decide)) (fun _ hk => hk.2) (.int .i64 ((rd_T80 l2 x35_2).f0))) (fun _ hk => hk.2) (.int .u64 ((rd_T80 l2 x35_2).f1))) (fun _ h_ => h_.1))) gb342 (Nat.le_of_eq hg.symm)) hb); have n1_ := am_ (blk_below (g := gb338) (o := .cells #[.int .i64 ((rd_T80 l2 x35_2).f0), .int .u64 ((rd_T80 l2 x35_2).f1)] 80 (0, 0)) (by refine Sh.pl ?_; refine blk_put (cs := #[.int .i64 ((rd_T80 l2 x35_2).f0), .int .u64 0]) ?_ 1 _ rfl; refine Sh.pl ?_; refine blk_put (cs := #[.int .i64 0, .int .u64 0]) ?_ 0 _ rfl; refine Sh.pl ?_; exact BK338.out) hb); have n2_ := am_ (below_step Sh.bw hb); have n3_ := am_ hbox; have n4_ := am_ (Sh.gw (w := w) hg); have n5_ := am_ (Sh.gw (w := w) hg); have n6_ := am_ ((by rw [hg]; exact Nat.ne_of_lt (blk_lt (g := gb338) (o := .cells #[.int .i64 ((rd_T80 l2 x35_2).f0), .int .u64 ((rd_T80 l2 x35_2).f1)] 80 (0, 0)) (by refine Sh.pl ?_; refine blk_put (cs := #[.int .i64 ((rd_T80 l2 x35_2).f0), .int .u64 0]) ?_ 1 _ rfl; refine Sh.pl ?_; refine blk_put (cs := #[.int .i64 0, .int .u64 0]) ?_ 0 _ rfl; refine Sh.pl ?_; exact BK338.out)) : gb338 ≠ gb342)); have n7_ := am_ ((by rw [hg]; exact Nat.ne_of_gt (blk_lt (g := gb338) (o := .cells #[.int .i64 ((rd_T80 l2 x35_2).f0), .int .u64 ((rd_T80 l2 x35_2).f1)] 80 (0, 0)) (by refine Sh.pl ?_; refine blk_put (cs := #[.int .i64 ((rd_T80 l2 x35_2).f0), .int .u64 0]) ?_ 1 _ rfl; refine Sh.pl ?_; refine blk_put (cs := #[.int .i64 0, .int .u64 0]) ?_ 0 _ rfl; refine Sh.pl ?_; exact BK338.out)) : gb342 ≠ gb338)); clear HO_7; clear BK338; clear HB; have HO_7 := n0_; have BK338 := n1_; have HB := n2_; have BK342 := n3_; have GW342 := n4_; have GE342 := n5_; have NB338_342 := n6_; have NB342_338 := n7_; clear n0_ n1_ n2_ n3_ n4_ n5_ n6_ n7_; clear hb hbox hg; have hnb43 := NB342_338.out; have hnc43 := NB338_342.out; have hcz44_0 := Sh.bc BK342.out 0; have hfz44_0 := blk_frozen BK342.out 0; obtain ⟨Ao45, co45, eo45⟩ := Kd.R_slice HO_7.out; subst eo45; obtain ⟨hcz46_0, hcz46_1, hfz46_0, hfz46_1⟩ := Sh.b2 BK338.out) | (go_at_call 99; (with_reducible refine (impl_isLeafRight.calls a0 a1 ((rd_T80 l2 x35_2).f0) ((rd_T80 l2 x35_2).f1) true _ A24.out).mono ?_); rintro e w47 ⟨rfl, hb⟩; replace HO_7 := am_ (Kd.R_below (Sh.rl (Kd.R_mono (Kd.R_far (p := ⟨gb342, 0, none⟩) (Kd.R_mono HO_7.out (fun k_ hk => (⟨hk, hk.2⟩ : _ ∧ k_ ≠ gb342))) (fun _ hk => hk.2) (.int .i64 t340)) (fun _ h_ => h_.1))) hb); replace BK338 := am_ (blk_below (g := gb338) (o := .cells #[.int .i64 ((rd_T80 l2 x35_2).f0), .int .u64 ((rd_T80 l2 x35_2).f1)] 80 (0, 0)) (by refine Sh.pl ?_; refine blk_far ?_ NB338_342.out _; refine Sh.pl ?_; exact BK338.out) hb); replace BK342 := am_ (blk_below (g := gb342) (o := .cells #[.int .i64 t340] 3 (0, 0)) (by refine Sh.pl ?_; refine blk_put (cs := #[.int .i64 0]) ?_ 0 _ rfl; refine Sh.pl ?_; exact BK342.out) hb); replace HB := Sh.hb hb; (try clear hb); (try clear hb2); (try clear hk); (try clear hi); have q48 : ((ji35) : Int) ≤ ((x7_2.length : Int) : Int) := Sh.od; obtain ⟨i048, hi048, _, hsz48, _⟩ := info_parts info3; have hroom48 : x7_2.length ≤ co45 := (Kd.R_reads' HO_7.out).2.1; have hC48 : Kd.C (Kd.int .i64) _ Ao45 x7_2.length x7_2 := (Kd.R_reads' HO_7.out).2.2; have q048 : (0 : Int) ≤ ((ji35) : Int) := Sh.od; have hcut48 := cut_from (P := Tryz.prog) 27 3 .i64 Tryz.underlying27 hi048 1 hsz48 Ao45 x7_2.length co45 (ji35) q048 q48; have hr48 := Kd.C_drop (m := ((ji35) : Int).toNat) (c := co45) hC48 (by omega) hroom48; obtain ⟨A48, hA48⟩ : ∃ A1, A1 = (if co45 = ((ji35) : Int).toNat then Ao45 else (Ao45 : Option Addr).map (·.add (((ji35) : Int).toNat * 1))) := ⟨_, rfl⟩; obtain ⟨c48, hc48⟩ : ∃ c1, c1 = co45 - ((ji35) : Int).toNat := ⟨_, rfl⟩; have hy48 : y344.length = x7_2.length - ((ji35) : Int).toNat := (by rw [Ny344.out, List.length_drop] <;> omega); rw [show (x7_2).drop ((ji35) : Int).toNat = y344 from Ny344.out.symm] at hr48; replace hr48 : Kd.C (Kd.int .i64) _ A48 y344.length y344 := (by rw [hA48]; exact hr48); rw [← hy48, ← hA48, ← hc48] at hcut48; have HR347 := am_ hr48; have HC347 := am_ (show y344.length ≤ c48 from by rw [hy48, hc48]; exact Nat.sub_le_sub_right hroom48 _); clear hr48 hC48 hroom48 hi048 hsz48 hc48; have KY48 := am_ hy48; have KA48 := am_ hA48; clear hy48 hA48; have KL48 := am_ (show ((ji35) : Int).toNat ≤ x7_2.length from by omega); replace q48 := eq_true q48) | (go_at_call 100; (with_reducible refine (slices_ContainsFunc_int_int_by_impl_GoodTerm_1.calls _ _ y344 gb342 t340 true _ ?side1 ?side2 ?side3 A38.out).mono ?_); (case side1 => repeat (first | exact (by repeat (first | (with_reducible exact HR347.out) | (with_reducible first | refine Kd.C_alloc ?_ _ | refine Kd.C_drewN ?_ _ | refine Kd.C_drew ?_) | exact HR347.out)) | (with_reducible first | refine Kd.C_alloc ?_ _ | refine Kd.C_drewN ?_ _ | refine Kd.C_drew ?_))); (case side2 => exact HC347.out); (case side3 => refine Sh.pl ?_; exact BK342.out); rintro e w49 ⟨rfl, hb⟩; replace HO_7 := am_ (Kd.R_below (Sh.rl HO_7.out) hb); replace BK338 := Sh.ab BK338 hb; replace BK342 := Sh.ab BK342 hb; replace HR347 := am_ (Kd.C_below (by repeat (first | (with_reducible exact HR347.out) | (with_reducible first | refine Kd.C_alloc ?_ _ | refine Kd.C_drewN ?_ _ | refine Kd.C_drew ?_) | exact HR347.out)) hb); replace HB := Sh.hb hb; (try clear hb); (try clear hb2); (try clear hk); (try clear hi)))
               go_ret
               exact ⟨by first | rfl | (simp [errW_none, errW_some] <;> rfl) | (simp only [← hj1]; first | rfl | (simp [errW_none, errW_some] <;> rfl)) | (simp [*, errW_none, errW_some] <;> rfl), Sh.bw⟩
              ·replace c39 := Bool.eq_false_iff.mpr c39
               subst c39
               rw [Sh.nf] at H
               have c50b0 := eq_true (of_decide_eq_true (by first | (with_reducible assumption) | assumption) : (ji35) ≤ (x7_2.length : Int))
               obtain ⟨y349, hy349⟩ : ∃ y_ : List Int, y_ = (x7_2.take ((ji35) : Int).toNat) := ⟨_, rfl⟩
               replace H : (if y349.length < 17592186044416 then (impl_GoodTerm.l0 k2 a0 a1 (y349 ++ [t341]) l2 (l2.length : Int) (wrap64 (x35_2 + 1))) else (none)) = some r := by first | (rw [hy349]; with_reducible exact H) | (have H2_ := (Option.bind_some _ _).symm.trans H; rw [hy349]; with_reducible exact H2_) | (have H2_ := (Option.bind_some _ _).symm.trans H; with_reducible exact H2_) | with_reducible exact H | (rw [hy349]; exact H) | exact H
               have Ny349 := am_ hy349
               clear hy349
               by_cases c51 : y349.length < 17592186044416
               ·rw [if_pos c51] at H
                have LMc51 := am_ c51
                clear c51
                obtain ⟨y352, hy352⟩ : ∃ y_ : List Int, y_ = (y349 ++ [t341]) := ⟨_, rfl⟩
                replace H : (impl_GoodTerm.l0 k2 a0 a1 y352 l2 (l2.length : Int) (wrap64 (x35_2 + 1))) = some r := by first | (rw [hy352]; with_reducible exact H) | (have H2_ := (Option.bind_some _ _).symm.trans H; rw [hy352]; with_reducible exact H2_) | (have H2_ := (Option.bind_some _ _).symm.trans H; with_reducible exact H2_) | with_reducible exact H | (rw [hy352]; exact H) | exact H
                have Ny352 := am_ hy352
                clear hy352
                have H' := am_ H
                clear H
                have p337 : 0 ≤ (x35_2 : Int) := Sh.od
                have q337 : x35_2 < (l2.length : Int) := Sh.od
                obtain ⟨ad337, e337, hx337_0, hx337_1⟩ := at_T80 HR2.out x35_2 p337 q337
                cases e337
                try replace hx337_0 := Sh.cw hx337_0
                try replace hx337_1 := Sh.cw hx337_1
                replace p337 := eq_true p337
                replace q337 := eq_true q337
                go_wp2_with (first | ((with_reducible refine Sh.d 9 ?_); (try (refine gate_guard (by rfl) ?_; dsimp only)); refine Sh.bx (N := 9) (cs := #[.int .i64 0, .int .u64 0]) (t := 80) (h := ?_); intro gb338 hg w52 hbox hb; replace HO_7 := am_ (Kd.R_below (Sh.rl HO_7.out) hb); have BK338 := am_ hbox; have GE338 := Sh.ag w hg; replace HB := Sh.hb hb; clear hb hbox hg; obtain ⟨hcz53_0, hcz53_1, hfz53_0, hfz53_1⟩ := Sh.b2 BK338.out) | ((with_reducible refine Sh.k 98 ?_); refine Sh.gD (some 42) Tryz.func98 #[.int .i64 ((rd_T80 l2 x35_2).f0)] (impl_operandsOf.calls k2 ((rd_T80 l2 x35_2).f0) t339 t340 t341 _ A16.out) fun nd => ?_) | ((with_reducible refine Sh.d 11 ?_); (try (refine gate_guard (by rfl) ?_; dsimp only)); refine Sh.bx (N := 11) (cs := #[.int .i64 0]) (t := 3) (h := ?_); intro gb342 hg w54 hbox hb; have n0_ := am_ (Kd.R_below (Kd.R_elderB (Sh.rl (Kd.R_mono (Kd.R_far (p := ⟨gb338, 1, none⟩) (Kd.R_far (p := ⟨gb338, 0, none⟩) (Kd.R_types HO_7.out BK338.out (by decide)) (fun _ hk => hk.2) (.int .i64 ((rd_T80 l2 x35_2).f0))) (fun _ hk => hk.2) (.int .u64 ((rd_T80 l2 x35_2).f1))) (fun _ h_ => h_.1))) gb342 (Nat.le_of_eq hg.symm)) hb); have n1_ := am_ (blk_below (g := gb338) (o := .cells #[.int .i64 ((rd_T80 l2 x35_2).f0), .int .u64 ((rd_T80 l2 x35_2).f1)] 80 (0, 0)) (by refine Sh.pl ?_; refine blk_put (cs := #[.int .i64 ((rd_T80 l2 x35_2).f0), .int .u64 0]) ?_ 1 _ rfl; refine Sh.pl ?_; refine blk_put (cs := #[.int .i64 0, .int .u64 0]) ?_ 0 _ rfl; refine Sh.pl ?_; exact BK338.out) hb); have n2_ := am_ (below_step Sh.bw hb); have n3_ := am_ hbox; have n4_ := am_ (Sh.gw (w := w) hg); have n5_ := am_ (Sh.gw (w := w) hg); have n6_ := am_ ((by rw [hg]; exact Nat.ne_of_lt (blk_lt (g := gb338) (o := .cells #[.int .i64 ((rd_T80 l2 x35_2).f0), .int .u64 ((rd_T80 l2 x35_2).f1)] 80 (0, 0)) (by refine Sh.pl ?_; refine blk_put (cs := #[.int .i64 ((rd_T80 l2 x35_2).f0), .int .u64 0]) ?_ 1 _ rfl; refine Sh.pl ?_; refine blk_put (cs := #[.int .i64 0, .int .u64 0]) ?_ 0 _ rfl; refine Sh.pl ?_; exact BK338.out)) : gb338 ≠ gb342)); have n7_ := am_ ((by rw [hg]; exact Nat.ne_of_gt (blk_lt (g := gb338) (o := .cells #[.int .i64 ((rd_T80 l2 x35_2).f0), .int .u64 ((rd_T80 l2 x35_2).f1)] 80 (0, 0)) (by refine Sh.pl ?_; refine blk_put (cs := #[.int .i64 ((rd_T80 l2 x35_2).f0), .int .u64 0]) ?_ 1 _ rfl; refine Sh.pl ?_; refine blk_put (cs := #[.int .i64 0, .int .u64 0]) ?_ 0 _ rfl; refine Sh.pl ?_; exact BK338.out)) : gb342 ≠ gb338)); clear HO_7; clear BK338; clear HB; have HO_7 := n0_; have BK338 := n1_; have HB := n2_; have BK342 := n3_; have GW342 := n4_; have GE342 := n5_; have NB338_342 := n6_; have NB342_338 := n7_; clear n0_ n1_ n2_ n3_ n4_ n5_ n6_ n7_; clear hb hbox hg; have hnb55 := NB342_338.out; have hnc55 := NB338_342.out; have hcz56_0 := Sh.bc BK342.out 0; have hfz56_0 := blk_frozen BK342.out 0; obtain ⟨Ao57, co57, eo57⟩ := Kd.R_slice HO_7.out; subst eo57; obtain ⟨hcz58_0, hcz58_1, hfz58_0, hfz58_1⟩ := Sh.b2 BK338.out) | (go_at_call 99; (with_reducible refine (impl_isLeafRight.calls a0 a1 ((rd_T80 l2 x35_2).f0) ((rd_T80 l2 x35_2).f1) true _ A24.out).mono ?_); rintro e w59 ⟨rfl, hb⟩; replace HO_7 := am_ (Kd.R_below (Sh.rl (Kd.R_mono (Kd.R_far (p := ⟨gb342, 0, none⟩) (Kd.R_mono HO_7.out (fun k_ hk => (⟨hk, hk.2⟩ : _ ∧ k_ ≠ gb342))) (fun _ hk => hk.2) (.int .i64 t340)) (fun _ h_ => h_.1))) hb); replace BK338 := am_ (blk_below (g := gb338) (o := .cells #[.int .i64 ((rd_T80 l2 x35_2).f0), .int .u64 ((rd_T80 l2 x35_2).f1)] 80 (0, 0)) (by refine Sh.pl ?_; refine blk_far ?_ NB338_342.out _; refine Sh.pl ?_; exact BK338.out) hb); replace BK342 := am_ (blk_below (g := gb342) (o := .cells #[.int .i64 t340] 3 (0, 0)) (by refine Sh.pl ?_; refine blk_put (cs := #[.int .i64 0]) ?_ 0 _ rfl; refine Sh.pl ?_; exact BK342.out) hb); replace HB := Sh.hb hb; (try clear hb); (try clear hb2); (try clear hk); (try clear hi); have q60 : ((ji35) : Int) ≤ ((x7_2.length : Int) : Int) := Sh.od; obtain ⟨i060, hi060, _, hsz60, _⟩ := info_parts info3; have hroom60 : x7_2.length ≤ co57 := (Kd.R_reads' HO_7.out).2.1; have hC60 : Kd.C (Kd.int .i64) _ Ao57 x7_2.length x7_2 := (Kd.R_reads' HO_7.out).2.2; have q060 : (0 : Int) ≤ ((ji35) : Int) := Sh.od; have hcut60 := cut_from (P := Tryz.prog) 27 3 .i64 Tryz.underlying27 hi060 1 hsz60 Ao57 x7_2.length co57 (ji35) q060 q60; have hr60 := Kd.C_drop (m := ((ji35) : Int).toNat) (c := co57) hC60 (by omega) hroom60; obtain ⟨A60, hA60⟩ : ∃ A1, A1 = (if co57 = ((ji35) : Int).toNat then Ao57 else (Ao57 : Option Addr).map (·.add (((ji35) : Int).toNat * 1))) := ⟨_, rfl⟩; obtain ⟨c60, hc60⟩ : ∃ c1, c1 = co57 - ((ji35) : Int).toNat := ⟨_, rfl⟩; have hy60 : y344.length = x7_2.length - ((ji35) : Int).toNat := (by rw [Ny344.out, List.length_drop] <;> omega); rw [show (x7_2).drop ((ji35) : Int).toNat = y344 from Ny344.out.symm] at hr60; replace hr60 : Kd.C (Kd.int .i64) _ A60 y344.length y344 := (by rw [hA60]; exact hr60); rw [← hy60, ← hA60, ← hc60] at hcut60; have HR347 := am_ hr60; have HC347 := am_ (show y344.length ≤ c60 from by rw [hy60, hc60]; exact Nat.sub_le_sub_right hroom60 _); clear hr60 hC60 hroom60 hi060 hsz60 hc60; have KY60 := am_ hy60; have KA60 := am_ hA60; clear hy60 hA60; have KL60 := am_ (show ((ji35) : Int).toNat ≤ x7_2.length from by omega); replace q60 := eq_true q60) | (go_at_call 100; (with_reducible refine (slices_ContainsFunc_int_int_by_impl_GoodTerm_1.calls _ _ y344 gb342 t340 false _ ?side1 ?side2 ?side3 A38.out).mono ?_); (case side1 => repeat (first | exact (by repeat (first | (with_reducible exact HR347.out) | (with_reducible first | refine Kd.C_alloc ?_ _ | refine Kd.C_drewN ?_ _ | refine Kd.C_drew ?_) | exact HR347.out)) | (with_reducible first | refine Kd.C_alloc ?_ _ | refine Kd.C_drewN ?_ _ | refine Kd.C_drew ?_))); (case side2 => exact HC347.out); (case side3 => refine Sh.pl ?_; exact BK342.out); rintro e w61 ⟨rfl, hb⟩; replace HO_7 := am_ (Kd.R_below (Sh.rl HO_7.out) hb); replace BK338 := Sh.ab BK338 hb; replace BK342 := Sh.ab BK342 hb; replace HR347 := am_ (Kd.C_below (by repeat (first | (with_reducible exact HR347.out) | (with_reducible first | refine Kd.C_alloc ?_ _ | refine Kd.C_drewN ?_ _ | refine Kd.C_drew ?_) | exact HR347.out)) hb); replace HB := Sh.hb hb; (try clear hb); (try clear hb2); (try clear hk); (try clear hi); have q62 : ((ji35) : Int) ≤ ((x7_2.length : Int) : Int) := Sh.od; obtain ⟨i062, hi062, _, hsz62, _⟩ := info_parts info3; have hcut62 := cut_to (P := Tryz.prog) 27 3 .i64 Tryz.underlying27 hi062 Ao57 x7_2.length co57 (ji35) (of_decide_eq_true (by first | (with_reducible assumption) | assumption)) q62 (Kd.R_reads' HO_7.out).2.1; have hr62 := Kd.R_take (m := ((ji35) : Int).toNat) HO_7.out (by omega); have hy62 : y349.length = ((ji35) : Int).toNat := (by rw [Ny349.out, List.length_take]; omega); rw [← Ny349.out] at hr62; rw [← hy62] at hr62 hcut62; clear hy62 hi062 hsz62 HO_7; have HO351 := am_ hr62; clear hr62; replace q62 := eq_true q62) | ((with_reducible refine gate_builtin (b := .append) (xs := #[.tmp 72, .tmp 74]) rfl ?_); (try (refine gate_guard (by rfl) ?_; dsimp only)); at_builtin; refine Kd.R_append (Kd.int .i64) (w0 := w) w.heap.size rfl (.tmp 72) (.tmp 74) 27 3 (.int .i64 0) 8 rfl Tryz.underlying27 info3 rfl (by decide) (by omega) (.slice Ao57 y349.length co57) y349 t341 [.int .i64 t341] (fun k_ => k_ ≠ gb342) (fun _ => False) rfl rfl ?aP (fun _ hk => hk.elim) ?aF ?aO ?aB ?aS ?aL ?_; (case aP => exact rfl); (case aB => exact Sh.bw); (case aF => exact (fun k_ hk => Kd.freshB (g := gb342) (o := .cells #[.int .i64 t340] 3 (0, 0)) (Sh.pl BK342.out) k_ hk)); (case aO => exact (Sh.rl (Kd.R_mono HO351.out (fun _ hk => hk.2)))); (case aS => exact (below_size Sh.bw)); (case aL => have := LMc51.out; omega); intro v353 w63 ho hb hg hat; rw [← Ny352.out] at ho; have n0_ := am_ (blk_grown (g := gb338) (o := .cells #[.int .i64 ((rd_T80 l2 x35_2).f0), .int .u64 ((rd_T80 l2 x35_2).f1)] 80 (0, 0)) (Sh.pl BK338.out) hg (Kd.R_ne HO351.out BK338.out (by decide))); have n1_ := am_ (blk_grown (g := gb342) (o := .cells #[.int .i64 t340] 3 (0, 0)) (Sh.pl BK342.out) hg (Kd.R_away HO351.out (fun _ hk => hk.2))); have n2_ := am_ hb; have n3_ := am_ ho; clear BK338; clear BK342; clear HB; clear HO351; have BK338 := n0_; have BK342 := n1_; have HB := n2_; have HO354 := n3_; clear n0_ n1_ n2_ n3_; clear ho hb hg hat))
                go_roundg k2
                case measure => have := HJ3.out; have := HK2.out; omega
                case rel => exact ⟨(y352), (wrap64 (x35_2 + 1)), (Sh.es), H', ⟨by have := HJ3.out; have := HK2.out; omega⟩, ⟨Sh.rl (Kd.R_mono HO354.out (fun _ hk => trivial))⟩, ⟨Sh.bw⟩⟩
               ·rw [if_neg c51] at H
                exact absurd H (by simp)
             ·rw [if_neg c37] at H
              exact absurd H (by simp)
            ·rw [if_neg c36] at H
             exact absurd H (by simp)
          ·replace c25 := Bool.eq_false_iff.mpr c25
           subst c25
           rw [Sh.nf] at H
           obtain rfl := Option.some.inj H
           have p337 : 0 ≤ (x35_2 : Int) := Sh.od
           have q337 : x35_2 < (l2.length : Int) := Sh.od
           obtain ⟨ad337, e337, hx337_0, hx337_1⟩ := at_T80 HR2.out x35_2 p337 q337
           cases e337
           try replace hx337_0 := Sh.cw hx337_0
           try replace hx337_1 := Sh.cw hx337_1
           replace p337 := eq_true p337
           replace q337 := eq_true q337
           go_wp2_with (first | ((with_reducible refine Sh.d 9 ?_); (try (refine gate_guard (by rfl) ?_; dsimp only)); refine Sh.bx (N := 9) (cs := #[.int .i64 0, .int .u64 0]) (t := 80) (h := ?_); intro gb338 hg w64 hbox hb; replace HO_7 := am_ (Kd.R_below (Sh.rl HO_7.out) hb); have BK338 := am_ hbox; have GE338 := Sh.ag w hg; replace HB := Sh.hb hb; clear hb hbox hg; obtain ⟨hcz65_0, hcz65_1, hfz65_0, hfz65_1⟩ := Sh.b2 BK338.out) | ((with_reducible refine Sh.k 98 ?_); refine Sh.gD (some 42) Tryz.func98 #[.int .i64 ((rd_T80 l2 x35_2).f0)] (impl_operandsOf.calls k2 ((rd_T80 l2 x35_2).f0) t339 t340 t341 _ A16.out) fun nd => ?_) | ((with_reducible refine Sh.d 11 ?_); (try (refine gate_guard (by rfl) ?_; dsimp only)); refine Sh.bx (N := 11) (cs := #[.int .i64 0]) (t := 3) (h := ?_); intro gb342 hg w66 hbox hb; have n0_ := am_ (Kd.R_below (Kd.R_elderB (Sh.rl (Kd.R_mono (Kd.R_far (p := ⟨gb338, 1, none⟩) (Kd.R_far (p := ⟨gb338, 0, none⟩) (Kd.R_types HO_7.out BK338.out (by decide)) (fun _ hk => hk.2) (.int .i64 ((rd_T80 l2 x35_2).f0))) (fun _ hk => hk.2) (.int .u64 ((rd_T80 l2 x35_2).f1))) (fun _ h_ => h_.1))) gb342 (Nat.le_of_eq hg.symm)) hb); have n1_ := am_ (blk_below (g := gb338) (o := .cells #[.int .i64 ((rd_T80 l2 x35_2).f0), .int .u64 ((rd_T80 l2 x35_2).f1)] 80 (0, 0)) (by refine Sh.pl ?_; refine blk_put (cs := #[.int .i64 ((rd_T80 l2 x35_2).f0), .int .u64 0]) ?_ 1 _ rfl; refine Sh.pl ?_; refine blk_put (cs := #[.int .i64 0, .int .u64 0]) ?_ 0 _ rfl; refine Sh.pl ?_; exact BK338.out) hb); have n2_ := am_ (below_step Sh.bw hb); have n3_ := am_ hbox; have n4_ := am_ (Sh.gw (w := w) hg); have n5_ := am_ (Sh.gw (w := w) hg); have n6_ := am_ ((by rw [hg]; exact Nat.ne_of_lt (blk_lt (g := gb338) (o := .cells #[.int .i64 ((rd_T80 l2 x35_2).f0), .int .u64 ((rd_T80 l2 x35_2).f1)] 80 (0, 0)) (by refine Sh.pl ?_; refine blk_put (cs := #[.int .i64 ((rd_T80 l2 x35_2).f0), .int .u64 0]) ?_ 1 _ rfl; refine Sh.pl ?_; refine blk_put (cs := #[.int .i64 0, .int .u64 0]) ?_ 0 _ rfl; refine Sh.pl ?_; exact BK338.out)) : gb338 ≠ gb342)); have n7_ := am_ ((by rw [hg]; exact Nat.ne_of_gt (blk_lt (g := gb338) (o := .cells #[.int .i64 ((rd_T80 l2 x35_2).f0), .int .u64 ((rd_T80 l2 x35_2).f1)] 80 (0, 0)) (by refine Sh.pl ?_; refine blk_put (cs := #[.int .i64 ((rd_T80 l2 x35_2).f0), .int .u64 0]) ?_ 1 _ rfl; refine Sh.pl ?_; refine blk_put (cs := #[.int .i64 0, .int .u64 0]) ?_ 0 _ rfl; refine Sh.pl ?_; exact BK338.out)) : gb342 ≠ gb338)); clear HO_7; clear BK338; clear HB; have HO_7 := n0_; have BK338 := n1_; have HB := n2_; have BK342 := n3_; have GW342 := n4_; have GE342 := n5_; have NB338_342 := n6_; have NB342_338 := n7_; clear n0_ n1_ n2_ n3_ n4_ n5_ n6_ n7_; clear hb hbox hg; have hnb67 := NB342_338.out; have hnc67 := NB338_342.out; have hcz68_0 := Sh.bc BK342.out 0; have hfz68_0 := blk_frozen BK342.out 0; obtain ⟨Ao69, co69, eo69⟩ := Kd.R_slice HO_7.out; subst eo69; obtain ⟨hcz70_0, hcz70_1, hfz70_0, hfz70_1⟩ := Sh.b2 BK338.out) | (go_at_call 99; (with_reducible refine (impl_isLeafRight.calls a0 a1 ((rd_T80 l2 x35_2).f0) ((rd_T80 l2 x35_2).f1) false _ A24.out).mono ?_); rintro e w71 ⟨rfl, hb⟩; replace HO_7 := am_ (Kd.R_below (Sh.rl (Kd.R_mono (Kd.R_far (p := ⟨gb342, 0, none⟩) (Kd.R_mono HO_7.out (fun k_ hk => (⟨hk, hk.2⟩ : _ ∧ k_ ≠ gb342))) (fun _ hk => hk.2) (.int .i64 t340)) (fun _ h_ => h_.1))) hb); replace BK338 := am_ (blk_below (g := gb338) (o := .cells #[.int .i64 ((rd_T80 l2 x35_2).f0), .int .u64 ((rd_T80 l2 x35_2).f1)] 80 (0, 0)) (by refine Sh.pl ?_; refine blk_far ?_ NB338_342.out _; refine Sh.pl ?_; exact BK338.out) hb); replace BK342 := am_ (blk_below (g := gb342) (o := .cells #[.int .i64 t340] 3 (0, 0)) (by refine Sh.pl ?_; refine blk_put (cs := #[.int .i64 0]) ?_ 0 _ rfl; refine Sh.pl ?_; exact BK342.out) hb); replace HB := Sh.hb hb; (try clear hb); (try clear hb2); (try clear hk); (try clear hi)))
           go_ret
           exact ⟨Sh.eR, Sh.bw⟩
        ·rw [if_neg c15] at H
         exact absurd H (by simp)
       ·rw [if_neg c14] at H
        exact absurd H (by simp)
      ·rw [if_neg c13] at H
       have c13b0 := decide_eq_false c13
       clear c13
       obtain rfl := Option.some.inj H
       obtain ⟨Ao72, co72, eo72⟩ := Kd.R_slice HO_7.out
       subst eo72
       go_wp2
       go_ret
       exact ⟨Sh.eR, Sh.bw⟩
def impl_kindOf.f (k : Nat) (l0 : List (S80)) : Option (Int) := if 0 ≤ (wrap64 ((l0.length : Int) - 1)) then (if (wrap64 ((l0.length : Int) - 1)) < (l0.length : Int) then ((impl_operandsOf.f k ((rd_T80 l0 (wrap64 ((l0.length : Int) - 1))).f0)).bind fun bt356 => (some bt356.2.2)) else (none)) else (none)
theorem impl_kindOf.mono : ∀ a0 k, LeO (impl_kindOf.f k a0) (impl_kindOf.f (k + 1) a0) := by
 intro a0 k
 unfold impl_kindOf.f
 repeat' with_reducible first | apply impl_operandsOf.mono | exact LeO.refl _ | exact LeO.none _ | apply LeO.ite | refine LeO.bind ?_ fun _ => ?_
theorem impl_kindOf.calls (k : Nat) (A0 : Option Addr) (c0 : Nat) (l0 : List (S80)) (r : Int) (w : World) (hr0 : Kd.C k80 w A0 l0.length l0) (hc0 : l0.length ≤ c0) (h : impl_kindOf.f k l0 = some r) :
  Calls Tryz.prog 92 #[.slice A0 l0.length c0] w fun e w' => e = .returned (.int .i64 r) ∧ Drawn0 w w' := by
 have HR0 := am_ hr0
 have HC0 := am_ hc0
 clear hr0 hc0
 have H := h
 clear h
 unfold impl_kindOf.f at H
 obtain ⟨ji2, hj1⟩ : ∃ j_ : Int, (wrap64 ((l0.length : Int) - 1)) = j_ := ⟨_, rfl⟩
 replace H : (if 0 ≤ (ji2) then (if (ji2) < (l0.length : Int) then ((impl_operandsOf.f k ((rd_T80 l0 (ji2)).f0)).bind fun bt356 => (some bt356.2.2)) else (none)) else (none)) = some r := by first | (rw [hj1] at H; exact H) | (simp only [hj1] at H ⊢; exact H)
 have hji2w : (IntKind.i64.wrap ((l0.length : Int) - 1)) = ji2 := (i64_w _).trans hj1
 by_cases c3 : 0 ≤ (ji2)
 ·rw [if_pos c3] at H
  have c3b0 := decide_eq_true c3
  clear c3
  by_cases c4 : (ji2) < (l0.length : Int)
  ·rw [if_pos c4] at H
   have c4b0 := decide_eq_true c4
   clear c4
   obtain ⟨⟨t356, t357, t358⟩, A50, H⟩ := Sh.bd H
   have A5 := am_ A50
   clear A50
   obtain rfl := Option.some.inj H
   have p355 : 0 ≤ ((ji2) : Int) := Sh.od
   have q355 : (ji2) < (l0.length : Int) := Sh.od
   obtain ⟨ad355, e355, hx355_0, hx355_1⟩ := at_T80 HR0.out (ji2) p355 q355
   cases e355
   replace p355 := eq_true p355
   replace q355 := eq_true q355
   go_enter Tryz.func92, Tryz.ntmps92
   go_wp2_with (first | ((with_reducible refine Sh.k 98 ?_); refine goesL_ (some 14) rfl rfl Tryz.func98 (by kernel_rfl) rfl #[.int .i64 ((rd_T80 l0 (ji2)).f0)] rfl (by (try simp only [List.map_toArray, List.map_cons, List.map_nil]); first | done | (simp only [hj1]; rfl) | rfl | (simp only [List.length_drop, List.length_take]; rfl)) ?_; (with_reducible refine (impl_operandsOf.calls k ((rd_T80 l0 (ji2)).f0) t356 t357 t358 _ A5.out).mono ?_); rintro e w' ⟨rfl, ⟨nd, rfl⟩⟩; refine ⟨_, rfl, ?_⟩))
   go_ret
   exact ⟨by first | rfl | (simp; done) | (simp only [← hj1] <;> (first | rfl | simp)) | (simp [*]; done), Sh.dr⟩
  ·rw [if_neg c4] at H
   exact absurd H (by simp)
 ·rw [if_neg c3] at H
  exact absurd H (by simp)
def impl_isTermOf.f (k : Nat) (a0 : Int) (a1 : Int) (l2 : List (S80)) (a3 : Int) : Option (Bool) := (impl_GoodTerm.f k a0 a1 l2).bind fun t359 => (if t359 = true then ((impl_kindOf.f k l2).bind fun t360 => (some (t360 == a3))) else (some false))
theorem impl_isTermOf.mono : ∀ a0 a1 a2 a3 k, LeO (impl_isTermOf.f k a0 a1 a2 a3) (impl_isTermOf.f (k + 1) a0 a1 a2 a3) := by
 intro a0 a1 a2 a3 k
 unfold impl_isTermOf.f
 repeat' with_reducible first | apply impl_GoodTerm.mono | apply impl_kindOf.mono | exact LeO.refl _ | exact LeO.none _ | apply LeO.ite | refine LeO.bind ?_ fun _ => ?_
theorem impl_isTermOf.calls (k : Nat) (a0 : Int) (a1 : Int) (A2 : Option Addr) (c2 : Nat) (l2 : List (S80)) (a3 : Int) (r : Bool) (w : World) (hr2 : Kd.C k80 w A2 l2.length l2) (hc2 : l2.length ≤ c2) (h : impl_isTermOf.f k a0 a1 l2 a3 = some r) :
  Calls Tryz.prog 81 #[.int .i64 a0, .int .i64 a1, .slice A2 l2.length c2, .int .i64 a3] w fun e w' => e = .returned (.bool r) ∧ Below w.heap.size w w' := by
 have HR2 := am_ hr2
 have HC2 := am_ hc2
 clear hr2 hc2
 have HB := am_ (Below.refl w.heap.size w)
 have H := h
 clear h
 unfold impl_isTermOf.f at H
 obtain ⟨t359, A5, H⟩ := Sh.ba H
 by_cases c6 : t359 = true
 ·subst c6
  rw [if_pos rfl] at H
  obtain ⟨t360, A7, H⟩ := Sh.ba H
  obtain rfl := Option.some.inj H
  go_enter Tryz.func81, Tryz.ntmps81
  go_wp2_with (first | ((with_reducible refine Sh.k 91 ?_); refine Sh.gL (some 12) Tryz.func91 #[.int .i64 a0, .int .i64 a1, .slice A2 l2.length c2] (h := ?_); (with_reducible refine (impl_GoodTerm.calls k a0 a1 _ _ l2 true _ ?side1 ?side2 A5.out).mono ?_); (case side1 => repeat (first | exact HR2.out | (with_reducible first | refine Kd.C_alloc ?_ _ | refine Kd.C_drewN ?_ _ | refine Kd.C_drew ?_))); (case side2 => exact HC2.out); rintro e w8 ⟨rfl, hb⟩; refine ⟨_, rfl, ?_⟩; replace HB := Sh.hb hb; (try clear hb); (try clear hb2); (try clear hk); (try clear hi)) | (go_at_call 92; (with_reducible refine (impl_kindOf.calls k _ _ l2 t360 _ (Sh.cB HR2.out) HC2.out A7.out).mono ?_); rintro e w' ⟨rfl, ⟨nd, rfl⟩⟩))
  go_ret
  exact ⟨Sh.eR, Sh.bw⟩
 ·replace c6 := Bool.eq_false_iff.mpr c6
  subst c6
  rw [Sh.nf] at H
  obtain rfl := Option.some.inj H
  go_enter Tryz.func81, Tryz.ntmps81
  go_wp2_with (first | ((with_reducible refine Sh.k 91 ?_); refine Sh.gL (some 12) Tryz.func91 #[.int .i64 a0, .int .i64 a1, .slice A2 l2.length c2] (h := ?_); (with_reducible refine (impl_GoodTerm.calls k a0 a1 _ _ l2 false _ ?side1 ?side2 A5.out).mono ?_); (case side1 => repeat (first | exact HR2.out | (with_reducible first | refine Kd.C_alloc ?_ _ | refine Kd.C_drewN ?_ _ | refine Kd.C_drew ?_))); (case side2 => exact HC2.out); rintro e w9 ⟨rfl, hb⟩; refine ⟨_, rfl, ?_⟩; replace HB := Sh.hb hb; (try clear hb); (try clear hb2); (try clear hk); (try clear hi)))
  go_ret
  exact ⟨Sh.eR, Sh.bw⟩
def impl_Program_isCondition.f (k : Nat) (a0_0 : Int) (a0_1 : Int) (l0_2 : List (S80)) (l0_3 : List (S72)) (l1 : List (S80)) : Option (Bool) := (impl_isTermOf.f k a0_0 a0_1 l1 2).bind fun t362 => (some t362)
theorem impl_Program_isCondition.mono : ∀ a0 a1 a2 a3 a4 k, LeO (impl_Program_isCondition.f k a0 a1 a2 a3 a4) (impl_Program_isCondition.f (k + 1) a0 a1 a2 a3 a4) := by
 intro a0 a1 a2 a3 a4 k
 unfold impl_Program_isCondition.f
 repeat' with_reducible first | apply impl_isTermOf.mono | exact LeO.refl _ | exact LeO.none _ | apply LeO.ite | refine LeO.bind ?_ fun _ => ?_
theorem impl_Program_isCondition.calls (k : Nat) (a0_0 : Int) (a0_1 : Int) (A0_2 : Option Addr) (c0_2 : Nat) (l0_2 : List (S80)) (A0_3 : Option Addr) (c0_3 : Nat) (l0_3 : List (S72)) (A1 : Option Addr) (c1 : Nat) (l1 : List (S80)) (r : Bool) (w : World) (hr0_2 : Kd.C k80 w A0_2 l0_2.length l0_2) (hc0_2 : l0_2.length ≤ c0_2) (hr0_3 : Kd.C k72 w A0_3 l0_3.length l0_3) (hc0_3 : l0_3.length ≤ c0_3) (hr1 : Kd.C k80 w A1 l1.length l1) (hc1 : l1.length ≤ c1) (h : impl_Program_isCondition.f k a0_0 a0_1 l0_2 l0_3 l1 = some r) :
  Calls Tryz.prog 63 #[.agg #[.int .i64 a0_0, .int .i64 a0_1, .slice A0_2 l0_2.length c0_2, .slice A0_3 l0_3.length c0_3], .slice A1 l1.length c1] w fun e w' => e = .returned (.bool r) ∧ Below w.heap.size w w' := by
 have hu36 := Tryz.underlying36
 have HR0_2 := am_ hr0_2
 have HC0_2 := am_ hc0_2
 clear hr0_2 hc0_2
 have HR0_3 := am_ hr0_3
 have HC0_3 := am_ hc0_3
 clear hr0_3 hc0_3
 have HR1 := am_ hr1
 have HC1 := am_ hc1
 clear hr1 hc1
 have HB := am_ (Below.refl w.heap.size w)
 have H := h
 clear h
 unfold impl_Program_isCondition.f at H
 obtain ⟨t362, A3, H⟩ := Sh.ba H
 obtain rfl := Option.some.inj H
 go_enter Tryz.func63, Tryz.ntmps63
 go_wp2_with (first | ((with_reducible refine Sh.d 2 ?_); refine Sh.bz w (N := 2) (cs := #[.int .i64 a0_0, .int .i64 a0_1, .slice A0_2 l0_2.length c0_2, .slice A0_3 l0_3.length c0_3]) (t := 36) (h := ?_); clear HB; intro gb361 w4 BK361 GE361 HB; obtain ⟨hcz5_0, hcz5_1, hcz5_2, hcz5_3, hfz5_0, hfz5_1, hfz5_2, hfz5_3⟩ := Sh.b4 BK361.out) | ((with_reducible refine Sh.k 81 ?_); refine Sh.gB (some 10) Tryz.func81 #[.int .i64 a0_0, .int .i64 a0_1, .slice A1 l1.length c1, .int .i64 2] (impl_isTermOf.calls k a0_0 a0_1 _ _ l1 2 t362 _ (Sh.cB HR1.out) HC1.out A3.out) fun w6 hb => ?_; replace BK361 := Sh.ab BK361 hb; replace HB := Sh.hb hb; (try clear hb); (try clear hb2); (try clear hk); (try clear hi)))
 go_ret
 exact ⟨Sh.eR, Sh.bw⟩
theorem impl_Command_82.gen (g : Nat) (lb : Array Value) (eg : ∀ args w, (callFunc g args).run Tryz.prog w = .ok (.enter g args) w) (q : S72 → Option Bool) (A0 : Option Addr) (c0 : Nat) (l0 : List (S72)) (r : Int) (w : World) (hr0 : Kd.C k72 w A0 l0.length l0) (hc0 : l0.length ≤ c0)
  (hp : ∀ (W : World) (x : S72) (b : Bool) (A0 : Option Addr) (c0 : Nat) (A1 : Option Addr) (c1 : Nat), Below w.heap.size w W → x ∈ l0 → q x = some b → x.f0.length ≤ c0 → Kd.C k80 W A0 x.f0.length x.f0 → x.f1.length ≤ c1 → Kd.C k94 W A1 x.f1.length x.f1 → Calls Tryz.prog g (#[.agg #[.slice A0 x.f0.length c0, .slice A1 x.f1.length c1]] ++ lb) W fun e w' => e = .returned (.bool b) ∧ Below W.heap.size W w')
  (h : idxO q l0 0 = some r) : Calls Tryz.prog 82 #[.slice A0 l0.length c0, .func (.func g) #[] lb] w fun e w' => e = .returned (.int .i64 r) ∧ Below w.heap.size w w' := by
 have HR := am_ hr0
 have HP := am_ hp
 have HH := am_ h
 have hn : l0.length ≤ 9223372036854775807 := hr0.2.1
 clear hr0 hp h
 go_enter Tryz.func82, Tryz.ntmps82
 go_wp2
 go_loopg [5, 8] l0.length (fun gg _ s8 wr => ∃ kk : Nat, kk ≤ l0.length ∧ l0.length - kk ≤ gg ∧ s8 = .int .i64 kk ∧ Aside0 (idxO q (l0.drop kk) kk = some r) ∧ Aside0 (Below w.heap.size w wr))
 case atStart => exact ⟨0, Nat.zero_le _, by omega, rfl, HH, ⟨Below.refl _ _⟩⟩
 case round =>
  obtain ⟨kk, hkk, hg, rfl, HA, HB⟩ := hrel
  clear HH
  by_cases hlt : kk < l0.length
  ·have hltz : (kk : Int) < (l0.length : Int) := by omega
   have h0z : 0 ≤ (kk : Int) := by omega
   obtain ⟨ad, A0, c0, A1, c1, e, hx0, hx1, la0, ga0, la1, ga1⟩ := at_T72 HR.out (kk : Int) h0z hltz
   have er : rd_T72 l0 (kk : Int) = l0.getD kk z72 := by simp [rd_T72]
   rw [er] at hx0 hx1 la0 ga0 la1 ga1
   have hA := HA.out
   rw [drop_getD hlt z72] at hA
   obtain ⟨b, hb, hA2⟩ := Option.bind_eq_some_iff.mp hA
   have HA2 := am_ hA2
   have hin := getD_in hlt (z72 : S72)
   have hcall := HP.out wr _ b A0 c0 A1 c1 HB.out hin hb la0 (Kd.C_below ga0 HB.out) la1 (Kd.C_below ga1 HB.out)
   generalize l0.getD kk z72 = y at hx0 hx1 la0 ga0 la1 ga1 hcall
   clear HA hA hA2 hb er hin
   clear la0 ga0 la1 ga1
   cases e
   simp only [Int.toNat_natCast] at hx0 hx1
   try replace hx0 := Sh.cw hx0
   try replace hx1 := Sh.cw hx1
   cases b with
   | true =>
    go_wp2_with (go_at_fn g; refine hcall.mono ?_; rintro e w' ⟨rfl, hb2⟩)
    go_ret
    have h3 := HA2.out
    simp only [if_true] at h3
    exact ⟨by rw [← Option.some.inj h3]; rfl, below_step HB.out hb2⟩
   | false =>
    go_wp2_with (go_at_fn g; refine hcall.mono ?_; rintro e w' ⟨rfl, hb2⟩)
    go_roundg (l0.length - (kk + 1))
    case measure => omega
    case rel =>
     refine ⟨kk + 1, by omega, by omega, by go_num, ⟨by have h3 := HA2.out; simpa using h3⟩, ⟨below_step HB.out hb2⟩⟩
  ·have hltz : ¬ (kk : Int) < (l0.length : Int) := by omega
   have hA := HA.out
   rw [List.drop_of_length_le (by omega)] at hA
   have h4 : (-1 : Int) = r := Option.some.inj hA
   subst h4
   clear HA hA
   have : kk = l0.length := by omega
   subst this
   go_wp2
   go_ret
   exact ⟨rfl, HB.out⟩
theorem impl_Command_64.gen (g : Nat) (lb : Array Value) (eg : ∀ args w, (callFunc g args).run Tryz.prog w = .ok (.enter g args) w) (q : S72 → Option Bool) (A0 : Option Addr) (c0 : Nat) (l0 : List (S72)) (r : Bool) (w : World) (hr0 : Kd.C k72 w A0 l0.length l0) (hc0 : l0.length ≤ c0)
  (hp : ∀ (W : World) (x : S72) (b : Bool) (A0 : Option Addr) (c0 : Nat) (A1 : Option Addr) (c1 : Nat), Below w.heap.size w W → x ∈ l0 → q x = some b → x.f0.length ≤ c0 → Kd.C k80 W A0 x.f0.length x.f0 → x.f1.length ≤ c1 → Kd.C k94 W A1 x.f1.length x.f1 → Calls Tryz.prog g (#[.agg #[.slice A0 x.f0.length c0, .slice A1 x.f1.length c1]] ++ lb) W fun e w' => e = .returned (.bool b) ∧ Below W.heap.size W w')
  (h : anyO q l0 = some r) : Calls Tryz.prog 64 #[.slice A0 l0.length c0, .func (.func g) #[] lb] w fun e w' => e = .returned (.bool r) ∧ Below w.heap.size w w' := by
 obtain ⟨i, hi, hd⟩ := idxO_of_anyO l0 r 0 (Int.le_refl 0) h
 have HC := am_ (impl_Command_82.gen g lb eg q A0 c0 l0 i w hr0 hc0 hp hi)
 have HD := am_ hd
 clear hr0 hp h hi hd
 go_enter Tryz.func64, Tryz.ntmps64
 go_wp2_with (go_at_call 82; refine HC.out.mono ?_; rintro e w' ⟨rfl, hb2⟩)
 go_ret
 exact ⟨by rw [← HD.out]; rfl, hb2⟩
def impl_Program_isCommand.l0 : Nat → List (S94) → Int → Int → Int → Int → List (S80) → List (S72) → List (S80) → List (S94) → Option (Bool)
 | 0, _, _, _, _, _, _, _, _, _ => none
 | k + 1, x13, x14, x15, x364000, x364001, x364002, x364003, x365000, x365001 => if x15 < x14 then (if 0 ≤ x15 then (if x15 < (x13.length : Int) then (if ((rd_T94 x13 x15).f0) < 0 then (some false) else (if ((rd_T94 x13 x15).f0) ≥ x364001 then (some false) else (if x15 > 0 then (if 0 ≤ (wrap64 (x15 - 1)) then (if (wrap64 (x15 - 1)) < (x365001.length : Int) then (if ((rd_T94 x365001 (wrap64 (x15 - 1))).f0) ≥ ((rd_T94 x13 x15).f0) then (some false) else ((impl_isTermOf.f k x364000 x364001 ((rd_T94 x13 x15).f1) 1).bind fun t369 => (if t369 = true then (impl_Program_isCommand.l0 k x13 x14 (wrap64 (x15 + 1)) x364000 x364001 x364002 x364003 x365000 x365001) else (some false)))) else (none)) else (none)) else ((impl_isTermOf.f k x364000 x364001 ((rd_T94 x13 x15).f1) 1).bind fun t370 => (if t370 = true then (impl_Program_isCommand.l0 k x13 x14 (wrap64 (x15 + 1)) x364000 x364001 x364002 x364003 x365000 x365001) else (some false)))))) else (none)) else (none)) else (some true)
def impl_Program_isCommand.f (k : Nat) (a0_0 : Int) (a0_1 : Int) (l0_2 : List (S80)) (l0_3 : List (S72)) (l1_0 : List (S80)) (l1_1 : List (S94)) : Option (Bool) := (impl_Program_isCondition.f k a0_0 a0_1 l0_2 l0_3 l1_0).bind fun t365 => (if t365 = true then (impl_Program_isCommand.l0 k l1_1 (l1_1.length : Int) 0 a0_0 a0_1 l0_2 l0_3 l1_0 l1_1) else (some false))
theorem impl_Program_isCommand.mono_l : ∀ k, (∀ y0 y1 y2 y3 y4 y5 y6 y7 y8, LeO (impl_Program_isCommand.l0 k y0 y1 y2 y3 y4 y5 y6 y7 y8) (impl_Program_isCommand.l0 (k + 1) y0 y1 y2 y3 y4 y5 y6 y7 y8))
 | 0 => fun _ _ _ _ _ _ _ _ _ r h => by simp [impl_Program_isCommand.l0] at h
 | k + 1 => by
  have ih0 := impl_Program_isCommand.mono_l k
  ·intro y0 y1 y2 y3 y4 y5 y6 y7 y8
   unfold impl_Program_isCommand.l0
   repeat' with_reducible first | apply ih0 | apply impl_Program_isCondition.mono | apply impl_isTermOf.mono | exact LeO.refl _ | exact LeO.none _ | apply LeO.ite | refine LeO.bind ?_ fun _ => ?_
theorem impl_Program_isCommand.mono : ∀ a0 a1 a2 a3 a4 a5 k, LeO (impl_Program_isCommand.f k a0 a1 a2 a3 a4 a5) (impl_Program_isCommand.f (k + 1) a0 a1 a2 a3 a4 a5) := by
 intro a0 a1 a2 a3 a4 a5 k
 have ih0 := impl_Program_isCommand.mono_l k
 unfold impl_Program_isCommand.f
 repeat' with_reducible first | apply ih0 | apply impl_Program_isCondition.mono | apply impl_isTermOf.mono | exact LeO.refl _ | exact LeO.none _ | apply LeO.ite | refine LeO.bind ?_ fun _ => ?_
def impl_Program_isCommand.T6 : Bool × List (List Nat × List Nat) := (true, [([], []), ([0], [0]), ([1], [1]), ([2], [2]), ([3], [3]), ([4, 3], [3, 4]), ([3], [3]), ([6, 3], [3, 6]), ([5, 7, 3], [3, 5, 7]), ([3, 8], [3, 8]), ([9, 3], [9]), ([10], [10]), ([11, 10], [10, 11]), ([12, 10, 10], [10, 12]), ([13], [13]), ([14, 13], [13, 14]), ([13], [13]), ([16, 13], [13, 16]), ([15, 17, 13], [13, 15, 17]), ([18, 13], [13, 18]), ([19, 13], [13, 19]), ([13], [13]), ([21, 13], [13, 21]), ([20, 22, 13], [13, 20, 22]), ([13, 23, 10], [10, 13, 23]), ([10, 24], [10, 24]), ([25, 13], [25]), ([26], [26]), ([27, 26], [26, 27]), ([26], [26]), ([29, 26], [26, 29]), ([26], [26]), ([31, 26], [26, 31]), ([28, 30, 32, 26, 26], [26, 28, 30, 32]), ([33, 26], [26, 33]), ([26, 34], [26, 34])])
def impl_Program_isCommand.B6 : List Nat := [0, 1, 3, 7, 15, 31, 15, 79, 255, 511, 1023, 2047, 4095, 8191, 16383, 32767, 16383, 81919, 262143, 524287, 1048575, 16383, 2113535, 8388607, 16777215, 33554431, 67108863, 134217727, 268435455, 134217727, 671088639, 134217727, 2281701375, 8589934591, 17179869183, 34359738367]
theorem impl_Program_isCommand.tab6 : rtab .any (opsOf Tryz.f66 6) = impl_Program_isCommand.T6 := by kernel_rfl
theorem impl_Program_isCommand.bits6 : waitsOk impl_Program_isCommand.T6.2 impl_Program_isCommand.B6 = true := by kernel_rfl
theorem impl_Program_isCommand.calls (k : Nat) (a0_0 : Int) (a0_1 : Int) (A0_2 : Option Addr) (c0_2 : Nat) (l0_2 : List (S80)) (A0_3 : Option Addr) (c0_3 : Nat) (l0_3 : List (S72)) (A1_0 : Option Addr) (c1_0 : Nat) (l1_0 : List (S80)) (A1_1 : Option Addr) (c1_1 : Nat) (l1_1 : List (S94)) (r : Bool) (w : World) (hr0_2 : Kd.C k80 w A0_2 l0_2.length l0_2) (hc0_2 : l0_2.length ≤ c0_2) (hr0_3 : Kd.C k72 w A0_3 l0_3.length l0_3) (hc0_3 : l0_3.length ≤ c0_3) (hr1_0 : Kd.C k80 w A1_0 l1_0.length l1_0) (hc1_0 : l1_0.length ≤ c1_0) (hr1_1 : Kd.C k94 w A1_1 l1_1.length l1_1) (hc1_1 : l1_1.length ≤ c1_1) (h : impl_Program_isCommand.f k a0_0 a0_1 l0_2 l0_3 l1_0 l1_1 = some r) :
  Calls Tryz.prog 66 #[.agg #[.int .i64 a0_0, .int .i64 a0_1, .slice A0_2 l0_2.length c0_2, .slice A0_3 l0_3.length c0_3], .agg #[.slice A1_0 l1_0.length c1_0, .slice A1_1 l1_1.length c1_1]] w fun e w' => e = .returned (.bool r) ∧ Below w.heap.size w w' := by
 have hu36 := Tryz.underlying36
 have hu72 := Tryz.underlying72
 have hu94 := Tryz.underlying94
 have HR0_2 := am_ hr0_2
 have HC0_2 := am_ hc0_2
 clear hr0_2 hc0_2
 have HR0_3 := am_ hr0_3
 have HC0_3 := am_ hc0_3
 clear hr0_3 hc0_3
 have HR1_0 := am_ hr1_0
 have HC1_0 := am_ hc1_0
 clear hr1_0 hc1_0
 have HR1_1 := am_ hr1_1
 have HC1_1 := am_ hc1_1
 clear hr1_1 hc1_1
 have HB := am_ (Below.refl w.heap.size w)
 have H := h
 clear h
 unfold impl_Program_isCommand.f at H
 obtain ⟨t365, A3, H⟩ := Sh.ba H
 by_cases c4 : t365 = true
 ·subst c4
  rw [if_pos rfl] at H
  have H' := am_ H
  clear H
  go_enter Tryz.func66, Tryz.ntmps66
  go_wp2_with (first | ((with_reducible refine Sh.d 2 ?_); refine Sh.bz w (N := 2) (cs := #[.int .i64 a0_0, .int .i64 a0_1, .slice A0_2 l0_2.length c0_2, .slice A0_3 l0_3.length c0_3]) (t := 36) (h := ?_); clear HB; intro gb363 w5 BK363 GE363 HB) | ((with_reducible refine Sh.d 3 ?_); refine Sh.bx (N := 3) (cs := #[.slice A1_0 l1_0.length c1_0, .slice A1_1 l1_1.length c1_1]) (t := 72) (h := ?_); intro gb364 hg w6 hbox hb; have BK364 := am_ hbox; have GE364 := Sh.ag w hg; replace HB := Sh.hb hb; have NB363_364 := am_ (Sh.nl hg BK363.out); have NB364_363 := am_ (Sh.ng hg BK363.out); replace BK363 := Sh.ab BK363 hb; clear hb hbox hg; have hnb7 := NB363_364.out; have hnc7 := NB364_363.out; obtain ⟨hcz8_0, hcz8_1, hcz8_2, hcz8_3, hfz8_0, hfz8_1, hfz8_2, hfz8_3⟩ := Sh.b4 BK363.out; obtain ⟨hcz9_0, hcz9_1, hfz9_0, hfz9_1⟩ := Sh.b2 BK364.out) | ((with_reducible refine Sh.k 63 ?_); refine Sh.gB (some 10) Tryz.func63 #[.agg #[.int .i64 a0_0, .int .i64 a0_1, .slice A0_2 l0_2.length c0_2, .slice A0_3 l0_3.length c0_3], .slice A1_0 l1_0.length c1_0] (impl_Program_isCondition.calls k a0_0 a0_1 _ _ l0_2 _ _ l0_3 _ _ l1_0 true _ (Sh.cB HR0_2.out) HC0_2.out (Sh.cB HR0_3.out) HC0_3.out (Sh.cB HR1_0.out) HC1_0.out A3.out) fun w10 hb => ?_; replace BK363 := Sh.ab BK363 hb; replace BK364 := Sh.ab BK364 hb; replace HB := Sh.hb hb; (try clear hb); (try clear hb2); (try clear hk); (try clear hi); obtain ⟨hcz11_0, hcz11_1, hfz11_0, hfz11_1⟩ := Sh.b2 BK364.out))
  go_loopg [15] k (fun kq v15 w' => ∃ (x15_1 : Int), v15 = .int .i64 x15_1 ∧ Aside0 (impl_Program_isCommand.l0 kq l1_1 (l1_1.length : Int) x15_1 a0_0 a0_1 l0_2 l0_3 l1_0 l1_1 = some r) ∧ Aside0 (kq ≤ k) ∧ Aside0 (w'.heap[gb363]? = some (.cells #[.int .i64 a0_0, .int .i64 a0_1, (.slice A0_2 l0_2.length c0_2), (.slice A0_3 l0_3.length c0_3)] 36 (0, 0))) ∧ Aside0 (w'.heap[gb364]? = some (.cells #[(.slice A1_0 l1_0.length c1_0), (.slice A1_1 l1_1.length c1_1)] 72 (0, 0))) ∧ Aside0 (Below w.heap.size w w'))
  case atStart => exact ⟨(0), (Sh.es), H', ⟨Nat.le_refl _⟩, ⟨by refine Sh.pl ?_; exact BK363.out⟩, ⟨by refine Sh.pl ?_; exact BK364.out⟩, ⟨Sh.bw⟩⟩
  case round =>
   clear H'
   try clear hcz11_0
   try clear hcz11_1
   try clear hcz8_0
   try clear hcz8_1
   try clear hcz8_2
   try clear hcz8_3
   try clear hcz9_0
   try clear hcz9_1
   try clear hfz11_0
   try clear hfz11_1
   try clear hfz8_0
   try clear hfz8_1
   try clear hfz8_2
   try clear hfz8_3
   try clear hfz9_0
   try clear hfz9_1
   obtain ⟨x15_1, rfl, HA, HK1, BK363, BK364, HB⟩ := hrel
   cases gk with
   | zero => exact absurd HA.out (by simp [impl_Program_isCommand.l0])
   | succ k1 =>
    have H := HA.out
    clear HA
    simp only [impl_Program_isCommand.l0] at H
    by_cases c12 : x15_1 < (l1_1.length : Int)
    ·rw [if_pos c12] at H
     have c12b0 := decide_eq_true c12
     clear c12
     by_cases c13 : 0 ≤ x15_1
     ·rw [if_pos c13] at H
      have c13b0 := decide_eq_true c13
      clear c13
      by_cases c14 : x15_1 < (l1_1.length : Int)
      ·rw [if_pos c14] at H
       have c14b0 := decide_eq_true c14
       clear c14
       by_cases c15 : ((rd_T94 l1_1 x15_1).f0) < 0
       ·rw [if_pos c15] at H
        have c15b0 := decide_eq_true c15
        clear c15
        obtain rfl := Option.some.inj H
        have p366 : 0 ≤ (x15_1 : Int) := Sh.od
        have q366 : x15_1 < (l1_1.length : Int) := Sh.od
        obtain ⟨ad366, A366_1, c366_1, e366, hx366_0, hx366_1, hl366_1, hi366_1⟩ := at_T94 HR1_1.out x15_1 p366 q366
        cases e366
        try replace hx366_0 := Sh.cw hx366_0
        try replace hx366_1 := Sh.cw hx366_1
        have HR366_1 := am_ hi366_1
        have HC366_1 := am_ hl366_1
        clear hi366_1 hl366_1
        replace p366 := eq_true p366
        replace q366 := eq_true q366
        try go_wp2_with (first | ((with_reducible refine Sh.d 6 ?_); refine Sh.bx (N := 6) (cs := #[.int .i64 0, .slice none 0 0]) (t := 94) (h := ?_); intro gb367 hg w16 hbox hb; have BK367 := am_ hbox; have GE367 := Sh.ag w hg; replace HB := Sh.hb hb; have NB363_367 := am_ (Sh.nl hg BK363.out); have NB367_363 := am_ (Sh.ng hg BK363.out); replace BK363 := Sh.ab BK363 hb; have NB364_367 := am_ (Sh.nl hg BK364.out); have NB367_364 := am_ (Sh.ng hg BK364.out); replace BK364 := Sh.ab BK364 hb; clear hb hbox hg; have hnb17 := NB367_363.out; have hnc17 := NB363_367.out; have hnb18 := NB367_364.out; have hnc18 := NB364_367.out; obtain ⟨hcz19_0, hcz19_1, hfz19_0, hfz19_1⟩ := Sh.b2 BK367.out))
        have n0_ : Aside0 (((w16.setCell ⟨gb367, 0, none⟩ (.int .i64 ((rd_T94 l1_1 x15_1).f0))).setCell ⟨gb367, 1, none⟩ (.slice A366_1 ((rd_T94 l1_1 x15_1).f1).length c366_1)).heap[gb363]? = some (.cells #[.int .i64 a0_0, .int .i64 a0_1, .slice A0_2 l0_2.length c0_2, .slice A0_3 l0_3.length c0_3] 36 (0, 0))) := ⟨by refine Sh.pl ?_; refine blk_far ?_ NB363_367.out _; refine Sh.pl ?_; refine blk_far ?_ NB363_367.out _; refine Sh.pl ?_; exact BK363.out⟩
        have n1_ : Aside0 (((w16.setCell ⟨gb367, 0, none⟩ (.int .i64 ((rd_T94 l1_1 x15_1).f0))).setCell ⟨gb367, 1, none⟩ (.slice A366_1 ((rd_T94 l1_1 x15_1).f1).length c366_1)).heap[gb364]? = some (.cells #[.slice A1_0 l1_0.length c1_0, .slice (some ad366) l1_1.length c1_1] 72 (0, 0))) := ⟨by refine Sh.pl ?_; refine blk_far ?_ NB364_367.out _; refine Sh.pl ?_; refine blk_far ?_ NB364_367.out _; refine Sh.pl ?_; exact BK364.out⟩
        have n2_ : Aside0 (((w16.setCell ⟨gb367, 0, none⟩ (.int .i64 ((rd_T94 l1_1 x15_1).f0))).setCell ⟨gb367, 1, none⟩ (.slice A366_1 ((rd_T94 l1_1 x15_1).f1).length c366_1)).heap[gb367]? = some (.cells #[.int .i64 ((rd_T94 l1_1 x15_1).f0), .slice A366_1 ((rd_T94 l1_1 x15_1).f1).length c366_1] 94 (0, 0))) := ⟨by refine Sh.pl ?_; refine blk_put (cs := #[.int .i64 ((rd_T94 l1_1 x15_1).f0), .slice none 0 0]) ?_ 1 _ rfl; refine Sh.pl ?_; refine blk_put (cs := #[.int .i64 0, .slice none 0 0]) ?_ 0 _ rfl; refine Sh.pl ?_; exact BK367.out⟩
        have n3_ : Aside0 (Below w.heap.size w ((w16.setCell ⟨gb367, 0, none⟩ (.int .i64 ((rd_T94 l1_1 x15_1).f0))).setCell ⟨gb367, 1, none⟩ (.slice A366_1 ((rd_T94 l1_1 x15_1).f1).length c366_1))) := ⟨Sh.bw⟩
        (try clear BK363)
        (try clear BK364)
        (try clear BK367)
        (try clear HB)
        generalize ((w16.setCell ⟨gb367, 0, none⟩ (.int .i64 ((rd_T94 l1_1 x15_1).f0))).setCell ⟨gb367, 1, none⟩ (.slice A366_1 ((rd_T94 l1_1 x15_1).f1).length c366_1)) = w20 at n0_ n1_ n2_ n3_ ⊢
        have BK363 := n0_
        have BK364 := n1_
        have BK367 := n2_
        have HB := n3_
        clear n0_ n1_ n2_ n3_
        replace BK363 := am_ (blk_drew BK363.out)
        replace BK364 := am_ (blk_drew BK364.out)
        replace BK367 := am_ (blk_drew BK367.out)
        replace HB := am_ (below_drew1 HB.out)
        refine start_ (n := 36) (S := fun w' => w'.cell? ⟨gb367, 0, none⟩ = some (.int .i64 ((rd_T94 l1_1 x15_1).f0)) ∧ w'.cell? ⟨gb367, 1, none⟩ = some (.slice A366_1 ((rd_T94 l1_1 x15_1).f1).length c366_1)) (ds := []) (Sh.nm 36 0) (by kernel_rfl) rfl rfl Sh.cs (fun hHeld => ?_); refine with_tabW impl_Program_isCommand.tab6 impl_Program_isCommand.bits6 (fun HT_ HW_ => ?_)
        generalize w20.drew = w21 at BK363 BK364 BK367 HB hHeld ⊢
        refine Sh.qA 0 ?_; refine Sh.qT 1 hHeld ?_; refine Sh.qA 2 ?_; refine Sh.qA 3 ?_; refine Sh.qU 4 ?_; refine Sh.qU 5 ?_; refine Sh.qU 6 ?_; refine Sh.qU 7 ?_; refine Sh.qU 8 ?_; refine Sh.qA 9 ?_; refine Sh.qA 10 ?_; refine Sh.qU 11 ?_; refine Sh.qU 12 ?_; refine Sh.qU 13 ?_; refine Sh.qU 14 ?_; refine Sh.qU 15 ?_; refine Sh.qU 16 ?_; refine Sh.qU 17 ?_; refine Sh.qU 18 ?_; refine Sh.qU 19 ?_; refine Sh.qU 20 ?_; refine Sh.qU 21 ?_; refine Sh.qU 22 ?_; refine Sh.qU 23 ?_; refine Sh.qU 24 ?_; refine Sh.qA 25 ?_; refine Sh.qA 26 ?_; refine Sh.qU 27 ?_; refine Sh.qU 28 ?_; refine Sh.qU 29 ?_; refine Sh.qU 30 ?_; refine Sh.qU 31 ?_; refine Sh.qU 32 ?_; refine Sh.qU 33 ?_; refine Sh.qU 34 ?_; refine Sh.qA 35 ?_
        refine done_ (done_of HT_.out (by kernel_rfl)) ?_
        try go_wp2
        go_ret
        exact ⟨Sh.eR, Sh.bw⟩
       ·rw [if_neg c15] at H
        have c15b0 := decide_eq_false c15
        clear c15
        by_cases c22 : ((rd_T94 l1_1 x15_1).f0) ≥ a0_1
        ·rw [if_pos c22] at H
         have c22b0 : decide (a0_1 ≤ ((rd_T94 l1_1 x15_1).f0)) = true := decide_eq_true c22
         clear c22
         obtain rfl := Option.some.inj H
         have p366 : 0 ≤ (x15_1 : Int) := Sh.od
         have q366 : x15_1 < (l1_1.length : Int) := Sh.od
         obtain ⟨ad366, A366_1, c366_1, e366, hx366_0, hx366_1, hl366_1, hi366_1⟩ := at_T94 HR1_1.out x15_1 p366 q366
         cases e366
         try replace hx366_0 := Sh.cw hx366_0
         try replace hx366_1 := Sh.cw hx366_1
         have HR366_1 := am_ hi366_1
         have HC366_1 := am_ hl366_1
         clear hi366_1 hl366_1
         replace p366 := eq_true p366
         replace q366 := eq_true q366
         try go_wp2_with (first | ((with_reducible refine Sh.d 6 ?_); refine Sh.bx (N := 6) (cs := #[.int .i64 0, .slice none 0 0]) (t := 94) (h := ?_); intro gb367 hg w23 hbox hb; have BK367 := am_ hbox; have GE367 := Sh.ag w hg; replace HB := Sh.hb hb; have NB363_367 := am_ (Sh.nl hg BK363.out); have NB367_363 := am_ (Sh.ng hg BK363.out); replace BK363 := Sh.ab BK363 hb; have NB364_367 := am_ (Sh.nl hg BK364.out); have NB367_364 := am_ (Sh.ng hg BK364.out); replace BK364 := Sh.ab BK364 hb; clear hb hbox hg; have hnb24 := NB367_363.out; have hnc24 := NB363_367.out; have hnb25 := NB367_364.out; have hnc25 := NB364_367.out; obtain ⟨hcz26_0, hcz26_1, hfz26_0, hfz26_1⟩ := Sh.b2 BK367.out))
         have n0_ : Aside0 (((w23.setCell ⟨gb367, 0, none⟩ (.int .i64 ((rd_T94 l1_1 x15_1).f0))).setCell ⟨gb367, 1, none⟩ (.slice A366_1 ((rd_T94 l1_1 x15_1).f1).length c366_1)).heap[gb363]? = some (.cells #[.int .i64 a0_0, .int .i64 a0_1, .slice A0_2 l0_2.length c0_2, .slice A0_3 l0_3.length c0_3] 36 (0, 0))) := ⟨by refine Sh.pl ?_; refine blk_far ?_ NB363_367.out _; refine Sh.pl ?_; refine blk_far ?_ NB363_367.out _; refine Sh.pl ?_; exact BK363.out⟩
         have n1_ : Aside0 (((w23.setCell ⟨gb367, 0, none⟩ (.int .i64 ((rd_T94 l1_1 x15_1).f0))).setCell ⟨gb367, 1, none⟩ (.slice A366_1 ((rd_T94 l1_1 x15_1).f1).length c366_1)).heap[gb364]? = some (.cells #[.slice A1_0 l1_0.length c1_0, .slice (some ad366) l1_1.length c1_1] 72 (0, 0))) := ⟨by refine Sh.pl ?_; refine blk_far ?_ NB364_367.out _; refine Sh.pl ?_; refine blk_far ?_ NB364_367.out _; refine Sh.pl ?_; exact BK364.out⟩
         have n2_ : Aside0 (((w23.setCell ⟨gb367, 0, none⟩ (.int .i64 ((rd_T94 l1_1 x15_1).f0))).setCell ⟨gb367, 1, none⟩ (.slice A366_1 ((rd_T94 l1_1 x15_1).f1).length c366_1)).heap[gb367]? = some (.cells #[.int .i64 ((rd_T94 l1_1 x15_1).f0), .slice A366_1 ((rd_T94 l1_1 x15_1).f1).length c366_1] 94 (0, 0))) := ⟨by refine Sh.pl ?_; refine blk_put (cs := #[.int .i64 ((rd_T94 l1_1 x15_1).f0), .slice none 0 0]) ?_ 1 _ rfl; refine Sh.pl ?_; refine blk_put (cs := #[.int .i64 0, .slice none 0 0]) ?_ 0 _ rfl; refine Sh.pl ?_; exact BK367.out⟩
         have n3_ : Aside0 (Below w.heap.size w ((w23.setCell ⟨gb367, 0, none⟩ (.int .i64 ((rd_T94 l1_1 x15_1).f0))).setCell ⟨gb367, 1, none⟩ (.slice A366_1 ((rd_T94 l1_1 x15_1).f1).length c366_1))) := ⟨Sh.bw⟩
         (try clear BK363)
         (try clear BK364)
         (try clear BK367)
         (try clear HB)
         generalize ((w23.setCell ⟨gb367, 0, none⟩ (.int .i64 ((rd_T94 l1_1 x15_1).f0))).setCell ⟨gb367, 1, none⟩ (.slice A366_1 ((rd_T94 l1_1 x15_1).f1).length c366_1)) = w27 at n0_ n1_ n2_ n3_ ⊢
         have BK363 := n0_
         have BK364 := n1_
         have BK367 := n2_
         have HB := n3_
         clear n0_ n1_ n2_ n3_
         replace BK363 := am_ (blk_drew BK363.out)
         replace BK364 := am_ (blk_drew BK364.out)
         replace BK367 := am_ (blk_drew BK367.out)
         replace HB := am_ (below_drew1 HB.out)
         refine start_ (n := 36) (S := fun w' => w'.cell? ⟨gb367, 0, none⟩ = some (.int .i64 ((rd_T94 l1_1 x15_1).f0)) ∧ w'.cell? ⟨gb367, 1, none⟩ = some (.slice A366_1 ((rd_T94 l1_1 x15_1).f1).length c366_1) ∧ w'.cell? ⟨gb363, 0, none⟩ = some (.int .i64 a0_0) ∧ w'.cell? ⟨gb363, 1, none⟩ = some (.int .i64 a0_1) ∧ w'.cell? ⟨gb363, 2, none⟩ = some (.slice A0_2 l0_2.length c0_2) ∧ w'.cell? ⟨gb363, 3, none⟩ = some (.slice A0_3 l0_3.length c0_3)) (ds := []) (Sh.nm 36 0) (by kernel_rfl) rfl rfl Sh.cs (fun hHeld => ?_); refine with_tabW impl_Program_isCommand.tab6 impl_Program_isCommand.bits6 (fun HT_ HW_ => ?_)
         generalize w27.drew = w28 at BK363 BK364 BK367 HB hHeld ⊢
         refine Sh.qA 0 ?_; refine Sh.qT 1 hHeld ?_; refine Sh.qA 2 ?_; refine Sh.qA 3 ?_; refine Sh.qA 4 ?_; refine Sh.qA 6 ?_; refine Sh.qT 5 hHeld ?_; refine Sh.qT 7 hHeld ?_; refine Sh.qA 8 ?_; refine Sh.qA 9 ?_; refine Sh.qA 10 ?_; refine Sh.qU 11 ?_; refine Sh.qU 12 ?_; refine Sh.qU 13 ?_; refine Sh.qU 14 ?_; refine Sh.qU 15 ?_; refine Sh.qU 16 ?_; refine Sh.qU 17 ?_; refine Sh.qU 18 ?_; refine Sh.qU 19 ?_; refine Sh.qU 20 ?_; refine Sh.qU 21 ?_; refine Sh.qU 22 ?_; refine Sh.qU 23 ?_; refine Sh.qU 24 ?_; refine Sh.qA 25 ?_; refine Sh.qA 26 ?_; refine Sh.qU 27 ?_; refine Sh.qU 28 ?_; refine Sh.qU 29 ?_; refine Sh.qU 30 ?_; refine Sh.qU 31 ?_; refine Sh.qU 32 ?_; refine Sh.qU 33 ?_; refine Sh.qU 34 ?_; refine Sh.qA 35 ?_
         refine done_ (done_of HT_.out (by kernel_rfl)) ?_
         try go_wp2
         go_ret
         exact ⟨Sh.eR, Sh.bw⟩
        ·rw [if_neg c22] at H
         have c22b0 : decide (a0_1 ≤ ((rd_T94 l1_1 x15_1).f0)) = false := decide_eq_false c22
         clear c22
         by_cases c29 : x15_1 > 0
         ·rw [if_pos c29] at H
          have c29b0 : decide (0 < x15_1) = true := decide_eq_true c29
          clear c29
          obtain ⟨ji30, hj1⟩ : ∃ j_ : Int, (wrap64 (x15_1 - 1)) = j_ := ⟨_, rfl⟩
          replace H : (if 0 ≤ (ji30) then (if (ji30) < (l1_1.length : Int) then (if ((rd_T94 l1_1 (ji30)).f0) ≥ ((rd_T94 l1_1 x15_1).f0) then (some false) else ((impl_isTermOf.f k1 a0_0 a0_1 ((rd_T94 l1_1 x15_1).f1) 1).bind fun t369 => (if t369 = true then (impl_Program_isCommand.l0 k1 l1_1 (l1_1.length : Int) (wrap64 (x15_1 + 1)) a0_0 a0_1 l0_2 l0_3 l1_0 l1_1) else (some false)))) else (none)) else (none)) = some r := by first | (rw [hj1] at H; exact H) | (simp only [hj1] at H ⊢; exact H)
          have hji30w : (IntKind.i64.wrap (x15_1 - 1)) = ji30 := (i64_w _).trans hj1
          by_cases c31 : 0 ≤ (ji30)
          ·rw [if_pos c31] at H
           have c31b0 := decide_eq_true c31
           clear c31
           by_cases c32 : (ji30) < (l1_1.length : Int)
           ·rw [if_pos c32] at H
            have c32b0 := decide_eq_true c32
            clear c32
            by_cases c33 : ((rd_T94 l1_1 (ji30)).f0) ≥ ((rd_T94 l1_1 x15_1).f0)
            ·rw [if_pos c33] at H
             have c33b0 : decide (((rd_T94 l1_1 x15_1).f0) ≤ ((rd_T94 l1_1 (ji30)).f0)) = true := decide_eq_true c33
             clear c33
             obtain rfl := Option.some.inj H
             have p366 : 0 ≤ (x15_1 : Int) := Sh.od
             have q366 : x15_1 < (l1_1.length : Int) := Sh.od
             obtain ⟨ad366, A366_1, c366_1, e366, hx366_0, hx366_1, hl366_1, hi366_1⟩ := at_T94 HR1_1.out x15_1 p366 q366
             cases e366
             try replace hx366_0 := Sh.cw hx366_0
             try replace hx366_1 := Sh.cw hx366_1
             have HR366_1 := am_ hi366_1
             have HC366_1 := am_ hl366_1
             clear hi366_1 hl366_1
             replace p366 := eq_true p366
             replace q366 := eq_true q366
             try go_wp2_with (first | ((with_reducible refine Sh.d 6 ?_); refine Sh.bx (N := 6) (cs := #[.int .i64 0, .slice none 0 0]) (t := 94) (h := ?_); intro gb367 hg w34 hbox hb; have BK367 := am_ hbox; have GE367 := Sh.ag w hg; replace HB := Sh.hb hb; have NB363_367 := am_ (Sh.nl hg BK363.out); have NB367_363 := am_ (Sh.ng hg BK363.out); replace BK363 := Sh.ab BK363 hb; have NB364_367 := am_ (Sh.nl hg BK364.out); have NB367_364 := am_ (Sh.ng hg BK364.out); replace BK364 := Sh.ab BK364 hb; clear hb hbox hg; have hnb35 := NB367_363.out; have hnc35 := NB363_367.out; have hnb36 := NB367_364.out; have hnc36 := NB364_367.out; obtain ⟨hcz37_0, hcz37_1, hfz37_0, hfz37_1⟩ := Sh.b2 BK367.out))
             have n0_ : Aside0 (((w34.setCell ⟨gb367, 0, none⟩ (.int .i64 ((rd_T94 l1_1 x15_1).f0))).setCell ⟨gb367, 1, none⟩ (.slice A366_1 ((rd_T94 l1_1 x15_1).f1).length c366_1)).heap[gb363]? = some (.cells #[.int .i64 a0_0, .int .i64 a0_1, .slice A0_2 l0_2.length c0_2, .slice A0_3 l0_3.length c0_3] 36 (0, 0))) := ⟨by refine Sh.pl ?_; refine blk_far ?_ NB363_367.out _; refine Sh.pl ?_; refine blk_far ?_ NB363_367.out _; refine Sh.pl ?_; exact BK363.out⟩
             have n1_ : Aside0 (((w34.setCell ⟨gb367, 0, none⟩ (.int .i64 ((rd_T94 l1_1 x15_1).f0))).setCell ⟨gb367, 1, none⟩ (.slice A366_1 ((rd_T94 l1_1 x15_1).f1).length c366_1)).heap[gb364]? = some (.cells #[.slice A1_0 l1_0.length c1_0, .slice (some ad366) l1_1.length c1_1] 72 (0, 0))) := ⟨by refine Sh.pl ?_; refine blk_far ?_ NB364_367.out _; refine Sh.pl ?_; refine blk_far ?_ NB364_367.out _; refine Sh.pl ?_; exact BK364.out⟩
             have n2_ : Aside0 (((w34.setCell ⟨gb367, 0, none⟩ (.int .i64 ((rd_T94 l1_1 x15_1).f0))).setCell ⟨gb367, 1, none⟩ (.slice A366_1 ((rd_T94 l1_1 x15_1).f1).length c366_1)).heap[gb367]? = some (.cells #[.int .i64 ((rd_T94 l1_1 x15_1).f0), .slice A366_1 ((rd_T94 l1_1 x15_1).f1).length c366_1] 94 (0, 0))) := ⟨by refine Sh.pl ?_; refine blk_put (cs := #[.int .i64 ((rd_T94 l1_1 x15_1).f0), .slice none 0 0]) ?_ 1 _ rfl; refine Sh.pl ?_; refine blk_put (cs := #[.int .i64 0, .slice none 0 0]) ?_ 0 _ rfl; refine Sh.pl ?_; exact BK367.out⟩
             have n3_ : Aside0 (Below w.heap.size w ((w34.setCell ⟨gb367, 0, none⟩ (.int .i64 ((rd_T94 l1_1 x15_1).f0))).setCell ⟨gb367, 1, none⟩ (.slice A366_1 ((rd_T94 l1_1 x15_1).f1).length c366_1))) := ⟨Sh.bw⟩
             (try clear BK363)
             (try clear BK364)
             (try clear BK367)
             (try clear HB)
             generalize ((w34.setCell ⟨gb367, 0, none⟩ (.int .i64 ((rd_T94 l1_1 x15_1).f0))).setCell ⟨gb367, 1, none⟩ (.slice A366_1 ((rd_T94 l1_1 x15_1).f1).length c366_1)) = w38 at n0_ n1_ n2_ n3_ ⊢
             have BK363 := n0_
             have BK364 := n1_
             have BK367 := n2_
             have HB := n3_
             clear n0_ n1_ n2_ n3_
             replace BK363 := am_ (blk_drew BK363.out)
             replace BK364 := am_ (blk_drew BK364.out)
             replace BK367 := am_ (blk_drew BK367.out)
             replace HB := am_ (below_drew1 HB.out)
             have p368 : 0 ≤ ((ji30) : Int) := Sh.od
             have q368 : (ji30) < (l1_1.length : Int) := Sh.od
             obtain ⟨ad368, A368_1, c368_1, e368, hx368_0, hx368_1, hl368_1, hi368_1⟩ := at_T94 HR1_1.out (ji30) p368 q368
             have hw368_1 := hx368_1
             have hw368_0 := hx368_0
             obtain rfl : ad366 = ad368 := (by injection e368)
             try replace hx368_0 := Sh.cw hx368_0
             try replace hx368_1 := Sh.cw hx368_1
             have HR368_1 := am_ hi368_1
             have HC368_1 := am_ hl368_1
             clear hi368_1 hl368_1
             replace p368 := eq_true p368
             replace q368 := eq_true q368
             refine start_ (n := 36) (S := fun w' => w'.cell? ⟨gb367, 0, none⟩ = some (.int .i64 ((rd_T94 l1_1 x15_1).f0)) ∧ w'.cell? ⟨gb367, 1, none⟩ = some (.slice A366_1 ((rd_T94 l1_1 x15_1).f1).length c366_1) ∧ w'.cell? ⟨gb363, 0, none⟩ = some (.int .i64 a0_0) ∧ w'.cell? ⟨gb363, 1, none⟩ = some (.int .i64 a0_1) ∧ w'.cell? ⟨gb363, 2, none⟩ = some (.slice A0_2 l0_2.length c0_2) ∧ w'.cell? ⟨gb363, 3, none⟩ = some (.slice A0_3 l0_3.length c0_3) ∧ w'.cell? ⟨gb364, 0, none⟩ = some (.slice A1_0 l1_0.length c1_0) ∧ w'.cell? ⟨gb364, 1, none⟩ = some (.slice (some ad366) l1_1.length c1_1) ∧ w'.cell? (ad366.add (((ji30)).toNat * 2)) = some (.int .i64 ((rd_T94 l1_1 (ji30)).f0)) ∧ w'.cell? ⟨(ad366.add (((ji30)).toNat * 2)).block, (ad366.add (((ji30)).toNat * 2)).off + 1, none⟩ = some (.slice A368_1 ((rd_T94 l1_1 (ji30)).f1).length c368_1)) (ds := []) (Sh.nm 36 0) (by kernel_rfl) rfl rfl Sh.cs (fun hHeld => ?_); refine with_tabW impl_Program_isCommand.tab6 impl_Program_isCommand.bits6 (fun HT_ HW_ => ?_)
             generalize w38.drew = w39 at BK363 BK364 BK367 HB HR368_1 hx368_0 hx368_1 hHeld ⊢
             refine Sh.qA 0 ?_; refine Sh.qT 1 hHeld ?_; refine Sh.qA 2 ?_; refine Sh.qA 3 ?_; refine Sh.qA 4 ?_; refine Sh.qA 6 ?_; refine Sh.qT 5 hHeld ?_; refine Sh.qT 7 hHeld ?_; refine Sh.qA 8 ?_; refine Sh.qA 9 ?_; refine Sh.qA 10 ?_; refine Sh.qA 11 ?_; refine Sh.qA 12 ?_; refine Sh.qA 13 ?_; refine Sh.qA 14 ?_; refine Sh.qA 16 ?_; refine Sh.qA 17 ?_; refine Sh.qA 21 ?_; refine Sh.qT 15 hHeld ?_; refine Sh.qA 18 ?_; refine Sh.qA 19 ?_; refine Sh.qT 20 hHeld ?_; refine Sh.qT 22 hHeld ?_; refine Sh.qA 23 ?_; refine Sh.qA 24 ?_; refine Sh.qA 25 ?_; refine Sh.qA 26 ?_; refine Sh.qU 27 ?_; refine Sh.qU 28 ?_; refine Sh.qU 29 ?_; refine Sh.qU 30 ?_; refine Sh.qU 31 ?_; refine Sh.qU 32 ?_; refine Sh.qU 33 ?_; refine Sh.qU 34 ?_; refine Sh.qA 35 ?_
             refine done_ (done_of HT_.out (by kernel_rfl)) ?_
             try go_wp2
             go_ret
             exact ⟨by first | rfl | (simp [errW_none, errW_some] <;> rfl) | (simp only [← hj1]; first | rfl | (simp [errW_none, errW_some] <;> rfl)) | (simp [*, errW_none, errW_some] <;> rfl), Sh.bw⟩
            ·rw [if_neg c33] at H
             have c33b0 : decide (((rd_T94 l1_1 x15_1).f0) ≤ ((rd_T94 l1_1 (ji30)).f0)) = false := decide_eq_false c33
             clear c33
             obtain ⟨t369, A40, H⟩ := Sh.ba H
             by_cases c41 : t369 = true
             ·subst c41
              rw [if_pos rfl] at H
              have H' := am_ H
              clear H
              have p366 : 0 ≤ (x15_1 : Int) := Sh.od
              have q366 : x15_1 < (l1_1.length : Int) := Sh.od
              obtain ⟨ad366, A366_1, c366_1, e366, hx366_0, hx366_1, hl366_1, hi366_1⟩ := at_T94 HR1_1.out x15_1 p366 q366
              cases e366
              try replace hx366_0 := Sh.cw hx366_0
              try replace hx366_1 := Sh.cw hx366_1
              have HR366_1 := am_ hi366_1
              have HC366_1 := am_ hl366_1
              clear hi366_1 hl366_1
              replace p366 := eq_true p366
              replace q366 := eq_true q366
              try go_wp2_with (first | ((with_reducible refine Sh.d 6 ?_); refine Sh.bx (N := 6) (cs := #[.int .i64 0, .slice none 0 0]) (t := 94) (h := ?_); intro gb367 hg w42 hbox hb; have BK367 := am_ hbox; have GE367 := Sh.ag w hg; replace HB := Sh.hb hb; have NB363_367 := am_ (Sh.nl hg BK363.out); have NB367_363 := am_ (Sh.ng hg BK363.out); replace BK363 := Sh.ab BK363 hb; have NB364_367 := am_ (Sh.nl hg BK364.out); have NB367_364 := am_ (Sh.ng hg BK364.out); replace BK364 := Sh.ab BK364 hb; clear hb hbox hg; have hnb43 := NB367_363.out; have hnc43 := NB363_367.out; have hnb44 := NB367_364.out; have hnc44 := NB364_367.out; obtain ⟨hcz45_0, hcz45_1, hfz45_0, hfz45_1⟩ := Sh.b2 BK367.out))
              have n0_ : Aside0 (((w42.setCell ⟨gb367, 0, none⟩ (.int .i64 ((rd_T94 l1_1 x15_1).f0))).setCell ⟨gb367, 1, none⟩ (.slice A366_1 ((rd_T94 l1_1 x15_1).f1).length c366_1)).heap[gb363]? = some (.cells #[.int .i64 a0_0, .int .i64 a0_1, .slice A0_2 l0_2.length c0_2, .slice A0_3 l0_3.length c0_3] 36 (0, 0))) := ⟨by refine Sh.pl ?_; refine blk_far ?_ NB363_367.out _; refine Sh.pl ?_; refine blk_far ?_ NB363_367.out _; refine Sh.pl ?_; exact BK363.out⟩
              have n1_ : Aside0 (((w42.setCell ⟨gb367, 0, none⟩ (.int .i64 ((rd_T94 l1_1 x15_1).f0))).setCell ⟨gb367, 1, none⟩ (.slice A366_1 ((rd_T94 l1_1 x15_1).f1).length c366_1)).heap[gb364]? = some (.cells #[.slice A1_0 l1_0.length c1_0, .slice (some ad366) l1_1.length c1_1] 72 (0, 0))) := ⟨by refine Sh.pl ?_; refine blk_far ?_ NB364_367.out _; refine Sh.pl ?_; refine blk_far ?_ NB364_367.out _; refine Sh.pl ?_; exact BK364.out⟩
              have n2_ : Aside0 (((w42.setCell ⟨gb367, 0, none⟩ (.int .i64 ((rd_T94 l1_1 x15_1).f0))).setCell ⟨gb367, 1, none⟩ (.slice A366_1 ((rd_T94 l1_1 x15_1).f1).length c366_1)).heap[gb367]? = some (.cells #[.int .i64 ((rd_T94 l1_1 x15_1).f0), .slice A366_1 ((rd_T94 l1_1 x15_1).f1).length c366_1] 94 (0, 0))) := ⟨by refine Sh.pl ?_; refine blk_put (cs := #[.int .i64 ((rd_T94 l1_1 x15_1).f0), .slice none 0 0]) ?_ 1 _ rfl; refine Sh.pl ?_; refine blk_put (cs := #[.int .i64 0, .slice none 0 0]) ?_ 0 _ rfl; refine Sh.pl ?_; exact BK367.out⟩
              have n3_ : Aside0 (Below w.heap.size w ((w42.setCell ⟨gb367, 0, none⟩ (.int .i64 ((rd_T94 l1_1 x15_1).f0))).setCell ⟨gb367, 1, none⟩ (.slice A366_1 ((rd_T94 l1_1 x15_1).f1).length c366_1))) := ⟨Sh.bw⟩
              (try clear BK363)
              (try clear BK364)
              (try clear BK367)
              (try clear HB)
              generalize ((w42.setCell ⟨gb367, 0, none⟩ (.int .i64 ((rd_T94 l1_1 x15_1).f0))).setCell ⟨gb367, 1, none⟩ (.slice A366_1 ((rd_T94 l1_1 x15_1).f1).length c366_1)) = w46 at n0_ n1_ n2_ n3_ ⊢
              have BK363 := n0_
              have BK364 := n1_
              have BK367 := n2_
              have HB := n3_
              clear n0_ n1_ n2_ n3_
              replace BK363 := am_ (blk_drew BK363.out)
              replace BK364 := am_ (blk_drew BK364.out)
              replace BK367 := am_ (blk_drew BK367.out)
              replace HB := am_ (below_drew1 HB.out)
              have p368 : 0 ≤ ((ji30) : Int) := Sh.od
              have q368 : (ji30) < (l1_1.length : Int) := Sh.od
              obtain ⟨ad368, A368_1, c368_1, e368, hx368_0, hx368_1, hl368_1, hi368_1⟩ := at_T94 HR1_1.out (ji30) p368 q368
              have hw368_1 := hx368_1
              have hw368_0 := hx368_0
              obtain rfl : ad366 = ad368 := (by injection e368)
              try replace hx368_0 := Sh.cw hx368_0
              try replace hx368_1 := Sh.cw hx368_1
              have HR368_1 := am_ hi368_1
              have HC368_1 := am_ hl368_1
              clear hi368_1 hl368_1
              replace p368 := eq_true p368
              replace q368 := eq_true q368
              refine start_ (n := 36) (S := fun w' => w'.cell? ⟨gb367, 0, none⟩ = some (.int .i64 ((rd_T94 l1_1 x15_1).f0)) ∧ w'.cell? ⟨gb367, 1, none⟩ = some (.slice A366_1 ((rd_T94 l1_1 x15_1).f1).length c366_1) ∧ w'.cell? ⟨gb363, 0, none⟩ = some (.int .i64 a0_0) ∧ w'.cell? ⟨gb363, 1, none⟩ = some (.int .i64 a0_1) ∧ w'.cell? ⟨gb363, 2, none⟩ = some (.slice A0_2 l0_2.length c0_2) ∧ w'.cell? ⟨gb363, 3, none⟩ = some (.slice A0_3 l0_3.length c0_3) ∧ w'.cell? ⟨gb364, 0, none⟩ = some (.slice A1_0 l1_0.length c1_0) ∧ w'.cell? ⟨gb364, 1, none⟩ = some (.slice (some ad366) l1_1.length c1_1) ∧ w'.cell? (ad366.add (((ji30)).toNat * 2)) = some (.int .i64 ((rd_T94 l1_1 (ji30)).f0)) ∧ w'.cell? ⟨(ad366.add (((ji30)).toNat * 2)).block, (ad366.add (((ji30)).toNat * 2)).off + 1, none⟩ = some (.slice A368_1 ((rd_T94 l1_1 (ji30)).f1).length c368_1)) (ds := []) (Sh.nm 36 0) (by kernel_rfl) rfl rfl Sh.cs (fun hHeld => ?_); refine with_tabW impl_Program_isCommand.tab6 impl_Program_isCommand.bits6 (fun HT_ HW_ => ?_)
              generalize w46.drew = w47 at BK363 BK364 BK367 HB HR368_1 hx368_0 hx368_1 hHeld ⊢
              refine Sh.qA 0 ?_; refine Sh.qT 1 hHeld ?_; refine Sh.qA 2 ?_; refine Sh.qA 3 ?_; refine Sh.qA 4 ?_; refine Sh.qA 6 ?_; refine Sh.qT 5 hHeld ?_; refine Sh.qT 7 hHeld ?_; refine Sh.qA 8 ?_; refine Sh.qA 9 ?_; refine Sh.qA 10 ?_; refine Sh.qA 11 ?_; refine Sh.qA 12 ?_; refine Sh.qA 13 ?_; refine Sh.qA 14 ?_; refine Sh.qA 16 ?_; refine Sh.qA 17 ?_; refine Sh.qA 21 ?_; refine Sh.qT 15 hHeld ?_; refine Sh.qA 18 ?_; refine Sh.qA 19 ?_; refine Sh.qT 20 hHeld ?_; refine Sh.qT 22 hHeld ?_; refine Sh.qA 23 ?_; refine Sh.qA 24 ?_; refine Sh.qA 25 ?_; refine Sh.qA 26 ?_; refine Sh.qA 27 ?_; refine Sh.qA 29 ?_; refine Sh.qA 31 ?_; refine Sh.qT 28 hHeld ?_; refine Sh.qT 30 hHeld ?_; refine Sh.qT 32 hHeld ?_
              refine Sh.oC 33 Tryz.func81 #[.int .i64 a0_0, .int .i64 a0_1, .slice A366_1 ((rd_T94 l1_1 x15_1).f1).length c366_1, .int .i64 1] fun K hK => ?_
              with_reducible refine (impl_isTermOf.calls k1 a0_0 a0_1 _ _ ((rd_T94 l1_1 x15_1).f1) 1 true _ (Sh.cB HR366_1.out) HC366_1.out A40.out).mono ?_
              rintro e w48 ⟨rfl, hb⟩
              refine ⟨_, rfl, ?_⟩
              replace BK363 := Sh.ab BK363 hb
              replace BK364 := Sh.ab BK364 hb
              replace BK367 := Sh.ab BK367 hb
              replace HB := Sh.hb hb
              (try clear hb)
              (try clear hb2)
              (try clear hk)
              (try clear hi)
              refine Sh.kN hK Sh.cs fun hHeld => ?_
              clear hK K
              refine Sh.qA 34 ?_; refine Sh.qA 35 ?_
              refine done_ (done_of HT_.out (by kernel_rfl)) ?_
              try go_wp2
              go_roundg k1
              case measure => have := HK1.out; omega
              case rel => exact ⟨(wrap64 (x15_1 + 1)), (Sh.es), H', ⟨by have := HK1.out; omega⟩, ⟨by refine Sh.pl ?_; exact BK363.out⟩, ⟨by refine Sh.pl ?_; exact BK364.out⟩, ⟨Sh.bw⟩⟩
             ·replace c41 := Bool.eq_false_iff.mpr c41
              subst c41
              rw [Sh.nf] at H
              obtain rfl := Option.some.inj H
              have p366 : 0 ≤ (x15_1 : Int) := Sh.od
              have q366 : x15_1 < (l1_1.length : Int) := Sh.od
              obtain ⟨ad366, A366_1, c366_1, e366, hx366_0, hx366_1, hl366_1, hi366_1⟩ := at_T94 HR1_1.out x15_1 p366 q366
              cases e366
              try replace hx366_0 := Sh.cw hx366_0
              try replace hx366_1 := Sh.cw hx366_1
              have HR366_1 := am_ hi366_1
              have HC366_1 := am_ hl366_1
              clear hi366_1 hl366_1
              replace p366 := eq_true p366
              replace q366 := eq_true q366
              try go_wp2_with (first | ((with_reducible refine Sh.d 6 ?_); refine Sh.bx (N := 6) (cs := #[.int .i64 0, .slice none 0 0]) (t := 94) (h := ?_); intro gb367 hg w49 hbox hb; have BK367 := am_ hbox; have GE367 := Sh.ag w hg; replace HB := Sh.hb hb; have NB363_367 := am_ (Sh.nl hg BK363.out); have NB367_363 := am_ (Sh.ng hg BK363.out); replace BK363 := Sh.ab BK363 hb; have NB364_367 := am_ (Sh.nl hg BK364.out); have NB367_364 := am_ (Sh.ng hg BK364.out); replace BK364 := Sh.ab BK364 hb; clear hb hbox hg; have hnb50 := NB367_363.out; have hnc50 := NB363_367.out; have hnb51 := NB367_364.out; have hnc51 := NB364_367.out; obtain ⟨hcz52_0, hcz52_1, hfz52_0, hfz52_1⟩ := Sh.b2 BK367.out))
              have n0_ : Aside0 (((w49.setCell ⟨gb367, 0, none⟩ (.int .i64 ((rd_T94 l1_1 x15_1).f0))).setCell ⟨gb367, 1, none⟩ (.slice A366_1 ((rd_T94 l1_1 x15_1).f1).length c366_1)).heap[gb363]? = some (.cells #[.int .i64 a0_0, .int .i64 a0_1, .slice A0_2 l0_2.length c0_2, .slice A0_3 l0_3.length c0_3] 36 (0, 0))) := ⟨by refine Sh.pl ?_; refine blk_far ?_ NB363_367.out _; refine Sh.pl ?_; refine blk_far ?_ NB363_367.out _; refine Sh.pl ?_; exact BK363.out⟩
              have n1_ : Aside0 (((w49.setCell ⟨gb367, 0, none⟩ (.int .i64 ((rd_T94 l1_1 x15_1).f0))).setCell ⟨gb367, 1, none⟩ (.slice A366_1 ((rd_T94 l1_1 x15_1).f1).length c366_1)).heap[gb364]? = some (.cells #[.slice A1_0 l1_0.length c1_0, .slice (some ad366) l1_1.length c1_1] 72 (0, 0))) := ⟨by refine Sh.pl ?_; refine blk_far ?_ NB364_367.out _; refine Sh.pl ?_; refine blk_far ?_ NB364_367.out _; refine Sh.pl ?_; exact BK364.out⟩
              have n2_ : Aside0 (((w49.setCell ⟨gb367, 0, none⟩ (.int .i64 ((rd_T94 l1_1 x15_1).f0))).setCell ⟨gb367, 1, none⟩ (.slice A366_1 ((rd_T94 l1_1 x15_1).f1).length c366_1)).heap[gb367]? = some (.cells #[.int .i64 ((rd_T94 l1_1 x15_1).f0), .slice A366_1 ((rd_T94 l1_1 x15_1).f1).length c366_1] 94 (0, 0))) := ⟨by refine Sh.pl ?_; refine blk_put (cs := #[.int .i64 ((rd_T94 l1_1 x15_1).f0), .slice none 0 0]) ?_ 1 _ rfl; refine Sh.pl ?_; refine blk_put (cs := #[.int .i64 0, .slice none 0 0]) ?_ 0 _ rfl; refine Sh.pl ?_; exact BK367.out⟩
              have n3_ : Aside0 (Below w.heap.size w ((w49.setCell ⟨gb367, 0, none⟩ (.int .i64 ((rd_T94 l1_1 x15_1).f0))).setCell ⟨gb367, 1, none⟩ (.slice A366_1 ((rd_T94 l1_1 x15_1).f1).length c366_1))) := ⟨Sh.bw⟩
              (try clear BK363)
              (try clear BK364)
              (try clear BK367)
              (try clear HB)
              generalize ((w49.setCell ⟨gb367, 0, none⟩ (.int .i64 ((rd_T94 l1_1 x15_1).f0))).setCell ⟨gb367, 1, none⟩ (.slice A366_1 ((rd_T94 l1_1 x15_1).f1).length c366_1)) = w53 at n0_ n1_ n2_ n3_ ⊢
              have BK363 := n0_
              have BK364 := n1_
              have BK367 := n2_
              have HB := n3_
              clear n0_ n1_ n2_ n3_
              replace BK363 := am_ (blk_drew BK363.out)
              replace BK364 := am_ (blk_drew BK364.out)
              replace BK367 := am_ (blk_drew BK367.out)
              replace HB := am_ (below_drew1 HB.out)
              have p368 : 0 ≤ ((ji30) : Int) := Sh.od
              have q368 : (ji30) < (l1_1.length : Int) := Sh.od
              obtain ⟨ad368, A368_1, c368_1, e368, hx368_0, hx368_1, hl368_1, hi368_1⟩ := at_T94 HR1_1.out (ji30) p368 q368
              have hw368_1 := hx368_1
              have hw368_0 := hx368_0
              obtain rfl : ad366 = ad368 := (by injection e368)
              try replace hx368_0 := Sh.cw hx368_0
              try replace hx368_1 := Sh.cw hx368_1
              have HR368_1 := am_ hi368_1
              have HC368_1 := am_ hl368_1
              clear hi368_1 hl368_1
              replace p368 := eq_true p368
              replace q368 := eq_true q368
              refine start_ (n := 36) (S := fun w' => w'.cell? ⟨gb367, 0, none⟩ = some (.int .i64 ((rd_T94 l1_1 x15_1).f0)) ∧ w'.cell? ⟨gb367, 1, none⟩ = some (.slice A366_1 ((rd_T94 l1_1 x15_1).f1).length c366_1) ∧ w'.cell? ⟨gb363, 0, none⟩ = some (.int .i64 a0_0) ∧ w'.cell? ⟨gb363, 1, none⟩ = some (.int .i64 a0_1) ∧ w'.cell? ⟨gb363, 2, none⟩ = some (.slice A0_2 l0_2.length c0_2) ∧ w'.cell? ⟨gb363, 3, none⟩ = some (.slice A0_3 l0_3.length c0_3) ∧ w'.cell? ⟨gb364, 0, none⟩ = some (.slice A1_0 l1_0.length c1_0) ∧ w'.cell? ⟨gb364, 1, none⟩ = some (.slice (some ad366) l1_1.length c1_1) ∧ w'.cell? (ad366.add (((ji30)).toNat * 2)) = some (.int .i64 ((rd_T94 l1_1 (ji30)).f0)) ∧ w'.cell? ⟨(ad366.add (((ji30)).toNat * 2)).block, (ad366.add (((ji30)).toNat * 2)).off + 1, none⟩ = some (.slice A368_1 ((rd_T94 l1_1 (ji30)).f1).length c368_1)) (ds := []) (Sh.nm 36 0) (by kernel_rfl) rfl rfl Sh.cs (fun hHeld => ?_); refine with_tabW impl_Program_isCommand.tab6 impl_Program_isCommand.bits6 (fun HT_ HW_ => ?_)
              generalize w53.drew = w54 at BK363 BK364 BK367 HB HR368_1 hx368_0 hx368_1 hHeld ⊢
              refine Sh.qA 0 ?_; refine Sh.qT 1 hHeld ?_; refine Sh.qA 2 ?_; refine Sh.qA 3 ?_; refine Sh.qA 4 ?_; refine Sh.qA 6 ?_; refine Sh.qT 5 hHeld ?_; refine Sh.qT 7 hHeld ?_; refine Sh.qA 8 ?_; refine Sh.qA 9 ?_; refine Sh.qA 10 ?_; refine Sh.qA 11 ?_; refine Sh.qA 12 ?_; refine Sh.qA 13 ?_; refine Sh.qA 14 ?_; refine Sh.qA 16 ?_; refine Sh.qA 17 ?_; refine Sh.qA 21 ?_; refine Sh.qT 15 hHeld ?_; refine Sh.qA 18 ?_; refine Sh.qA 19 ?_; refine Sh.qT 20 hHeld ?_; refine Sh.qT 22 hHeld ?_; refine Sh.qA 23 ?_; refine Sh.qA 24 ?_; refine Sh.qA 25 ?_; refine Sh.qA 26 ?_; refine Sh.qA 27 ?_; refine Sh.qA 29 ?_; refine Sh.qA 31 ?_; refine Sh.qT 28 hHeld ?_; refine Sh.qT 30 hHeld ?_; refine Sh.qT 32 hHeld ?_
              refine Sh.oC 33 Tryz.func81 #[.int .i64 a0_0, .int .i64 a0_1, .slice A366_1 ((rd_T94 l1_1 x15_1).f1).length c366_1, .int .i64 1] fun K hK => ?_
              with_reducible refine (impl_isTermOf.calls k1 a0_0 a0_1 _ _ ((rd_T94 l1_1 x15_1).f1) 1 false _ (Sh.cB HR366_1.out) HC366_1.out A40.out).mono ?_
              rintro e w55 ⟨rfl, hb⟩
              refine ⟨_, rfl, ?_⟩
              replace BK363 := Sh.ab BK363 hb
              replace BK364 := Sh.ab BK364 hb
              replace BK367 := Sh.ab BK367 hb
              replace HB := Sh.hb hb
              (try clear hb)
              (try clear hb2)
              (try clear hk)
              (try clear hi)
              refine Sh.kN hK Sh.cs fun hHeld => ?_
              clear hK K
              refine Sh.qA 34 ?_; refine Sh.qA 35 ?_
              refine done_ (done_of HT_.out (by kernel_rfl)) ?_
              try go_wp2
              go_ret
              exact ⟨by first | rfl | (simp [errW_none, errW_some] <;> rfl) | (simp only [← hj1]; first | rfl | (simp [errW_none, errW_some] <;> rfl)) | (simp [*, errW_none, errW_some] <;> rfl), Sh.bw⟩
           ·rw [if_neg c32] at H
            exact absurd H (by simp)
          ·rw [if_neg c31] at H
           exact absurd H (by simp)
         ·rw [if_neg c29] at H
          have c29b0 : decide (0 < x15_1) = false := decide_eq_false c29
          clear c29
          obtain ⟨t370, A56, H⟩ := Sh.ba H
          by_cases c57 : t370 = true
          ·subst c57
           rw [if_pos rfl] at H
           have H' := am_ H
           clear H
           have p366 : 0 ≤ (x15_1 : Int) := Sh.od
           have q366 : x15_1 < (l1_1.length : Int) := Sh.od
           obtain ⟨ad366, A366_1, c366_1, e366, hx366_0, hx366_1, hl366_1, hi366_1⟩ := at_T94 HR1_1.out x15_1 p366 q366
           cases e366
           try replace hx366_0 := Sh.cw hx366_0
           try replace hx366_1 := Sh.cw hx366_1
           have HR366_1 := am_ hi366_1
           have HC366_1 := am_ hl366_1
           clear hi366_1 hl366_1
           replace p366 := eq_true p366
           replace q366 := eq_true q366
           try go_wp2_with (first | ((with_reducible refine Sh.d 6 ?_); refine Sh.bx (N := 6) (cs := #[.int .i64 0, .slice none 0 0]) (t := 94) (h := ?_); intro gb367 hg w58 hbox hb; have BK367 := am_ hbox; have GE367 := Sh.ag w hg; replace HB := Sh.hb hb; have NB363_367 := am_ (Sh.nl hg BK363.out); have NB367_363 := am_ (Sh.ng hg BK363.out); replace BK363 := Sh.ab BK363 hb; have NB364_367 := am_ (Sh.nl hg BK364.out); have NB367_364 := am_ (Sh.ng hg BK364.out); replace BK364 := Sh.ab BK364 hb; clear hb hbox hg; have hnb59 := NB367_363.out; have hnc59 := NB363_367.out; have hnb60 := NB367_364.out; have hnc60 := NB364_367.out; obtain ⟨hcz61_0, hcz61_1, hfz61_0, hfz61_1⟩ := Sh.b2 BK367.out))
           have n0_ : Aside0 (((w58.setCell ⟨gb367, 0, none⟩ (.int .i64 ((rd_T94 l1_1 x15_1).f0))).setCell ⟨gb367, 1, none⟩ (.slice A366_1 ((rd_T94 l1_1 x15_1).f1).length c366_1)).heap[gb363]? = some (.cells #[.int .i64 a0_0, .int .i64 a0_1, .slice A0_2 l0_2.length c0_2, .slice A0_3 l0_3.length c0_3] 36 (0, 0))) := ⟨by refine Sh.pl ?_; refine blk_far ?_ NB363_367.out _; refine Sh.pl ?_; refine blk_far ?_ NB363_367.out _; refine Sh.pl ?_; exact BK363.out⟩
           have n1_ : Aside0 (((w58.setCell ⟨gb367, 0, none⟩ (.int .i64 ((rd_T94 l1_1 x15_1).f0))).setCell ⟨gb367, 1, none⟩ (.slice A366_1 ((rd_T94 l1_1 x15_1).f1).length c366_1)).heap[gb364]? = some (.cells #[.slice A1_0 l1_0.length c1_0, .slice (some ad366) l1_1.length c1_1] 72 (0, 0))) := ⟨by refine Sh.pl ?_; refine blk_far ?_ NB364_367.out _; refine Sh.pl ?_; refine blk_far ?_ NB364_367.out _; refine Sh.pl ?_; exact BK364.out⟩
           have n2_ : Aside0 (((w58.setCell ⟨gb367, 0, none⟩ (.int .i64 ((rd_T94 l1_1 x15_1).f0))).setCell ⟨gb367, 1, none⟩ (.slice A366_1 ((rd_T94 l1_1 x15_1).f1).length c366_1)).heap[gb367]? = some (.cells #[.int .i64 ((rd_T94 l1_1 x15_1).f0), .slice A366_1 ((rd_T94 l1_1 x15_1).f1).length c366_1] 94 (0, 0))) := ⟨by refine Sh.pl ?_; refine blk_put (cs := #[.int .i64 ((rd_T94 l1_1 x15_1).f0), .slice none 0 0]) ?_ 1 _ rfl; refine Sh.pl ?_; refine blk_put (cs := #[.int .i64 0, .slice none 0 0]) ?_ 0 _ rfl; refine Sh.pl ?_; exact BK367.out⟩
           have n3_ : Aside0 (Below w.heap.size w ((w58.setCell ⟨gb367, 0, none⟩ (.int .i64 ((rd_T94 l1_1 x15_1).f0))).setCell ⟨gb367, 1, none⟩ (.slice A366_1 ((rd_T94 l1_1 x15_1).f1).length c366_1))) := ⟨Sh.bw⟩
           (try clear BK363)
           (try clear BK364)
           (try clear BK367)
           (try clear HB)
           generalize ((w58.setCell ⟨gb367, 0, none⟩ (.int .i64 ((rd_T94 l1_1 x15_1).f0))).setCell ⟨gb367, 1, none⟩ (.slice A366_1 ((rd_T94 l1_1 x15_1).f1).length c366_1)) = w62 at n0_ n1_ n2_ n3_ ⊢
           have BK363 := n0_
           have BK364 := n1_
           have BK367 := n2_
           have HB := n3_
           clear n0_ n1_ n2_ n3_
           replace BK363 := am_ (blk_drew BK363.out)
           replace BK364 := am_ (blk_drew BK364.out)
           replace BK367 := am_ (blk_drew BK367.out)
           replace HB := am_ (below_drew1 HB.out)
           refine start_ (n := 36) (S := fun w' => w'.cell? ⟨gb367, 0, none⟩ = some (.int .i64 ((rd_T94 l1_1 x15_1).f0)) ∧ w'.cell? ⟨gb367, 1, none⟩ = some (.slice A366_1 ((rd_T94 l1_1 x15_1).f1).length c366_1) ∧ w'.cell? ⟨gb363, 0, none⟩ = some (.int .i64 a0_0) ∧ w'.cell? ⟨gb363, 1, none⟩ = some (.int .i64 a0_1) ∧ w'.cell? ⟨gb363, 2, none⟩ = some (.slice A0_2 l0_2.length c0_2) ∧ w'.cell? ⟨gb363, 3, none⟩ = some (.slice A0_3 l0_3.length c0_3)) (ds := []) (Sh.nm 36 0) (by kernel_rfl) rfl rfl Sh.cs (fun hHeld => ?_); refine with_tabW impl_Program_isCommand.tab6 impl_Program_isCommand.bits6 (fun HT_ HW_ => ?_)
           generalize w62.drew = w63 at BK363 BK364 BK367 HB hHeld ⊢
           refine Sh.qA 0 ?_; refine Sh.qT 1 hHeld ?_; refine Sh.qA 2 ?_; refine Sh.qA 3 ?_; refine Sh.qA 4 ?_; refine Sh.qA 6 ?_; refine Sh.qT 5 hHeld ?_; refine Sh.qT 7 hHeld ?_; refine Sh.qA 8 ?_; refine Sh.qA 9 ?_; refine Sh.qA 10 ?_; refine Sh.qA 11 ?_; refine Sh.qA 12 ?_; refine Sh.qA 13 ?_; refine Sh.qU 14 ?_; refine Sh.qU 15 ?_; refine Sh.qU 16 ?_; refine Sh.qU 17 ?_; refine Sh.qU 18 ?_; refine Sh.qU 19 ?_; refine Sh.qU 20 ?_; refine Sh.qU 21 ?_; refine Sh.qU 22 ?_; refine Sh.qU 23 ?_; refine Sh.qA 24 ?_; refine Sh.qA 25 ?_; refine Sh.qA 26 ?_; refine Sh.qA 27 ?_; refine Sh.qA 29 ?_; refine Sh.qA 31 ?_; refine Sh.qT 28 hHeld ?_; refine Sh.qT 30 hHeld ?_; refine Sh.qT 32 hHeld ?_
           refine Sh.oC 33 Tryz.func81 #[.int .i64 a0_0, .int .i64 a0_1, .slice A366_1 ((rd_T94 l1_1 x15_1).f1).length c366_1, .int .i64 1] fun K hK => ?_
           with_reducible refine (impl_isTermOf.calls k1 a0_0 a0_1 _ _ ((rd_T94 l1_1 x15_1).f1) 1 true _ (Sh.cB HR366_1.out) HC366_1.out A56.out).mono ?_
           rintro e w64 ⟨rfl, hb⟩
           refine ⟨_, rfl, ?_⟩
           replace BK363 := Sh.ab BK363 hb
           replace BK364 := Sh.ab BK364 hb
           replace BK367 := Sh.ab BK367 hb
           replace HB := Sh.hb hb
           (try clear hb)
           (try clear hb2)
           (try clear hk)
           (try clear hi)
           refine Sh.kN hK Sh.cs fun hHeld => ?_
           clear hK K
           refine Sh.qA 34 ?_; refine Sh.qA 35 ?_
           refine done_ (done_of HT_.out (by kernel_rfl)) ?_
           try go_wp2
           go_roundg k1
           case measure => have := HK1.out; omega
           case rel => exact ⟨(wrap64 (x15_1 + 1)), (Sh.es), H', ⟨by have := HK1.out; omega⟩, ⟨by refine Sh.pl ?_; exact BK363.out⟩, ⟨by refine Sh.pl ?_; exact BK364.out⟩, ⟨Sh.bw⟩⟩
          ·replace c57 := Bool.eq_false_iff.mpr c57
           subst c57
           rw [Sh.nf] at H
           obtain rfl := Option.some.inj H
           have p366 : 0 ≤ (x15_1 : Int) := Sh.od
           have q366 : x15_1 < (l1_1.length : Int) := Sh.od
           obtain ⟨ad366, A366_1, c366_1, e366, hx366_0, hx366_1, hl366_1, hi366_1⟩ := at_T94 HR1_1.out x15_1 p366 q366
           cases e366
           try replace hx366_0 := Sh.cw hx366_0
           try replace hx366_1 := Sh.cw hx366_1
           have HR366_1 := am_ hi366_1
           have HC366_1 := am_ hl366_1
           clear hi366_1 hl366_1
           replace p366 := eq_true p366
           replace q366 := eq_true q366
           try go_wp2_with (first | ((with_reducible refine Sh.d 6 ?_); refine Sh.bx (N := 6) (cs := #[.int .i64 0, .slice none 0 0]) (t := 94) (h := ?_); intro gb367 hg w65 hbox hb; have BK367 := am_ hbox; have GE367 := Sh.ag w hg; replace HB := Sh.hb hb; have NB363_367 := am_ (Sh.nl hg BK363.out); have NB367_363 := am_ (Sh.ng hg BK363.out); replace BK363 := Sh.ab BK363 hb; have NB364_367 := am_ (Sh.nl hg BK364.out); have NB367_364 := am_ (Sh.ng hg BK364.out); replace BK364 := Sh.ab BK364 hb; clear hb hbox hg; have hnb66 := NB367_363.out; have hnc66 := NB363_367.out; have hnb67 := NB367_364.out; have hnc67 := NB364_367.out; obtain ⟨hcz68_0, hcz68_1, hfz68_0, hfz68_1⟩ := Sh.b2 BK367.out))
           have n0_ : Aside0 (((w65.setCell ⟨gb367, 0, none⟩ (.int .i64 ((rd_T94 l1_1 x15_1).f0))).setCell ⟨gb367, 1, none⟩ (.slice A366_1 ((rd_T94 l1_1 x15_1).f1).length c366_1)).heap[gb363]? = some (.cells #[.int .i64 a0_0, .int .i64 a0_1, .slice A0_2 l0_2.length c0_2, .slice A0_3 l0_3.length c0_3] 36 (0, 0))) := ⟨by refine Sh.pl ?_; refine blk_far ?_ NB363_367.out _; refine Sh.pl ?_; refine blk_far ?_ NB363_367.out _; refine Sh.pl ?_; exact BK363.out⟩
           have n1_ : Aside0 (((w65.setCell ⟨gb367, 0, none⟩ (.int .i64 ((rd_T94 l1_1 x15_1).f0))).setCell ⟨gb367, 1, none⟩ (.slice A366_1 ((rd_T94 l1_1 x15_1).f1).length c366_1)).heap[gb364]? = some (.cells #[.slice A1_0 l1_0.length c1_0, .slice (some ad366) l1_1.length c1_1] 72 (0, 0))) := ⟨by refine Sh.pl ?_; refine blk_far ?_ NB364_367.out _; refine Sh.pl ?_; refine blk_far ?_ NB364_367.out _; refine Sh.pl ?_; exact BK364.out⟩
           have n2_ : Aside0 (((w65.setCell ⟨gb367, 0, none⟩ (.int .i64 ((rd_T94 l1_1 x15_1).f0))).setCell ⟨gb367, 1, none⟩ (.slice A366_1 ((rd_T94 l1_1 x15_1).f1).length c366_1)).heap[gb367]? = some (.cells #[.int .i64 ((rd_T94 l1_1 x15_1).f0), .slice A366_1 ((rd_T94 l1_1 x15_1).f1).length c366_1] 94 (0, 0))) := ⟨by refine Sh.pl ?_; refine blk_put (cs := #[.int .i64 ((rd_T94 l1_1 x15_1).f0), .slice none 0 0]) ?_ 1 _ rfl; refine Sh.pl ?_; refine blk_put (cs := #[.int .i64 0, .slice none 0 0]) ?_ 0 _ rfl; refine Sh.pl ?_; exact BK367.out⟩
           have n3_ : Aside0 (Below w.heap.size w ((w65.setCell ⟨gb367, 0, none⟩ (.int .i64 ((rd_T94 l1_1 x15_1).f0))).setCell ⟨gb367, 1, none⟩ (.slice A366_1 ((rd_T94 l1_1 x15_1).f1).length c366_1))) := ⟨Sh.bw⟩
           (try clear BK363)
           (try clear BK364)
           (try clear BK367)
           (try clear HB)
           generalize ((w65.setCell ⟨gb367, 0, none⟩ (.int .i64 ((rd_T94 l1_1 x15_1).f0))).setCell ⟨gb367, 1, none⟩ (.slice A366_1 ((rd_T94 l1_1 x15_1).f1).length c366_1)) = w69 at n0_ n1_ n2_ n3_ ⊢
           have BK363 := n0_
           have BK364 := n1_
           have BK367 := n2_
           have HB := n3_
           clear n0_ n1_ n2_ n3_
           replace BK363 := am_ (blk_drew BK363.out)
           replace BK364 := am_ (blk_drew BK364.out)
           replace BK367 := am_ (blk_drew BK367.out)
           replace HB := am_ (below_drew1 HB.out)
           refine start_ (n := 36) (S := fun w' => w'.cell? ⟨gb367, 0, none⟩ = some (.int .i64 ((rd_T94 l1_1 x15_1).f0)) ∧ w'.cell? ⟨gb367, 1, none⟩ = some (.slice A366_1 ((rd_T94 l1_1 x15_1).f1).length c366_1) ∧ w'.cell? ⟨gb363, 0, none⟩ = some (.int .i64 a0_0) ∧ w'.cell? ⟨gb363, 1, none⟩ = some (.int .i64 a0_1) ∧ w'.cell? ⟨gb363, 2, none⟩ = some (.slice A0_2 l0_2.length c0_2) ∧ w'.cell? ⟨gb363, 3, none⟩ = some (.slice A0_3 l0_3.length c0_3)) (ds := []) (Sh.nm 36 0) (by kernel_rfl) rfl rfl Sh.cs (fun hHeld => ?_); refine with_tabW impl_Program_isCommand.tab6 impl_Program_isCommand.bits6 (fun HT_ HW_ => ?_)
           generalize w69.drew = w70 at BK363 BK364 BK367 HB hHeld ⊢
           refine Sh.qA 0 ?_; refine Sh.qT 1 hHeld ?_; refine Sh.qA 2 ?_; refine Sh.qA 3 ?_; refine Sh.qA 4 ?_; refine Sh.qA 6 ?_; refine Sh.qT 5 hHeld ?_; refine Sh.qT 7 hHeld ?_; refine Sh.qA 8 ?_; refine Sh.qA 9 ?_; refine Sh.qA 10 ?_; refine Sh.qA 11 ?_; refine Sh.qA 12 ?_; refine Sh.qA 13 ?_; refine Sh.qU 14 ?_; refine Sh.qU 15 ?_; refine Sh.qU 16 ?_; refine Sh.qU 17 ?_; refine Sh.qU 18 ?_; refine Sh.qU 19 ?_; refine Sh.qU 20 ?_; refine Sh.qU 21 ?_; refine Sh.qU 22 ?_; refine Sh.qU 23 ?_; refine Sh.qA 24 ?_; refine Sh.qA 25 ?_; refine Sh.qA 26 ?_; refine Sh.qA 27 ?_; refine Sh.qA 29 ?_; refine Sh.qA 31 ?_; refine Sh.qT 28 hHeld ?_; refine Sh.qT 30 hHeld ?_; refine Sh.qT 32 hHeld ?_
           refine Sh.oC 33 Tryz.func81 #[.int .i64 a0_0, .int .i64 a0_1, .slice A366_1 ((rd_T94 l1_1 x15_1).f1).length c366_1, .int .i64 1] fun K hK => ?_
           with_reducible refine (impl_isTermOf.calls k1 a0_0 a0_1 _ _ ((rd_T94 l1_1 x15_1).f1) 1 false _ (Sh.cB HR366_1.out) HC366_1.out A56.out).mono ?_
           rintro e w71 ⟨rfl, hb⟩
           refine ⟨_, rfl, ?_⟩
           replace BK363 := Sh.ab BK363 hb
           replace BK364 := Sh.ab BK364 hb
           replace BK367 := Sh.ab BK367 hb
           replace HB := Sh.hb hb
           (try clear hb)
           (try clear hb2)
           (try clear hk)
           (try clear hi)
           refine Sh.kN hK Sh.cs fun hHeld => ?_
           clear hK K
           refine Sh.qA 34 ?_; refine Sh.qA 35 ?_
           refine done_ (done_of HT_.out (by kernel_rfl)) ?_
           try go_wp2
           go_ret
           exact ⟨Sh.eR, Sh.bw⟩
      ·rw [if_neg c14] at H
       exact absurd H (by simp)
     ·rw [if_neg c13] at H
      exact absurd H (by simp)
    ·rw [if_neg c12] at H
     have c12b0 := decide_eq_false c12
     clear c12
     obtain rfl := Option.some.inj H
     go_wp2
     go_ret
     exact ⟨Sh.eR, Sh.bw⟩
 ·replace c4 := Bool.eq_false_iff.mpr c4
  subst c4
  rw [Sh.nf] at H
  obtain rfl := Option.some.inj H
  go_enter Tryz.func66, Tryz.ntmps66
  go_wp2_with (first | ((with_reducible refine Sh.d 2 ?_); refine Sh.bz w (N := 2) (cs := #[.int .i64 a0_0, .int .i64 a0_1, .slice A0_2 l0_2.length c0_2, .slice A0_3 l0_3.length c0_3]) (t := 36) (h := ?_); clear HB; intro gb363 w72 BK363 GE363 HB) | ((with_reducible refine Sh.d 3 ?_); refine Sh.bx (N := 3) (cs := #[.slice A1_0 l1_0.length c1_0, .slice A1_1 l1_1.length c1_1]) (t := 72) (h := ?_); intro gb364 hg w73 hbox hb; have BK364 := am_ hbox; have GE364 := Sh.ag w hg; replace HB := Sh.hb hb; have NB363_364 := am_ (Sh.nl hg BK363.out); have NB364_363 := am_ (Sh.ng hg BK363.out); replace BK363 := Sh.ab BK363 hb; clear hb hbox hg; have hnb74 := NB363_364.out; have hnc74 := NB364_363.out; obtain ⟨hcz75_0, hcz75_1, hcz75_2, hcz75_3, hfz75_0, hfz75_1, hfz75_2, hfz75_3⟩ := Sh.b4 BK363.out; obtain ⟨hcz76_0, hcz76_1, hfz76_0, hfz76_1⟩ := Sh.b2 BK364.out) | ((with_reducible refine Sh.k 63 ?_); refine Sh.gB (some 10) Tryz.func63 #[.agg #[.int .i64 a0_0, .int .i64 a0_1, .slice A0_2 l0_2.length c0_2, .slice A0_3 l0_3.length c0_3], .slice A1_0 l1_0.length c1_0] (impl_Program_isCondition.calls k a0_0 a0_1 _ _ l0_2 _ _ l0_3 _ _ l1_0 false _ (Sh.cB HR0_2.out) HC0_2.out (Sh.cB HR0_3.out) HC0_3.out (Sh.cB HR1_0.out) HC1_0.out A3.out) fun w77 hb => ?_; replace BK363 := Sh.ab BK363 hb; replace BK364 := Sh.ab BK364 hb; replace HB := Sh.hb hb; (try clear hb); (try clear hb2); (try clear hk); (try clear hi)))
  go_ret
  exact ⟨Sh.eR, Sh.bw⟩
def impl_GoodProgram_1.f (k : Nat) (l0_0 : List (S80)) (l0_1 : List (S94)) (a1_0 : Int) (a1_1 : Int) (l1_2 : List (S80)) (l1_3 : List (S72)) : Option (Bool) := (impl_Program_isCommand.f k a1_0 a1_1 l1_2 l1_3 l0_0 l0_1).bind fun t372 => (some (!t372))
theorem impl_GoodProgram_1.mono : ∀ a0 a1 a2 a3 a4 a5 k, LeO (impl_GoodProgram_1.f k a0 a1 a2 a3 a4 a5) (impl_GoodProgram_1.f (k + 1) a0 a1 a2 a3 a4 a5) := by
 intro a0 a1 a2 a3 a4 a5 k
 unfold impl_GoodProgram_1.f
 repeat' with_reducible first | apply impl_Program_isCommand.mono | exact LeO.refl _ | exact LeO.none _ | apply LeO.ite | refine LeO.bind ?_ fun _ => ?_
theorem impl_GoodProgram_1.calls (k : Nat) (A0_0 : Option Addr) (c0_0 : Nat) (l0_0 : List (S80)) (A0_1 : Option Addr) (c0_1 : Nat) (l0_1 : List (S94)) (bp1 : Nat) (a1_0 : Int) (a1_1 : Int) (A1_2 : Option Addr) (c1_2 : Nat) (l1_2 : List (S80)) (A1_3 : Option Addr) (c1_3 : Nat) (l1_3 : List (S72)) (r : Bool) (w : World) (hr0_0 : Kd.C k80 w A0_0 l0_0.length l0_0) (hc0_0 : l0_0.length ≤ c0_0) (hr0_1 : Kd.C k94 w A0_1 l0_1.length l0_1) (hc0_1 : l0_1.length ≤ c0_1) (hr1_2 : Kd.C k80 w A1_2 l1_2.length l1_2) (hc1_2 : l1_2.length ≤ c1_2) (hr1_3 : Kd.C k72 w A1_3 l1_3.length l1_3) (hc1_3 : l1_3.length ≤ c1_3) (hb1 : w.heap[bp1]? = some (.cells #[.int .i64 a1_0, .int .i64 a1_1, .slice A1_2 l1_2.length c1_2, .slice A1_3 l1_3.length c1_3] 36 (0, 0))) (h : impl_GoodProgram_1.f k l0_0 l0_1 a1_0 a1_1 l1_2 l1_3 = some r) :
  Calls Tryz.prog 65 #[.agg #[.slice A0_0 l0_0.length c0_0, .slice A0_1 l0_1.length c0_1], .pointer (some ⟨bp1, 0, none⟩)] w fun e w' => e = .returned (.bool r) ∧ Below w.heap.size w w' := by
 have hu72 := Tryz.underlying72
 have hu36 := Tryz.underlying36
 have HR0_0 := am_ hr0_0
 have HC0_0 := am_ hc0_0
 clear hr0_0 hc0_0
 have HR0_1 := am_ hr0_1
 have HC0_1 := am_ hc0_1
 clear hr0_1 hc0_1
 have HR1_2 := am_ hr1_2
 have HC1_2 := am_ hc1_2
 clear hr1_2 hc1_2
 have HR1_3 := am_ hr1_3
 have HC1_3 := am_ hc1_3
 clear hr1_3 hc1_3
 have HX1 := am_ hb1
 clear hb1
 have HB := am_ (Below.refl w.heap.size w)
 have H := h
 clear h
 unfold impl_GoodProgram_1.f at H
 obtain ⟨t372, A3, H⟩ := Sh.ba H
 obtain rfl := Option.some.inj H
 go_enter Tryz.func65, Tryz.ntmps65
 go_wp2_with (first | ((with_reducible refine Sh.d 2 ?_); refine Sh.bx (N := 2) (cs := #[.slice A0_0 l0_0.length c0_0, .slice A0_1 l0_1.length c0_1]) (t := 72) (h := ?_); intro gb371 hg w4 hbox hb; have BK371 := am_ hbox; have GE371 := Sh.ag w hg; replace HB := Sh.hb hb; have NB1_371 := am_ ((by rw [hg]; exact Nat.ne_of_lt (blk_lt (g := bp1) (o := .cells #[.int .i64 a1_0, .int .i64 a1_1, .slice A1_2 l1_2.length c1_2, .slice A1_3 l1_3.length c1_3] 36 (0, 0)) (Sh.pl HX1.out)) : bp1 ≠ gb371)); have NB371_1 := am_ ((by rw [hg]; exact Nat.ne_of_gt (blk_lt (g := bp1) (o := .cells #[.int .i64 a1_0, .int .i64 a1_1, .slice A1_2 l1_2.length c1_2, .slice A1_3 l1_3.length c1_3] 36 (0, 0)) (Sh.pl HX1.out)) : gb371 ≠ bp1)); replace HX1 := am_ (blk_below (g := bp1) (o := .cells #[.int .i64 a1_0, .int .i64 a1_1, .slice A1_2 l1_2.length c1_2, .slice A1_3 l1_3.length c1_3] 36 (0, 0)) (Sh.pl HX1.out) hb); clear hb hbox hg; have hnb5 := NB1_371.out; have hnc5 := NB371_1.out; have hcz6_0 : w4.cell? ⟨bp1, 0, none⟩ = some (.int .i64 a1_0) := (blk_cell HX1.out 0).trans rfl; have hcz6_1 : w4.cell? ⟨bp1, 1, none⟩ = some (.int .i64 a1_1) := (blk_cell HX1.out 1).trans rfl; have hcz6_2 : w4.cell? ⟨bp1, 2, none⟩ = some (.slice A1_2 l1_2.length c1_2) := (blk_cell HX1.out 2).trans rfl; have hcz6_3 : w4.cell? ⟨bp1, 3, none⟩ = some (.slice A1_3 l1_3.length c1_3) := (blk_cell HX1.out 3).trans rfl; have hfz6_0 := blk_frozen HX1.out 0; have hfz6_1 := blk_frozen HX1.out 1; have hfz6_2 := blk_frozen HX1.out 2; have hfz6_3 := blk_frozen HX1.out 3; obtain ⟨hcz7_0, hcz7_1, hfz7_0, hfz7_1⟩ := Sh.b2 BK371.out) | ((with_reducible refine Sh.k 66 ?_); refine Sh.gB (some 6) Tryz.func66 #[.agg #[.int .i64 a1_0, .int .i64 a1_1, .slice A1_2 l1_2.length c1_2, .slice A1_3 l1_3.length c1_3], .agg #[.slice A0_0 l0_0.length c0_0, .slice A0_1 l0_1.length c0_1]] (impl_Program_isCommand.calls k a1_0 a1_1 _ _ l1_2 _ _ l1_3 _ _ l0_0 _ _ l0_1 t372 _ (Sh.cB HR1_2.out) HC1_2.out (Sh.cB HR1_3.out) HC1_3.out (Sh.cB HR0_0.out) HC0_0.out (Sh.cB HR0_1.out) HC0_1.out A3.out) fun w8 hb => ?_; replace HX1 := am_ (blk_below (g := bp1) (o := .cells #[.int .i64 a1_0, .int .i64 a1_1, .slice A1_2 l1_2.length c1_2, .slice A1_3 l1_3.length c1_3] 36 (0, 0)) (Sh.pl HX1.out) hb); replace BK371 := Sh.ab BK371 hb; replace HB := Sh.hb hb; (try clear hb); (try clear hb2); (try clear hk); (try clear hi)))
 go_ret
 exact ⟨Sh.eR, Sh.bw⟩
def impl_Command_64_by_impl_GoodProgram_1.f (k : Nat) (l0 : List (S72)) (a1_0 : Int) (a1_1 : Int) (l1_2 : List (S80)) (l1_3 : List (S72)) : Option (Bool) := anyO (fun x_ => impl_GoodProgram_1.f k x_.f0 x_.f1 a1_0 a1_1 l1_2 l1_3) l0
theorem impl_Command_64_by_impl_GoodProgram_1.mono : ∀ a0 a1 a2 a3 a4 k, LeO (impl_Command_64_by_impl_GoodProgram_1.f k a0 a1 a2 a3 a4) (impl_Command_64_by_impl_GoodProgram_1.f (k + 1) a0 a1 a2 a3 a4) := by
 intro a0 a1 a2 a3 a4 k
 unfold impl_Command_64_by_impl_GoodProgram_1.f
 with_reducible exact anyO_mono (fun x_ => impl_GoodProgram_1.mono (S72.f0 x_) (S72.f1 x_) a1 a2 a3 a4 k) a0
theorem impl_Command_64_by_impl_GoodProgram_1.calls (k : Nat) (A0 : Option Addr) (c0 : Nat) (l0 : List (S72)) (bp1 : Nat) (a1_0 : Int) (a1_1 : Int) (A1_2 : Option Addr) (c1_2 : Nat) (l1_2 : List (S80)) (A1_3 : Option Addr) (c1_3 : Nat) (l1_3 : List (S72)) (r : Bool) (w : World) (hr0 : Kd.C k72 w A0 l0.length l0) (hc0 : l0.length ≤ c0) (hr1_2 : Kd.C k80 w A1_2 l1_2.length l1_2) (hc1_2 : l1_2.length ≤ c1_2) (hr1_3 : Kd.C k72 w A1_3 l1_3.length l1_3) (hc1_3 : l1_3.length ≤ c1_3) (hb1 : w.heap[bp1]? = some (.cells #[.int .i64 a1_0, .int .i64 a1_1, .slice A1_2 l1_2.length c1_2, .slice A1_3 l1_3.length c1_3] 36 (0, 0))) (h : impl_Command_64_by_impl_GoodProgram_1.f k l0 a1_0 a1_1 l1_2 l1_3 = some r) :
  Calls Tryz.prog 64 #[.slice A0 l0.length c0, .func (.func 65) #[] #[.pointer (some ⟨bp1, 0, none⟩)]] w fun e w' => e = .returned (.bool r) ∧ Below w.heap.size w w' := by
 refine impl_Command_64.gen 65 #[.pointer (some ⟨bp1, 0, none⟩)] (enters_of Tryz.func65 (by kernel_rfl) rfl) _ A0 c0 l0 r w hr0 hc0 ?_ h
 intro W x b A0 c0 A1 c1 hB_ hin_ hq_ hl0_ hC0_ hl1_ hC1_
 refine (impl_GoodProgram_1.calls k _ _ x.f0 _ _ x.f1 bp1 a1_0 a1_1 _ _ l1_2 _ _ l1_3 b W hC0_ hl0_ hC1_ hl1_ (Kd.C_below hr1_2 hB_) hc1_2 (Kd.C_below hr1_3 hB_) hc1_3 ((hB_.block _ (blk_lt hb1)).trans hb1) hq_).mono ?_
 rintro e w' ⟨rfl, hd_⟩
 exact ⟨rfl, hd_⟩
def impl_GoodProgram.f (k : Nat) (a0_0 : Int) (a0_1 : Int) (l0_2 : List (S80)) (l0_3 : List (S72)) : Option (Bool) := (impl_isWide.f a0_0).bind fun t374 => (if t374 = true then ((impl_isVars.f a0_1).bind fun t375 => (if t375 = true then ((impl_Program_isCondition.f k a0_0 a0_1 l0_2 l0_3 l0_2).bind fun t376 => (if t376 = true then (if (l0_3.length : Int) < 1 then (some false) else (if (l0_3.length : Int) > 6 then (some false) else ((impl_Command_64_by_impl_GoodProgram_1.f k l0_3 a0_0 a0_1 l0_2 l0_3).bind fun t377 => (some (!t377))))) else (some false))) else (some false))) else (some false))
theorem impl_GoodProgram.mono : ∀ a0 a1 a2 a3 k, LeO (impl_GoodProgram.f k a0 a1 a2 a3) (impl_GoodProgram.f (k + 1) a0 a1 a2 a3) := by
 intro a0 a1 a2 a3 k
 unfold impl_GoodProgram.f
 repeat' with_reducible first | apply impl_Command_64_by_impl_GoodProgram_1.mono | apply impl_Program_isCondition.mono | exact LeO.refl _ | exact LeO.none _ | apply LeO.ite | refine LeO.bind ?_ fun _ => ?_
theorem impl_GoodProgram.calls (k : Nat) (a0_0 : Int) (a0_1 : Int) (A0_2 : Option Addr) (c0_2 : Nat) (l0_2 : List (S80)) (A0_3 : Option Addr) (c0_3 : Nat) (l0_3 : List (S72)) (r : Bool) (w : World) (hr0_2 : Kd.C k80 w A0_2 l0_2.length l0_2) (hc0_2 : l0_2.length ≤ c0_2) (hr0_3 : Kd.C k72 w A0_3 l0_3.length l0_3) (hc0_3 : l0_3.length ≤ c0_3) (h : impl_GoodProgram.f k a0_0 a0_1 l0_2 l0_3 = some r) :
  Calls Tryz.prog 47 #[.agg #[.int .i64 a0_0, .int .i64 a0_1, .slice A0_2 l0_2.length c0_2, .slice A0_3 l0_3.length c0_3]] w fun e w' => e = .returned (.bool r) ∧ Below w.heap.size w w' := by
 have hu36 := Tryz.underlying36
 have HR0_2 := am_ hr0_2
 have HC0_2 := am_ hc0_2
 clear hr0_2 hc0_2
 have HR0_3 := am_ hr0_3
 have HC0_3 := am_ hc0_3
 clear hr0_3 hc0_3
 have HB := am_ (Below.refl w.heap.size w)
 have H := h
 clear h
 unfold impl_GoodProgram.f at H
 obtain ⟨t374, A2, H⟩ := Sh.ba H
 by_cases c3 : t374 = true
 ·subst c3
  rw [if_pos rfl] at H
  obtain ⟨t375, A4, H⟩ := Sh.ba H
  by_cases c5 : t375 = true
  ·subst c5
   rw [if_pos rfl] at H
   obtain ⟨t376, A6, H⟩ := Sh.ba H
   by_cases c7 : t376 = true
   ·subst c7
    rw [if_pos rfl] at H
    by_cases c8 : (l0_3.length : Int) < 1
    ·rw [if_pos c8] at H
     have c8b0 := decide_eq_true c8
     have c8b1 : decide (l0_3.length < 1) = true := decide_eq_true (by omega)
     clear c8
     obtain rfl := Option.some.inj H
     go_enter Tryz.func47, Tryz.ntmps47
     go_wp2_with (first | ((with_reducible refine Sh.d 1 ?_); (try (refine gate_guard (by rfl) ?_; dsimp only)); refine Sh.bz w (N := 1) (cs := #[.int .i64 a0_0, .int .i64 a0_1, .slice A0_2 l0_2.length c0_2, .slice A0_3 l0_3.length c0_3]) (t := 36) (h := ?_); clear HB; intro gb373 w9 BK373 GE373 HB; obtain ⟨hcz10_0, hcz10_1, hcz10_2, hcz10_3, hfz10_0, hfz10_1, hfz10_2, hfz10_3⟩ := Sh.b4 BK373.out) | ((with_reducible refine Sh.k 61 ?_); refine Sh.gD (some 5) Tryz.func61 #[.int .i64 a0_0] (impl_isWide.calls a0_0 true _ A2.out) fun nd => ?_) | (go_at_call 62; (with_reducible refine (impl_isVars.calls a0_1 true _ A4.out).mono ?_); rintro e w' ⟨rfl, ⟨nd, rfl⟩⟩) | (go_at_call 63; (with_reducible refine (impl_Program_isCondition.calls k a0_0 a0_1 _ _ l0_2 _ _ l0_3 _ _ l0_2 true _ (Sh.cB HR0_2.out) HC0_2.out (Sh.cB HR0_3.out) HC0_3.out (Sh.cB HR0_2.out) HC0_2.out A6.out).mono ?_); rintro e w11 ⟨rfl, hb⟩; replace BK373 := Sh.ab BK373 hb; replace HB := Sh.hb hb; (try clear hb); (try clear hb2); (try clear hk); (try clear hi); obtain ⟨hcz12_0, hcz12_1, hcz12_2, hcz12_3, hfz12_0, hfz12_1, hfz12_2, hfz12_3⟩ := Sh.b4 BK373.out))
     go_ret
     exact ⟨Sh.eR, Sh.bw⟩
    ·rw [if_neg c8] at H
     have c8b0 := decide_eq_false c8
     have c8b1 : decide (l0_3.length < 1) = false := decide_eq_false (by omega)
     clear c8
     by_cases c13 : (l0_3.length : Int) > 6
     ·rw [if_pos c13] at H
      have c13b0 : decide (6 < (l0_3.length : Int)) = true := decide_eq_true c13
      have c13b1 : decide (6 < l0_3.length) = true := decide_eq_true (by omega)
      clear c13
      obtain rfl := Option.some.inj H
      go_enter Tryz.func47, Tryz.ntmps47
      go_wp2_with (first | ((with_reducible refine Sh.d 1 ?_); (try (refine gate_guard (by rfl) ?_; dsimp only)); refine Sh.bz w (N := 1) (cs := #[.int .i64 a0_0, .int .i64 a0_1, .slice A0_2 l0_2.length c0_2, .slice A0_3 l0_3.length c0_3]) (t := 36) (h := ?_); clear HB; intro gb373 w14 BK373 GE373 HB; obtain ⟨hcz15_0, hcz15_1, hcz15_2, hcz15_3, hfz15_0, hfz15_1, hfz15_2, hfz15_3⟩ := Sh.b4 BK373.out) | ((with_reducible refine Sh.k 61 ?_); refine Sh.gD (some 5) Tryz.func61 #[.int .i64 a0_0] (impl_isWide.calls a0_0 true _ A2.out) fun nd => ?_) | (go_at_call 62; (with_reducible refine (impl_isVars.calls a0_1 true _ A4.out).mono ?_); rintro e w' ⟨rfl, ⟨nd, rfl⟩⟩) | (go_at_call 63; (with_reducible refine (impl_Program_isCondition.calls k a0_0 a0_1 _ _ l0_2 _ _ l0_3 _ _ l0_2 true _ (Sh.cB HR0_2.out) HC0_2.out (Sh.cB HR0_3.out) HC0_3.out (Sh.cB HR0_2.out) HC0_2.out A6.out).mono ?_); rintro e w16 ⟨rfl, hb⟩; replace BK373 := Sh.ab BK373 hb; replace HB := Sh.hb hb; (try clear hb); (try clear hb2); (try clear hk); (try clear hi); obtain ⟨hcz17_0, hcz17_1, hcz17_2, hcz17_3, hfz17_0, hfz17_1, hfz17_2, hfz17_3⟩ := Sh.b4 BK373.out))
      go_ret
      exact ⟨Sh.eR, Sh.bw⟩
     ·rw [if_neg c13] at H
      have c13b0 : decide (6 < (l0_3.length : Int)) = false := decide_eq_false c13
      have c13b1 : decide (6 < l0_3.length) = false := decide_eq_false (by omega)
      clear c13
      obtain ⟨t377, A18, H⟩ := Sh.ba H
      obtain rfl := Option.some.inj H
      go_enter Tryz.func47, Tryz.ntmps47
      go_wp2_with (first | ((with_reducible refine Sh.d 1 ?_); (try (refine gate_guard (by rfl) ?_; dsimp only)); refine Sh.bz w (N := 1) (cs := #[.int .i64 a0_0, .int .i64 a0_1, .slice A0_2 l0_2.length c0_2, .slice A0_3 l0_3.length c0_3]) (t := 36) (h := ?_); clear HB; intro gb373 w19 BK373 GE373 HB; obtain ⟨hcz20_0, hcz20_1, hcz20_2, hcz20_3, hfz20_0, hfz20_1, hfz20_2, hfz20_3⟩ := Sh.b4 BK373.out) | ((with_reducible refine Sh.k 61 ?_); refine Sh.gD (some 5) Tryz.func61 #[.int .i64 a0_0] (impl_isWide.calls a0_0 true _ A2.out) fun nd => ?_) | (go_at_call 62; (with_reducible refine (impl_isVars.calls a0_1 true _ A4.out).mono ?_); rintro e w' ⟨rfl, ⟨nd, rfl⟩⟩) | (go_at_call 63; (with_reducible refine (impl_Program_isCondition.calls k a0_0 a0_1 _ _ l0_2 _ _ l0_3 _ _ l0_2 true _ (Sh.cB HR0_2.out) HC0_2.out (Sh.cB HR0_3.out) HC0_3.out (Sh.cB HR0_2.out) HC0_2.out A6.out).mono ?_); rintro e w21 ⟨rfl, hb⟩; replace BK373 := Sh.ab BK373 hb; replace HB := Sh.hb hb; (try clear hb); (try clear hb2); (try clear hk); (try clear hi); obtain ⟨hcz22_0, hcz22_1, hcz22_2, hcz22_3, hfz22_0, hfz22_1, hfz22_2, hfz22_3⟩ := Sh.b4 BK373.out) | ((with_reducible refine Sh.k 64 ?_); refine Sh.gL (some 35) Tryz.func64 #[.slice A0_3 l0_3.length c0_3, .func (.func 65) #[] #[.pointer (some ⟨gb373, 0, none⟩)]] (h := ?_); (with_reducible refine (impl_Command_64_by_impl_GoodProgram_1.calls k _ _ l0_3 gb373 a0_0 a0_1 A0_2 c0_2 l0_2 A0_3 c0_3 l0_3 t377 _ (Sh.cB HR0_3.out) HC0_3.out (Sh.cB HR0_2.out) HC0_2.out (Sh.cB HR0_3.out) HC0_3.out ?side7 A18.out).mono ?_); (case side7 => refine Sh.pl ?_; exact BK373.out); rintro e w23 ⟨rfl, hb⟩; refine ⟨_, rfl, ?_⟩; replace BK373 := Sh.ab BK373 hb; replace HB := Sh.hb hb; (try clear hb); (try clear hb2); (try clear hk); (try clear hi)))
      go_ret
      exact ⟨Sh.eR, Sh.bw⟩
   ·replace c7 := Bool.eq_false_iff.mpr c7
    subst c7
    rw [Sh.nf] at H
    obtain rfl := Option.some.inj H
    go_enter Tryz.func47, Tryz.ntmps47
    go_wp2_with (first | ((with_reducible refine Sh.d 1 ?_); (try (refine gate_guard (by rfl) ?_; dsimp only)); refine Sh.bz w (N := 1) (cs := #[.int .i64 a0_0, .int .i64 a0_1, .slice A0_2 l0_2.length c0_2, .slice A0_3 l0_3.length c0_3]) (t := 36) (h := ?_); clear HB; intro gb373 w24 BK373 GE373 HB; obtain ⟨hcz25_0, hcz25_1, hcz25_2, hcz25_3, hfz25_0, hfz25_1, hfz25_2, hfz25_3⟩ := Sh.b4 BK373.out) | ((with_reducible refine Sh.k 61 ?_); refine Sh.gD (some 5) Tryz.func61 #[.int .i64 a0_0] (impl_isWide.calls a0_0 true _ A2.out) fun nd => ?_) | (go_at_call 62; (with_reducible refine (impl_isVars.calls a0_1 true _ A4.out).mono ?_); rintro e w' ⟨rfl, ⟨nd, rfl⟩⟩) | (go_at_call 63; (with_reducible refine (impl_Program_isCondition.calls k a0_0 a0_1 _ _ l0_2 _ _ l0_3 _ _ l0_2 false _ (Sh.cB HR0_2.out) HC0_2.out (Sh.cB HR0_3.out) HC0_3.out (Sh.cB HR0_2.out) HC0_2.out A6.out).mono ?_); rintro e w26 ⟨rfl, hb⟩; replace BK373 := Sh.ab BK373 hb; replace HB := Sh.hb hb; (try clear hb); (try clear hb2); (try clear hk); (try clear hi)))
    go_ret
    exact ⟨Sh.eR, Sh.bw⟩
  ·replace c5 := Bool.eq_false_iff.mpr c5
   subst c5
   rw [Sh.nf] at H
   obtain rfl := Option.some.inj H
   go_enter Tryz.func47, Tryz.ntmps47
   go_wp2_with (first | ((with_reducible refine Sh.d 1 ?_); (try (refine gate_guard (by rfl) ?_; dsimp only)); refine Sh.bz w (N := 1) (cs := #[.int .i64 a0_0, .int .i64 a0_1, .slice A0_2 l0_2.length c0_2, .slice A0_3 l0_3.length c0_3]) (t := 36) (h := ?_); clear HB; intro gb373 w27 BK373 GE373 HB; obtain ⟨hcz28_0, hcz28_1, hcz28_2, hcz28_3, hfz28_0, hfz28_1, hfz28_2, hfz28_3⟩ := Sh.b4 BK373.out) | ((with_reducible refine Sh.k 61 ?_); refine Sh.gD (some 5) Tryz.func61 #[.int .i64 a0_0] (impl_isWide.calls a0_0 true _ A2.out) fun nd => ?_) | (go_at_call 62; (with_reducible refine (impl_isVars.calls a0_1 false _ A4.out).mono ?_); rintro e w' ⟨rfl, ⟨nd, rfl⟩⟩))
   go_ret
   exact ⟨Sh.eR, Sh.bw⟩
 ·replace c3 := Bool.eq_false_iff.mpr c3
  subst c3
  rw [Sh.nf] at H
  obtain rfl := Option.some.inj H
  go_enter Tryz.func47, Tryz.ntmps47
  go_wp2_with (first | ((with_reducible refine Sh.d 1 ?_); (try (refine gate_guard (by rfl) ?_; dsimp only)); refine Sh.bz w (N := 1) (cs := #[.int .i64 a0_0, .int .i64 a0_1, .slice A0_2 l0_2.length c0_2, .slice A0_3 l0_3.length c0_3]) (t := 36) (h := ?_); clear HB; intro gb373 w29 BK373 GE373 HB; obtain ⟨hcz30_0, hcz30_1, hcz30_2, hcz30_3, hfz30_0, hfz30_1, hfz30_2, hfz30_3⟩ := Sh.b4 BK373.out) | ((with_reducible refine Sh.k 61 ?_); refine Sh.gD (some 5) Tryz.func61 #[.int .i64 a0_0] (impl_isWide.calls a0_0 false _ A2.out) fun nd => ?_))
  go_ret
  exact ⟨Sh.eR, Sh.bw⟩
theorem slices_IndexFunc_uint64_uint64.gen (g : Nat) (lb : Array Value) (eg : ∀ args w, (callFunc g args).run Tryz.prog w = .ok (.enter g args) w) (q : Int → Option Bool) (A0 : Option Addr) (c0 : Nat) (l0 : List (Int)) (r : Int) (w : World) (hr0 : Kd.C (Kd.int .u64) w A0 l0.length l0) (hc0 : l0.length ≤ c0)
  (hp : ∀ (W : World) (x : Int) (b : Bool), Below w.heap.size w W → x ∈ l0 → q x = some b → Calls Tryz.prog g (#[.int .u64 x] ++ lb) W fun e w' => e = .returned (.bool b) ∧ Below W.heap.size W w')
  (h : idxO q l0 0 = some r) : Calls Tryz.prog 83 #[.slice A0 l0.length c0, .func (.func g) #[] lb] w fun e w' => e = .returned (.int .i64 r) ∧ Below w.heap.size w w' := by
 have HR := am_ hr0
 have HP := am_ hp
 have HH := am_ h
 have hn : l0.length ≤ 9223372036854775807 := hr0.2.1
 clear hr0 hp h
 go_enter Tryz.func83, Tryz.ntmps83
 go_wp2
 go_loopg [5, 8] l0.length (fun gg _ s8 wr => ∃ kk : Nat, kk ≤ l0.length ∧ l0.length - kk ≤ gg ∧ s8 = .int .i64 kk ∧ Aside0 (idxO q (l0.drop kk) kk = some r) ∧ Aside0 (Below w.heap.size w wr))
 case atStart => exact ⟨0, Nat.zero_le _, by omega, rfl, HH, ⟨Below.refl _ _⟩⟩
 case round =>
  obtain ⟨kk, hkk, hg, rfl, HA, HB⟩ := hrel
  clear HH
  by_cases hlt : kk < l0.length
  ·have hltz : (kk : Int) < (l0.length : Int) := by omega
   have h0z : 0 ≤ (kk : Int) := by omega
   obtain ⟨ad, e, hx⟩ := Kd.at_int HR.out (kk : Int) h0z hltz
   have er : rd l0 (kk : Int) = l0.getD kk 0 := by simp [rd]
   rw [er] at hx
   have hA := HA.out
   rw [drop_getD hlt 0] at hA
   obtain ⟨b, hb, hA2⟩ := Option.bind_eq_some_iff.mp hA
   have HA2 := am_ hA2
   have hin := getD_in hlt (0 : Int)
   have hcall := HP.out wr _ b HB.out hin hb
   generalize l0.getD kk 0 = y at hx hcall
   clear HA hA hA2 hb er hin
   skip
   cases e
   simp only [Int.toNat_natCast] at hx
   replace hx := (HB.out.cell (World.block_lt_of_cell? w _ hx)).trans hx
   cases b with
   | true =>
    go_wp2_with (go_at_fn g; refine hcall.mono ?_; rintro e w' ⟨rfl, hb2⟩)
    go_ret
    have h3 := HA2.out
    simp only [if_true] at h3
    exact ⟨by rw [← Option.some.inj h3]; rfl, below_step HB.out hb2⟩
   | false =>
    go_wp2_with (go_at_fn g; refine hcall.mono ?_; rintro e w' ⟨rfl, hb2⟩)
    go_roundg (l0.length - (kk + 1))
    case measure => omega
    case rel =>
     refine ⟨kk + 1, by omega, by omega, by go_num, ⟨by have h3 := HA2.out; simpa using h3⟩, ⟨below_step HB.out hb2⟩⟩
  ·have hltz : ¬ (kk : Int) < (l0.length : Int) := by omega
   have hA := HA.out
   rw [List.drop_of_length_le (by omega)] at hA
   have h4 : (-1 : Int) = r := Option.some.inj hA
   subst h4
   clear HA hA
   have : kk = l0.length := by omega
   subst this
   go_wp2
   go_ret
   exact ⟨rfl, HB.out⟩
theorem slices_ContainsFunc_uint64_uint64.gen (g : Nat) (lb : Array Value) (eg : ∀ args w, (callFunc g args).run Tryz.prog w = .ok (.enter g args) w) (q : Int → Option Bool) (A0 : Option Addr) (c0 : Nat) (l0 : List (Int)) (r : Bool) (w : World) (hr0 : Kd.C (Kd.int .u64) w A0 l0.length l0) (hc0 : l0.length ≤ c0)
  (hp : ∀ (W : World) (x : Int) (b : Bool), Below w.heap.size w W → x ∈ l0 → q x = some b → Calls Tryz.prog g (#[.int .u64 x] ++ lb) W fun e w' => e = .returned (.bool b) ∧ Below W.heap.size W w')
  (h : anyO q l0 = some r) : Calls Tryz.prog 67 #[.slice A0 l0.length c0, .func (.func g) #[] lb] w fun e w' => e = .returned (.bool r) ∧ Below w.heap.size w w' := by
 obtain ⟨i, hi, hd⟩ := idxO_of_anyO l0 r 0 (Int.le_refl 0) h
 have HC := am_ (slices_IndexFunc_uint64_uint64.gen g lb eg q A0 c0 l0 i w hr0 hc0 hp hi)
 have HD := am_ hd
 clear hr0 hp h hi hd
 go_enter Tryz.func67, Tryz.ntmps67
 go_wp2_with (go_at_call 83; refine HC.out.mono ?_; rintro e w' ⟨rfl, hb2⟩)
 go_ret
 exact ⟨by rw [← HD.out]; rfl, hb2⟩
def impl_isState_1.f (a0 : Int) (a1_0 : Int) : Option (Bool) := (impl_GoodWord.f a1_0 a0).bind fun t378 => (some (!t378))
theorem impl_isState_1.calls (a0 : Int) (bp1 : Nat) (a1_0 : Int) (r : Bool) (w : World) (hb1 : w.heap[bp1]? = some (.cells #[.int .i64 a1_0] 3 (0, 0))) (h : impl_isState_1.f a0 a1_0 = some r) :
  Calls Tryz.prog 68 #[.int .u64 a0, .pointer (some ⟨bp1, 0, none⟩)] w fun e w' => e = .returned (.bool r) ∧ Drawn0 w w' := by
 have HX1 := am_ hb1
 clear hb1
 have H := h
 clear h
 unfold impl_isState_1.f at H
 obtain ⟨t378, A3, H⟩ := Sh.ba H
 obtain rfl := Option.some.inj H
 have hcz4_0 : w.cell? ⟨bp1, 0, none⟩ = some (.int .i64 a1_0) := (blk_cell HX1.out 0).trans rfl
 have hfz4_0 := blk_frozen HX1.out 0
 go_enter Tryz.func68, Tryz.ntmps68
 go_wp2_with (first | ((with_reducible refine Sh.k 69 ?_); refine Sh.gD (some 6) Tryz.func69 #[.int .i64 a1_0, .int .u64 a0] (impl_GoodWord.calls a1_0 a0 t378 _ A3.out) fun nd => ?_))
 go_ret
 exact ⟨Sh.es, Sh.dr⟩
def slices_ContainsFunc_uint64_uint64_by_impl_isState_1.f (l0 : List Int) (a1_0 : Int) : Option (Bool) := anyO (fun x_ => impl_isState_1.f x_ a1_0) l0
theorem slices_ContainsFunc_uint64_uint64_by_impl_isState_1.calls (A0 : Option Addr) (c0 : Nat) (l0 : List Int) (bp1 : Nat) (a1_0 : Int) (r : Bool) (w : World) (hr0 : Kd.C (Kd.int .u64) w A0 l0.length l0) (hc0 : l0.length ≤ c0) (hb1 : w.heap[bp1]? = some (.cells #[.int .i64 a1_0] 3 (0, 0))) (h : slices_ContainsFunc_uint64_uint64_by_impl_isState_1.f l0 a1_0 = some r) :
  Calls Tryz.prog 67 #[.slice A0 l0.length c0, .func (.func 68) #[] #[.pointer (some ⟨bp1, 0, none⟩)]] w fun e w' => e = .returned (.bool r) ∧ Below w.heap.size w w' := by
 refine slices_ContainsFunc_uint64_uint64.gen 68 #[.pointer (some ⟨bp1, 0, none⟩)] (enters_of Tryz.func68 (by kernel_rfl) rfl) _ A0 c0 l0 r w hr0 hc0 ?_ h
 intro W x b hB_ hin_ hq_
 refine (impl_isState_1.calls x bp1 a1_0 b W ((hB_.block _ (blk_lt hb1)).trans hb1) hq_).mono ?_
 rintro e w' ⟨rfl, hd_⟩
 exact ⟨rfl, hd_.below⟩
def impl_isState.f (a0 : Int) (a1 : Int) (l2 : List Int) : Option (Bool) := (impl_isWide.f a0).bind fun t380 => (if t380 = true then ((impl_isVars.f a1).bind fun t381 => (if t381 = true then (if (l2.length : Int) = a1 then ((slices_ContainsFunc_uint64_uint64_by_impl_isState_1.f l2 a0).bind fun t382 => (some (!t382))) else (some false)) else (some false))) else (some false))
theorem impl_isState.calls (a0 : Int) (a1 : Int) (A2 : Option Addr) (c2 : Nat) (l2 : List Int) (r : Bool) (w : World) (hr2 : Kd.C (Kd.int .u64) w A2 l2.length l2) (hc2 : l2.length ≤ c2) (h : impl_isState.f a0 a1 l2 = some r) :
  Calls Tryz.prog 48 #[.int .i64 a0, .int .i64 a1, .slice A2 l2.length c2] w fun e w' => e = .returned (.bool r) ∧ Below w.heap.size w w' := by
 have HR2 := am_ hr2
 have HC2 := am_ hc2
 clear hr2 hc2
 have HB := am_ (Below.refl w.heap.size w)
 have H := h
 clear h
 unfold impl_isState.f at H
 obtain ⟨t380, A4, H⟩ := Sh.ba H
 by_cases c5 : t380 = true
 ·subst c5
  rw [if_pos rfl] at H
  obtain ⟨t381, A6, H⟩ := Sh.ba H
  by_cases c7 : t381 = true
  ·subst c7
   rw [if_pos rfl] at H
   by_cases c8 : (l2.length : Int) = a1
   ·rw [if_pos c8] at H
    have c8b0 : ((l2.length : Int) == a1) = true := beq_iff_eq.mpr c8
    have c8b1 : ((l2.length : Int) != a1) = false := bne_eq_false_iff_eq.mpr c8
    clear c8
    obtain ⟨t382, A9, H⟩ := Sh.ba H
    obtain rfl := Option.some.inj H
    go_enter Tryz.func48, Tryz.ntmps48
    go_wp2_with (first | ((with_reducible refine Sh.d 3 ?_); (try (refine gate_guard (by rfl) ?_; dsimp only)); refine Sh.bz w (N := 3) (cs := #[.int .i64 a0]) (t := 3) (h := ?_); clear HB; intro gb379 w10 BK379 GE379 HB; have hcz11_0 := Sh.bc BK379.out 0; have hfz11_0 := blk_frozen BK379.out 0) | ((with_reducible refine Sh.k 61 ?_); refine Sh.gD (some 8) Tryz.func61 #[.int .i64 a0] (impl_isWide.calls a0 true _ A4.out) fun nd => ?_) | (go_at_call 62; (with_reducible refine (impl_isVars.calls a1 true _ A6.out).mono ?_); rintro e w' ⟨rfl, ⟨nd, rfl⟩⟩) | (go_at_call 67; (with_reducible refine (slices_ContainsFunc_uint64_uint64_by_impl_isState_1.calls _ _ l2 gb379 a0 t382 _ (Sh.cB HR2.out) HC2.out ?side3 A9.out).mono ?_); (case side3 => refine Sh.pl ?_; exact BK379.out); rintro e w12 ⟨rfl, hb⟩; replace BK379 := Sh.ab BK379 hb; replace HB := Sh.hb hb; (try clear hb); (try clear hb2); (try clear hk); (try clear hi)))
    go_ret
    exact ⟨Sh.eR, Sh.bw⟩
   ·rw [if_neg c8] at H
    have c8b0 : ((l2.length : Int) == a1) = false := beq_eq_false_iff_ne.mpr c8
    have c8b1 : ((l2.length : Int) != a1) = true := bne_iff_ne.mpr c8
    obtain rfl := Option.some.inj H
    go_enter Tryz.func48, Tryz.ntmps48
    go_wp2_with (first | ((with_reducible refine Sh.d 3 ?_); (try (refine gate_guard (by rfl) ?_; dsimp only)); refine Sh.bz w (N := 3) (cs := #[.int .i64 a0]) (t := 3) (h := ?_); clear HB; intro gb379 w13 BK379 GE379 HB; have hcz14_0 := Sh.bc BK379.out 0; have hfz14_0 := blk_frozen BK379.out 0) | ((with_reducible refine Sh.k 61 ?_); refine Sh.gD (some 8) Tryz.func61 #[.int .i64 a0] (impl_isWide.calls a0 true _ A4.out) fun nd => ?_) | (go_at_call 62; (with_reducible refine (impl_isVars.calls a1 true _ A6.out).mono ?_); rintro e w' ⟨rfl, ⟨nd, rfl⟩⟩))
    go_ret
    exact ⟨Sh.eR, Sh.bw⟩
  ·replace c7 := Bool.eq_false_iff.mpr c7
   subst c7
   rw [Sh.nf] at H
   obtain rfl := Option.some.inj H
   go_enter Tryz.func48, Tryz.ntmps48
   go_wp2_with (first | ((with_reducible refine Sh.d 3 ?_); (try (refine gate_guard (by rfl) ?_; dsimp only)); refine Sh.bz w (N := 3) (cs := #[.int .i64 a0]) (t := 3) (h := ?_); clear HB; intro gb379 w15 BK379 GE379 HB; have hcz16_0 := Sh.bc BK379.out 0; have hfz16_0 := blk_frozen BK379.out 0) | ((with_reducible refine Sh.k 61 ?_); refine Sh.gD (some 8) Tryz.func61 #[.int .i64 a0] (impl_isWide.calls a0 true _ A4.out) fun nd => ?_) | (go_at_call 62; (with_reducible refine (impl_isVars.calls a1 false _ A6.out).mono ?_); rintro e w' ⟨rfl, ⟨nd, rfl⟩⟩))
   go_ret
   exact ⟨Sh.eR, Sh.bw⟩
 ·replace c5 := Bool.eq_false_iff.mpr c5
  subst c5
  rw [Sh.nf] at H
  obtain rfl := Option.some.inj H
  go_enter Tryz.func48, Tryz.ntmps48
  go_wp2_with (first | ((with_reducible refine Sh.d 3 ?_); (try (refine gate_guard (by rfl) ?_; dsimp only)); refine Sh.bz w (N := 3) (cs := #[.int .i64 a0]) (t := 3) (h := ?_); clear HB; intro gb379 w17 BK379 GE379 HB; have hcz18_0 := Sh.bc BK379.out 0; have hfz18_0 := blk_frozen BK379.out 0) | ((with_reducible refine Sh.k 61 ?_); refine Sh.gD (some 8) Tryz.func61 #[.int .i64 a0] (impl_isWide.calls a0 false _ A4.out) fun nd => ?_))
  go_ret
  exact ⟨Sh.eR, Sh.bw⟩
def impl_isStateOf.f (k : Nat) (a0_0 : Int) (a0_1 : Int) (l0_2 : List (S80)) (l0_3 : List (S72)) (l1 : List Int) : Option (Bool) := (impl_GoodProgram.f k a0_0 a0_1 l0_2 l0_3).bind fun t384 => (if t384 = true then ((impl_isState.f a0_0 a0_1 l1).bind fun t385 => (some t385)) else (some false))
theorem impl_isStateOf.mono : ∀ a0 a1 a2 a3 a4 k, LeO (impl_isStateOf.f k a0 a1 a2 a3 a4) (impl_isStateOf.f (k + 1) a0 a1 a2 a3 a4) := by
 intro a0 a1 a2 a3 a4 k
 unfold impl_isStateOf.f
 repeat' with_reducible first | apply impl_GoodProgram.mono | exact LeO.refl _ | exact LeO.none _ | apply LeO.ite | refine LeO.bind ?_ fun _ => ?_
theorem impl_isStateOf.calls (k : Nat) (a0_0 : Int) (a0_1 : Int) (A0_2 : Option Addr) (c0_2 : Nat) (l0_2 : List (S80)) (A0_3 : Option Addr) (c0_3 : Nat) (l0_3 : List (S72)) (A1 : Option Addr) (c1 : Nat) (l1 : List Int) (r : Bool) (w : World) (hr0_2 : Kd.C k80 w A0_2 l0_2.length l0_2) (hc0_2 : l0_2.length ≤ c0_2) (hr0_3 : Kd.C k72 w A0_3 l0_3.length l0_3) (hc0_3 : l0_3.length ≤ c0_3) (hr1 : Kd.C (Kd.int .u64) w A1 l1.length l1) (hc1 : l1.length ≤ c1) (h : impl_isStateOf.f k a0_0 a0_1 l0_2 l0_3 l1 = some r) :
  Calls Tryz.prog 29 #[.agg #[.int .i64 a0_0, .int .i64 a0_1, .slice A0_2 l0_2.length c0_2, .slice A0_3 l0_3.length c0_3], .slice A1 l1.length c1] w fun e w' => e = .returned (.bool r) ∧ Below w.heap.size w w' := by
 have hu36 := Tryz.underlying36
 have HR0_2 := am_ hr0_2
 have HC0_2 := am_ hc0_2
 clear hr0_2 hc0_2
 have HR0_3 := am_ hr0_3
 have HC0_3 := am_ hc0_3
 clear hr0_3 hc0_3
 have HR1 := am_ hr1
 have HC1 := am_ hc1
 clear hr1 hc1
 have HB := am_ (Below.refl w.heap.size w)
 have H := h
 clear h
 unfold impl_isStateOf.f at H
 obtain ⟨t384, A3, H⟩ := Sh.ba H
 by_cases c4 : t384 = true
 ·subst c4
  rw [if_pos rfl] at H
  obtain ⟨t385, A5, H⟩ := Sh.ba H
  obtain rfl := Option.some.inj H
  go_enter Tryz.func29, Tryz.ntmps29
  go_wp2_with (first | ((with_reducible refine Sh.d 2 ?_); refine Sh.bz w (N := 2) (cs := #[.int .i64 a0_0, .int .i64 a0_1, .slice A0_2 l0_2.length c0_2, .slice A0_3 l0_3.length c0_3]) (t := 36) (h := ?_); clear HB; intro gb383 w6 BK383 GE383 HB; obtain ⟨hcz7_0, hcz7_1, hcz7_2, hcz7_3, hfz7_0, hfz7_1, hfz7_2, hfz7_3⟩ := Sh.b4 BK383.out) | ((with_reducible refine Sh.k 47 ?_); refine Sh.gB (some 6) Tryz.func47 #[.agg #[.int .i64 a0_0, .int .i64 a0_1, .slice A0_2 l0_2.length c0_2, .slice A0_3 l0_3.length c0_3]] (impl_GoodProgram.calls k a0_0 a0_1 _ _ l0_2 _ _ l0_3 true _ (Sh.cB HR0_2.out) HC0_2.out (Sh.cB HR0_3.out) HC0_3.out A3.out) fun w8 hb => ?_; replace BK383 := Sh.ab BK383 hb; replace HB := Sh.hb hb; (try clear hb); (try clear hb2); (try clear hk); (try clear hi); obtain ⟨hcz9_0, hcz9_1, hcz9_2, hcz9_3, hfz9_0, hfz9_1, hfz9_2, hfz9_3⟩ := Sh.b4 BK383.out) | (go_at_call 48; (with_reducible refine (impl_isState.calls a0_0 a0_1 _ _ l1 t385 _ (Sh.cB HR1.out) HC1.out A5.out).mono ?_); rintro e w10 ⟨rfl, hb⟩; replace BK383 := Sh.ab BK383 hb; replace HB := Sh.hb hb; (try clear hb); (try clear hb2); (try clear hk); (try clear hi)))
  go_ret
  exact ⟨Sh.eR, Sh.bw⟩
 ·replace c4 := Bool.eq_false_iff.mpr c4
  subst c4
  rw [Sh.nf] at H
  obtain rfl := Option.some.inj H
  go_enter Tryz.func29, Tryz.ntmps29
  go_wp2_with (first | ((with_reducible refine Sh.d 2 ?_); refine Sh.bz w (N := 2) (cs := #[.int .i64 a0_0, .int .i64 a0_1, .slice A0_2 l0_2.length c0_2, .slice A0_3 l0_3.length c0_3]) (t := 36) (h := ?_); clear HB; intro gb383 w11 BK383 GE383 HB; obtain ⟨hcz12_0, hcz12_1, hcz12_2, hcz12_3, hfz12_0, hfz12_1, hfz12_2, hfz12_3⟩ := Sh.b4 BK383.out) | ((with_reducible refine Sh.k 47 ?_); refine Sh.gB (some 6) Tryz.func47 #[.agg #[.int .i64 a0_0, .int .i64 a0_1, .slice A0_2 l0_2.length c0_2, .slice A0_3 l0_3.length c0_3]] (impl_GoodProgram.calls k a0_0 a0_1 _ _ l0_2 _ _ l0_3 false _ (Sh.cB HR0_2.out) HC0_2.out (Sh.cB HR0_3.out) HC0_3.out A3.out) fun w13 hb => ?_; replace BK383 := Sh.ab BK383 hb; replace HB := Sh.hb hb; (try clear hb); (try clear hb2); (try clear hk); (try clear hi)))
  go_ret
  exact ⟨Sh.eR, Sh.bw⟩
def impl_Program_isCommandNo.f (a0_0 : Int) (a0_1 : Int) (l0_2 : List (S80)) (l0_3 : List (S72)) (a1 : Int) : Option (Bool) := if a1 ≥ 0 then (some (decide (a1 < (l0_3.length : Int)))) else (some false)
theorem impl_Program_isCommandNo.calls (a0_0 : Int) (a0_1 : Int) (A0_2 : Option Addr) (c0_2 : Nat) (l0_2 : List (S80)) (A0_3 : Option Addr) (c0_3 : Nat) (l0_3 : List (S72)) (a1 : Int) (r : Bool) (w : World) (hr0_2 : Kd.C k80 w A0_2 l0_2.length l0_2) (hc0_2 : l0_2.length ≤ c0_2) (hr0_3 : Kd.C k72 w A0_3 l0_3.length l0_3) (hc0_3 : l0_3.length ≤ c0_3) (h : impl_Program_isCommandNo.f a0_0 a0_1 l0_2 l0_3 a1 = some r) :
  Calls Tryz.prog 49 #[.agg #[.int .i64 a0_0, .int .i64 a0_1, .slice A0_2 l0_2.length c0_2, .slice A0_3 l0_3.length c0_3], .int .i64 a1] w fun e w' => e = .returned (.bool r) ∧ Below w.heap.size w w' := by
 have hu36 := Tryz.underlying36
 have HR0_2 := am_ hr0_2
 have HC0_2 := am_ hc0_2
 clear hr0_2 hc0_2
 have HR0_3 := am_ hr0_3
 have HC0_3 := am_ hc0_3
 clear hr0_3 hc0_3
 have HB := am_ (Below.refl w.heap.size w)
 have H := h
 clear h
 unfold impl_Program_isCommandNo.f at H
 by_cases c3 : a1 ≥ 0
 ·rw [if_pos c3] at H
  have c3b0 : decide (0 ≤ a1) = true := decide_eq_true c3
  clear c3
  obtain rfl := Option.some.inj H
  go_enter Tryz.func49, Tryz.ntmps49
  go_wp2_with (first | ((with_reducible refine Sh.d 2 ?_); (try (refine gate_guard (by rfl) ?_; dsimp only)); refine Sh.bz w (N := 2) (cs := #[.int .i64 a0_0, .int .i64 a0_1, .slice A0_2 l0_2.length c0_2, .slice A0_3 l0_3.length c0_3]) (t := 36) (h := ?_); clear HB; intro gb386 w4 BK386 GE386 HB; obtain ⟨hcz5_0, hcz5_1, hcz5_2, hcz5_3, hfz5_0, hfz5_1, hfz5_2, hfz5_3⟩ := Sh.b4 BK386.out))
  go_ret
  exact ⟨Sh.eR, Sh.bw⟩
 ·rw [if_neg c3] at H
  have c3b0 : decide (0 ≤ a1) = false := decide_eq_false c3
  clear c3
  obtain rfl := Option.some.inj H
  go_enter Tryz.func49, Tryz.ntmps49
  go_wp2_with (first | ((with_reducible refine Sh.d 2 ?_); (try (refine gate_guard (by rfl) ?_; dsimp only)); refine Sh.bz w (N := 2) (cs := #[.int .i64 a0_0, .int .i64 a0_1, .slice A0_2 l0_2.length c0_2, .slice A0_3 l0_3.length c0_3]) (t := 36) (h := ?_); clear HB; intro gb386 w6 BK386 GE386 HB))
  go_ret
  exact ⟨Sh.eR, Sh.bw⟩
def impl_areWords.f (a0 : Int) (a1 : Int) (a2 : Int) : Option (Bool) := (impl_GoodWord.f a0 a1).bind fun t387 => (if t387 = true then ((impl_GoodWord.f a0 a2).bind fun t388 => (some t388)) else (some false))
theorem impl_areWords.calls (a0 : Int) (a1 : Int) (a2 : Int) (r : Bool) (w : World) (h : impl_areWords.f a0 a1 a2 = some r) :
  Calls Tryz.prog 102 #[.int .i64 a0, .int .u64 a1, .int .u64 a2] w fun e w' => e = .returned (.bool r) ∧ Drawn0 w w' := by
 have H := h
 clear h
 unfold impl_areWords.f at H
 obtain ⟨t387, A4, H⟩ := Sh.ba H
 by_cases c5 : t387 = true
 ·subst c5
  rw [if_pos rfl] at H
  obtain ⟨t388, A6, H⟩ := Sh.ba H
  obtain rfl := Option.some.inj H
  go_enter Tryz.func102, Tryz.ntmps102
  go_wp2_with (first | ((with_reducible refine Sh.k 69 ?_); refine Sh.gD (some 9) Tryz.func69 #[.int .i64 a0, .int .u64 a1] (impl_GoodWord.calls a0 a1 true _ A4.out) fun nd => ?_) | (go_at_call 69; (with_reducible refine (impl_GoodWord.calls a0 a2 t388 _ A6.out).mono ?_); rintro e w' ⟨rfl, ⟨nd, rfl⟩⟩))
  go_ret
  exact ⟨Sh.es, Sh.dr⟩
 ·replace c5 := Bool.eq_false_iff.mpr c5
  subst c5
  rw [Sh.nf] at H
  obtain rfl := Option.some.inj H
  go_enter Tryz.func102, Tryz.ntmps102
  go_wp2_with (first | ((with_reducible refine Sh.k 69 ?_); refine Sh.gD (some 9) Tryz.func69 #[.int .i64 a0, .int .u64 a1] (impl_GoodWord.calls a0 a1 false _ A4.out) fun nd => ?_))
  go_ret
  exact ⟨Sh.es, Sh.dr⟩
def bits_Div64.f (a0 a1 a2 : Int) : Option (Int × Int) := if a0 = 0 ∧ 0 < a2 then some (IntKind.u64.wrap (Int.tdiv a1 a2), Int.tmod a1 a2) else none
theorem bits_Div64.calls (a0 : Int) (a1 : Int) (a2 : Int) (r1 : Int) (r2 : Int) (w : World) (h : bits_Div64.f a0 a1 a2 = some (r1, r2)) :
  Calls Tryz.prog 103 #[.int .u64 a0, .int .u64 a1, .int .u64 a2] w fun e w' => e = .returned (.tuple #[.int .u64 r1, .int .u64 r2]) ∧ Drawn0 w w' := by
 have hf : a0 = 0 ∧ 0 < a2 := by
  rcases Decidable.em (a0 = 0 ∧ 0 < a2) with h1 | h1
  ·exact h1
  ·rw [bits_Div64.f, if_neg h1] at h; cases h
 rw [bits_Div64.f, if_pos hf] at h
 obtain ⟨rfl, h0⟩ := hf
 simp only [Option.some.injEq, Prod.mk.injEq] at h
 obtain ⟨rfl, rfl⟩ := h
 have h1 : ¬ (a2 = 0) := by omega
 have h3 : (a2 == 0) = false := by simpa using h1
 have h2 : ¬ (a2 ≤ 0) := by omega
 go_enter Tryz.func103, Tryz.ntmps103
 go_wp2
 go_region
 all_goals go_wp2
 all_goals go_ret2
 all_goals exact ⟨Sh.e1, Sh.dr⟩
def impl_DivWord.f (a0 : Int) (a1 : Int) (a2 : Int) : Option (Int × Int × Bool) := (impl_areWords.f a0 a1 a2).bind fun t390 => (if t390 = true then (if a2 = 0 then ((impl_mask.f a0).bind fun t391 => (some (t391, a1, true))) else ((bits_Div64.f 0 a1 a2).bind fun bt392 => (some (bt392.1, bt392.2, true)))) else (some (0, 0, false)))
theorem impl_DivWord.calls (a0 : Int) (a1 : Int) (a2 : Int) (r1 : Int) (r2 : Int) (r3 : Bool) (w : World) (h : impl_DivWord.f a0 a1 a2 = some (r1, r2, r3)) :
  Calls Tryz.prog 93 #[.int .i64 a0, .int .u64 a1, .int .u64 a2] w fun e w' => e = .returned (.tuple #[.int .u64 r1, .int .u64 r2, .bool r3]) ∧ Drawn0 w w' := by
 have H := h
 clear h
 unfold impl_DivWord.f at H
 obtain ⟨t390, A4, H⟩ := Sh.ba H
 by_cases c5 : t390 = true
 ·subst c5
  rw [if_pos rfl] at H
  by_cases c6 : a2 = 0
  ·rw [if_pos c6] at H
   have c6b0 : (a2 == 0) = true := beq_iff_eq.mpr c6
   have c6b1 : (a2 != 0) = false := bne_eq_false_iff_eq.mpr c6
   clear c6
   obtain ⟨t391, A7, H⟩ := Sh.ba H
   simp only [Option.some.injEq, Prod.mk.injEq] at H
   obtain ⟨rfl, rfl, rfl⟩ := H
   go_enter Tryz.func93, Tryz.ntmps93
   go_wp2_with (first | ((with_reducible refine Sh.k 102 ?_); refine Sh.gD (some 15) Tryz.func102 #[.int .i64 a0, .int .u64 a1, .int .u64 a2] (impl_areWords.calls a0 a1 a2 true _ A4.out) fun nd => ?_) | ((with_reducible refine Sh.k 84 ?_); refine Sh.gD (some 21) Tryz.func84 #[.int .i64 a0] (impl_mask.calls a0 t391 _ A7.out) fun nd => ?_))
   go_ret3
   exact ⟨Sh.es, Sh.dr⟩
  ·rw [if_neg c6] at H
   have c6b0 : (a2 == 0) = false := beq_eq_false_iff_ne.mpr c6
   have c6b1 : (a2 != 0) = true := bne_iff_ne.mpr c6
   obtain ⟨⟨t392, t393⟩, A80, H⟩ := Sh.bd H
   have A8 := am_ A80
   clear A80
   simp only [Option.some.injEq, Prod.mk.injEq] at H
   obtain ⟨rfl, rfl, rfl⟩ := H
   go_enter Tryz.func93, Tryz.ntmps93
   go_wp2_with (first | ((with_reducible refine Sh.k 102 ?_); refine Sh.gD (some 15) Tryz.func102 #[.int .i64 a0, .int .u64 a1, .int .u64 a2] (impl_areWords.calls a0 a1 a2 true _ A4.out) fun nd => ?_) | ((with_reducible refine Sh.k 103 ?_); refine Sh.gD (some 26) Tryz.func103 #[.int .u64 0, .int .u64 a1, .int .u64 a2] (bits_Div64.calls 0 a1 a2 t392 t393 _ A8.out) fun nd => ?_))
   go_ret3
   exact ⟨Sh.es, Sh.dr⟩
 ·replace c5 := Bool.eq_false_iff.mpr c5
  subst c5
  rw [Sh.nf] at H
  simp only [Option.some.injEq, Prod.mk.injEq] at H
  obtain ⟨rfl, rfl, rfl⟩ := H
  go_enter Tryz.func93, Tryz.ntmps93
  go_wp2_with (first | ((with_reducible refine Sh.k 102 ?_); refine Sh.gD (some 15) Tryz.func102 #[.int .i64 a0, .int .u64 a1, .int .u64 a2] (impl_areWords.calls a0 a1 a2 false _ A4.out) fun nd => ?_))
  go_ret3
  exact ⟨Sh.es, Sh.dr⟩
def impl_shift.f (a0 : Int) (a1 : Int) (a2 : Int) (a3 : Bool) : Option (Int) := if a2 ≥ (IntKind.u64.wrap (a0)) then (some 0) else (if a3 = true then (if 0 ≤ a2 then ((impl_mask.f a0).bind fun t394 => (some (Go.bits .and .u64 (shl .u64 a1 a2) t394))) else (none)) else (if 0 ≤ a2 then (some (shr .u64 a1 a2)) else (none)))
theorem impl_shift.calls (a0 : Int) (a1 : Int) (a2 : Int) (a3 : Bool) (r : Int) (w : World) (h : impl_shift.f a0 a1 a2 a3 = some r) :
  Calls Tryz.prog 94 #[.int .i64 a0, .int .u64 a1, .int .u64 a2, .bool a3] w fun e w' => e = .returned (.int .u64 r) ∧ Drawn0 w w' := by
 have H := h
 clear h
 unfold impl_shift.f at H
 by_cases c5 : a2 ≥ (IntKind.u64.wrap (a0))
 ·rw [if_pos c5] at H
  have c5b0 : decide ((IntKind.u64.wrap (a0)) ≤ a2) = true := decide_eq_true c5
  clear c5
  obtain rfl := Option.some.inj H
  go_enter Tryz.func94, Tryz.ntmps94
  go_wp2
  go_ret
  exact ⟨Sh.es, Sh.dr⟩
 ·rw [if_neg c5] at H
  have c5b0 : decide ((IntKind.u64.wrap (a0)) ≤ a2) = false := decide_eq_false c5
  clear c5
  by_cases c6 : a3 = true
  ·subst c6
   rw [if_pos rfl] at H
   by_cases c7 : 0 ≤ a2
   ·rw [if_pos c7] at H
    have c7b0 := eq_true c7
    have c7b1 := decide_eq_true c7
    clear c7
    obtain ⟨ji8, hj1⟩ : ∃ j_ : Int, (shl .u64 a1 a2) = j_ := ⟨_, rfl⟩
    replace H : ((impl_mask.f a0).bind fun t394 => (some (Go.bits .and .u64 (ji8) t394))) = some r := by first | (rw [hj1] at H; exact H) | (simp only [hj1] at H ⊢; exact H)
    have hji8_ : (IntKind.u64.wrap (a1 * 2 ^ min a2.toNat 64)) = ji8 := hj1
    have hji8z : a2 ≤ 64 → (IntKind.u64.wrap (a1 * 2 ^ a2.toNat)) = ji8 := shl_small hj1
    obtain ⟨t394, A9, H⟩ := Sh.ba H
    obtain rfl := Option.some.inj H
    go_enter Tryz.func94, Tryz.ntmps94
    go_wp2_with (first | ((with_reducible refine Sh.k 84 ?_); refine Sh.gD (some 20) Tryz.func84 #[.int .i64 a0] (impl_mask.calls a0 t394 _ A9.out) fun nd => ?_))
    go_ret
    exact ⟨by first | rfl | (simp; done) | (simp only [← hj1] <;> (first | rfl | simp)) | (simp [*]; done), Sh.dr⟩
   ·rw [if_neg c7] at H
    exact absurd H (by simp)
  ·replace c6 := Bool.eq_false_iff.mpr c6
   subst c6
   rw [Sh.nf] at H
   by_cases c10 : 0 ≤ a2
   ·rw [if_pos c10] at H
    have c10b0 := eq_true c10
    have c10b1 := decide_eq_true c10
    clear c10
    obtain ⟨ji11, hj1⟩ : ∃ j_ : Int, (shr .u64 a1 a2) = j_ := ⟨_, rfl⟩
    replace H : (some ji11) = some r := by first | (rw [hj1] at H; exact H) | (simp only [hj1] at H ⊢; exact H)
    have hji11_ : (a1 / 2 ^ min a2.toNat 64) = ji11 := hj1
    have hji11z : a2 ≤ 64 → (a1 / 2 ^ a2.toNat) = ji11 := shr_small hj1
    obtain rfl := Option.some.inj H
    go_enter Tryz.func94, Tryz.ntmps94
    go_wp2
    go_ret
    exact ⟨by first | rfl | (simp; done) | (simp only [← hj1] <;> (first | rfl | simp)) | (simp [*]; done), Sh.dr⟩
   ·rw [if_neg c10] at H
    exact absurd H (by simp)
def impl_truth.f (a0 : Bool) : Option (Int) := if a0 = true then (some 1) else (some 0)
theorem impl_truth.calls (a0 : Bool) (r : Int) (w : World) (h : impl_truth.f a0 = some r) :
  Calls Tryz.prog 95 #[.bool a0] w fun e w' => e = .returned (.int .u64 r) ∧ Drawn0 w w' := by
 have H := h
 clear h
 unfold impl_truth.f at H
 by_cases c2 : a0 = true
 ·subst c2
  rw [if_pos rfl] at H
  obtain rfl := Option.some.inj H
  go_enter Tryz.func95, Tryz.ntmps95
  go_wp2
  go_ret
  exact ⟨Sh.es, Sh.dr⟩
 ·replace c2 := Bool.eq_false_iff.mpr c2
  subst c2
  rw [Sh.nf] at H
  obtain rfl := Option.some.inj H
  go_enter Tryz.func95, Tryz.ntmps95
  go_wp2
  go_ret
  exact ⟨Sh.es, Sh.dr⟩
def impl_signed.f (a0 : Int) (a1 : Int) : Option (Int) := if 0 ≤ (wrap64 (64 - a0)) then (some (shr .i64 (wrap64 (shl .u64 a1 (wrap64 (64 - a0)))) (wrap64 (64 - a0)))) else (none)
theorem impl_signed.calls (a0 : Int) (a1 : Int) (r : Int) (w : World) (h : impl_signed.f a0 a1 = some r) :
  Calls Tryz.prog 96 #[.int .i64 a0, .int .u64 a1] w fun e w' => e = .returned (.int .i64 r) ∧ Drawn0 w w' := by
 have H := h
 clear h
 unfold impl_signed.f at H
 obtain ⟨ji3, hj1⟩ : ∃ j_ : Int, (wrap64 (64 - a0)) = j_ := ⟨_, rfl⟩
 replace H : (if 0 ≤ (ji3) then (some (shr .i64 (wrap64 (shl .u64 a1 (ji3))) (ji3))) else (none)) = some r := by first | (rw [hj1] at H; exact H) | (simp only [hj1] at H ⊢; exact H)
 have hji3w : (IntKind.i64.wrap (64 - a0)) = ji3 := (i64_w _).trans hj1
 by_cases c4 : 0 ≤ (ji3)
 ·rw [if_pos c4] at H
  have c4b0 := eq_true c4
  have c4b1 := decide_eq_true c4
  clear c4
  obtain ⟨ji5, hj2⟩ : ∃ j_ : Int, (shl .u64 a1 (ji3)) = j_ := ⟨_, rfl⟩
  replace H : (some (shr .i64 (wrap64 (ji5)) (ji3))) = some r := by first | (rw [hj2] at H; exact H) | (simp only [hj2] at H ⊢; exact H)
  have hji5_ : (IntKind.u64.wrap (a1 * 2 ^ min (ji3).toNat 64)) = ji5 := hj2
  have hji5z : (ji3) ≤ 64 → (IntKind.u64.wrap (a1 * 2 ^ (ji3).toNat)) = ji5 := shl_small hj2
  have c6b0 := eq_true (of_decide_eq_true (by first | (with_reducible assumption) | assumption) : 0 ≤ (ji3))
  obtain ⟨ji7, hj3⟩ : ∃ j_ : Int, (shr .i64 (wrap64 (ji5)) (ji3)) = j_ := ⟨_, rfl⟩
  replace H : (some ji7) = some r := by first | (rw [hj3] at H; exact H) | (simp only [hj3] at H ⊢; exact H)
  have hji7_ : ((wrap64 (ji5)) / 2 ^ min (ji3).toNat 64) = ji7 := hj3
  have hji7z : (ji3) ≤ 64 → ((wrap64 (ji5)) / 2 ^ (ji3).toNat) = ji7 := shr_small hj3
  obtain rfl := Option.some.inj H
  go_enter Tryz.func96, Tryz.ntmps96
  go_wp2
  go_ret
  exact ⟨by first | rfl | (simp; done) | (simp only [← hj1, ← hj2, ← hj3] <;> (first | rfl | simp)) | (simp [*]; done), Sh.dr⟩
 ·rw [if_neg c4] at H
  exact absurd H (by simp)
mutual
def impl_apply.j0 : Nat → Int → Int → Int → Int → Int → Int → Bool → Option (Int)
 | 0, _, _, _, _, _, _, _ => none
 | k + 1, x0, x1, x2, x3, x9, x10, x46 => if x46 = true then ((impl_mask.f x0).bind fun t406 => (some (Go.bits .and .u64 (Go.bits .and .u64 x2 x3) t406))) else (if x10 = 9 then (impl_apply.j1 k x0 x1 x2 x3 x9 x10 (x10 == 9)) else (impl_apply.j1 k x0 x1 x2 x3 x9 x10 (x10 == 18)))
def impl_apply.j1 : Nat → Int → Int → Int → Int → Int → Int → Bool → Option (Int)
 | 0, _, _, _, _, _, _, _ => none
 | k + 1, x0, x1, x2, x3, x9, x10, x52 => if x52 = true then ((impl_mask.f x0).bind fun t407 => (some (Go.bits .and .u64 (Go.bits .or .u64 x2 x3) t407))) else (if x10 = 10 then ((impl_mask.f x0).bind fun t408 => (some (Go.bits .and .u64 (Go.bits .xor .u64 x2 x3) t408))) else (if x10 = 11 then (impl_apply.j2 k x0 x1 x2 x3 x9 x10 (x10 == 11)) else (impl_apply.j2 k x0 x1 x2 x3 x9 x10 (x10 == 12))))
def impl_apply.j2 : Nat → Int → Int → Int → Int → Int → Int → Bool → Option (Int)
 | 0, _, _, _, _, _, _, _ => none
 | k + 1, x0, x1, x2, x3, x9, x10, x63 => if x63 = true then ((impl_shift.f x0 x2 x3 (x1 == 11)).bind fun t409 => ((impl_mask.f x0).bind fun t410 => (some (Go.bits .and .u64 t409 t410)))) else (if x10 = 14 then ((impl_truth.f (x2 == x3)).bind fun t411 => ((impl_mask.f x0).bind fun t412 => (some (Go.bits .and .u64 t411 t412)))) else (if x10 = 15 then ((impl_truth.f (decide (x2 < x3))).bind fun t413 => ((impl_mask.f x0).bind fun t414 => (some (Go.bits .and .u64 t413 t414)))) else (if x10 = 16 then ((impl_signed.f x0 x2).bind fun t415 => ((impl_signed.f x0 x3).bind fun t416 => ((impl_truth.f (decide (t415 < t416))).bind fun t417 => ((impl_mask.f x0).bind fun t418 => (some (Go.bits .and .u64 t417 t418)))))) else ((impl_mask.f x0).bind fun t419 => (some (Go.bits .and .u64 x9 t419))))))
end
def impl_apply.f (k : Nat) (a0 : Int) (a1 : Int) (a2 : Int) (a3 : Int) : Option (Int) := if a1 = 3 then ((impl_mask.f a0).bind fun t395 => (some (Go.bits .and .u64 (IntKind.u64.wrap (a2 + a3)) t395))) else (if a1 = 4 then ((impl_mask.f a0).bind fun t396 => (some (Go.bits .and .u64 (IntKind.u64.wrap (a2 - a3)) t396))) else (if a1 = 5 then ((impl_mask.f a0).bind fun t397 => (some (Go.bits .and .u64 (IntKind.u64.wrap (a2 * a3)) t397))) else (if a1 = 6 then ((impl_DivWord.f a0 a2 a3).bind fun bt398 => ((impl_mask.f a0).bind fun t401 => (some (Go.bits .and .u64 bt398.1 t401)))) else (if a1 = 7 then ((impl_DivWord.f a0 a2 a3).bind fun bt402 => ((impl_mask.f a0).bind fun t405 => (some (Go.bits .and .u64 bt402.2.1 t405)))) else (if a1 = 8 then (impl_apply.j0 k a0 a1 a2 a3 0 a1 (a1 == 8)) else (impl_apply.j0 k a0 a1 a2 a3 0 a1 (a1 == 17)))))))
theorem impl_apply.mono_l : ∀ k, (∀ y0 y1 y2 y3 y4 y5 y6, LeO (impl_apply.j0 k y0 y1 y2 y3 y4 y5 y6) (impl_apply.j0 (k + 1) y0 y1 y2 y3 y4 y5 y6)) ∧ (∀ y0 y1 y2 y3 y4 y5 y6, LeO (impl_apply.j1 k y0 y1 y2 y3 y4 y5 y6) (impl_apply.j1 (k + 1) y0 y1 y2 y3 y4 y5 y6)) ∧ (∀ y0 y1 y2 y3 y4 y5 y6, LeO (impl_apply.j2 k y0 y1 y2 y3 y4 y5 y6) (impl_apply.j2 (k + 1) y0 y1 y2 y3 y4 y5 y6))
 | 0 => ⟨fun _ _ _ _ _ _ _ r h => by simp [impl_apply.j0] at h, fun _ _ _ _ _ _ _ r h => by simp [impl_apply.j1] at h, fun _ _ _ _ _ _ _ r h => by simp [impl_apply.j2] at h⟩
 | k + 1 => by
  obtain ⟨ih0, ih1, ih2⟩ := impl_apply.mono_l k
  and_intros <;> intros
  all_goals (first | unfold impl_apply.j0 | unfold impl_apply.j1 | unfold impl_apply.j2)
  all_goals repeat' with_reducible first | apply ih0 | apply ih1 | apply ih2 | exact LeO.refl _ | exact LeO.none _ | apply LeO.ite | refine LeO.bind ?_ fun _ => ?_
theorem impl_apply.mono : ∀ a0 a1 a2 a3 k, LeO (impl_apply.f k a0 a1 a2 a3) (impl_apply.f (k + 1) a0 a1 a2 a3) := by
 intro a0 a1 a2 a3 k
 obtain ⟨ih0, ih1, ih2⟩ := impl_apply.mono_l k
 unfold impl_apply.f
 repeat' with_reducible first | apply ih0 | apply ih1 | apply ih2 | exact LeO.refl _ | exact LeO.none _ | apply LeO.ite | refine LeO.bind ?_ fun _ => ?_
theorem impl_apply.calls (k : Nat) (a0 : Int) (a1 : Int) (a2 : Int) (a3 : Int) (r : Int) (w : World) (h : impl_apply.f k a0 a1 a2 a3 = some r) :
  Calls Tryz.prog 85 #[.int .i64 a0, .int .i64 a1, .int .u64 a2, .int .u64 a3] w fun e w' => e = .returned (.int .u64 r) ∧ Drawn0 w w' := by
 have H := h
 clear h
 unfold impl_apply.f at H
 by_cases c5 : a1 = 3
 ·rw [if_pos c5] at H
  have c5b0 : (a1 == 3) = true := beq_iff_eq.mpr c5
  have c5b1 : (a1 != 3) = false := bne_eq_false_iff_eq.mpr c5
  clear c5
  obtain ⟨t395, A6, H⟩ := Sh.ba H
  obtain rfl := Option.some.inj H
  go_enter Tryz.func85, Tryz.ntmps85
  go_wp2_with (first | ((with_reducible refine Sh.k 84 ?_); refine Sh.gD (some 96) Tryz.func84 #[.int .i64 a0] (impl_mask.calls a0 t395 _ A6.out) fun nd => ?_))
  go_ret
  exact ⟨Sh.es, Sh.dr⟩
 ·rw [if_neg c5] at H
  have c5b0 : (a1 == 3) = false := beq_eq_false_iff_ne.mpr c5
  have c5b1 : (a1 != 3) = true := bne_iff_ne.mpr c5
  by_cases c7 : a1 = 4
  ·rw [if_pos c7] at H
   have c7b0 : (a1 == 4) = true := beq_iff_eq.mpr c7
   have c7b1 : (a1 != 4) = false := bne_eq_false_iff_eq.mpr c7
   clear c7
   obtain ⟨t396, A8, H⟩ := Sh.ba H
   obtain rfl := Option.some.inj H
   go_enter Tryz.func85, Tryz.ntmps85
   go_wp2_with (first | ((with_reducible refine Sh.k 84 ?_); refine Sh.gD (some 96) Tryz.func84 #[.int .i64 a0] (impl_mask.calls a0 t396 _ A8.out) fun nd => ?_))
   go_ret
   exact ⟨Sh.es, Sh.dr⟩
  ·rw [if_neg c7] at H
   have c7b0 : (a1 == 4) = false := beq_eq_false_iff_ne.mpr c7
   have c7b1 : (a1 != 4) = true := bne_iff_ne.mpr c7
   by_cases c9 : a1 = 5
   ·rw [if_pos c9] at H
    have c9b0 : (a1 == 5) = true := beq_iff_eq.mpr c9
    have c9b1 : (a1 != 5) = false := bne_eq_false_iff_eq.mpr c9
    clear c9
    obtain ⟨t397, A10, H⟩ := Sh.ba H
    obtain rfl := Option.some.inj H
    go_enter Tryz.func85, Tryz.ntmps85
    go_wp2_with (first | ((with_reducible refine Sh.k 84 ?_); refine Sh.gD (some 96) Tryz.func84 #[.int .i64 a0] (impl_mask.calls a0 t397 _ A10.out) fun nd => ?_))
    go_ret
    exact ⟨Sh.es, Sh.dr⟩
   ·rw [if_neg c9] at H
    have c9b0 : (a1 == 5) = false := beq_eq_false_iff_ne.mpr c9
    have c9b1 : (a1 != 5) = true := bne_iff_ne.mpr c9
    by_cases c11 : a1 = 6
    ·rw [if_pos c11] at H
     have c11b0 : (a1 == 6) = true := beq_iff_eq.mpr c11
     have c11b1 : (a1 != 6) = false := bne_eq_false_iff_eq.mpr c11
     clear c11
     obtain ⟨⟨t398, t399, t400⟩, A120, H⟩ := Sh.bd H
     have A12 := am_ A120
     clear A120
     obtain ⟨t401, A13, H⟩ := Sh.ba H
     obtain rfl := Option.some.inj H
     go_enter Tryz.func85, Tryz.ntmps85
     go_wp2_with (first | ((with_reducible refine Sh.k 93 ?_); refine Sh.gD (some 32) Tryz.func93 #[.int .i64 a0, .int .u64 a2, .int .u64 a3] (impl_DivWord.calls a0 a2 a3 t398 t399 t400 _ A12.out) fun nd => ?_) | ((with_reducible refine Sh.k 84 ?_); refine Sh.gD (some 96) Tryz.func84 #[.int .i64 a0] (impl_mask.calls a0 t401 _ A13.out) fun nd => ?_))
     go_ret
     exact ⟨Sh.es, Sh.dr⟩
    ·rw [if_neg c11] at H
     have c11b0 : (a1 == 6) = false := beq_eq_false_iff_ne.mpr c11
     have c11b1 : (a1 != 6) = true := bne_iff_ne.mpr c11
     by_cases c14 : a1 = 7
     ·rw [if_pos c14] at H
      have c14b0 : (a1 == 7) = true := beq_iff_eq.mpr c14
      have c14b1 : (a1 != 7) = false := bne_eq_false_iff_eq.mpr c14
      clear c14
      obtain ⟨⟨t402, t403, t404⟩, A150, H⟩ := Sh.bd H
      have A15 := am_ A150
      clear A150
      obtain ⟨t405, A16, H⟩ := Sh.ba H
      obtain rfl := Option.some.inj H
      go_enter Tryz.func85, Tryz.ntmps85
      go_wp2_with (first | ((with_reducible refine Sh.k 93 ?_); refine Sh.gD (some 42) Tryz.func93 #[.int .i64 a0, .int .u64 a2, .int .u64 a3] (impl_DivWord.calls a0 a2 a3 t402 t403 t404 _ A15.out) fun nd => ?_) | ((with_reducible refine Sh.k 84 ?_); refine Sh.gD (some 96) Tryz.func84 #[.int .i64 a0] (impl_mask.calls a0 t405 _ A16.out) fun nd => ?_))
      go_ret
      exact ⟨Sh.es, Sh.dr⟩
     ·rw [if_neg c14] at H
      have c14b0 : (a1 == 7) = false := beq_eq_false_iff_ne.mpr c14
      have c14b1 : (a1 != 7) = true := bne_iff_ne.mpr c14
      have HC17 := am_ H
      clear H
      go_enter Tryz.func85, Tryz.ntmps85
      go_upto_if 46 with (fail)
      go_cut [46] (fun v46 wc => ∃ (kq : Nat) (x46_16 : Bool), v46 = .bool x46_16 ∧ Aside0 (impl_apply.j0 kq a0 a1 a2 a3 0 a1 x46_16 = some r) ∧ Aside0 (kq ≤ k) ∧ Drawn0 w wc)
      case first =>
       have H := HC17.out
       clear HC17
       by_cases c18 : a1 = 8
       ·rw [if_pos c18] at H
        have c18b0 : (a1 == 8) = true := beq_iff_eq.mpr c18
        have c18b1 : (a1 != 8) = false := bne_eq_false_iff_eq.mpr c18
        clear c18
        first | rw [c18b0] | (simp only [i64_w, i32_w]; rw [c18b0]) | skip
        have H' := am_ H
        clear H
        go_wp2
        go_meet
        case rel => exact ⟨_, ((a1 == 8)), (Sh.es), H', ⟨Sh.om⟩, Sh.dr⟩
       ·rw [if_neg c18] at H
        have c18b0 : (a1 == 8) = false := beq_eq_false_iff_ne.mpr c18
        have c18b1 : (a1 != 8) = true := bne_iff_ne.mpr c18
        first | rw [c18b0] | (simp only [i64_w, i32_w]; rw [c18b0]) | skip
        have H' := am_ H
        clear H
        go_wp2
        go_meet
        case rel => exact ⟨_, ((a1 == 17)), (Sh.es), H', ⟨Sh.om⟩, Sh.dr⟩
      case rest =>
       clear HC17
       obtain ⟨kq, x46_16, rfl, HA, HJ16, ⟨mc16, rfl⟩⟩ := hcut
       cases kq with
       | zero => exact absurd HA.out (by simp [impl_apply.j0])
       | succ kj16 =>
        have H := HA.out
        clear HA
        simp only [impl_apply.j0] at H
        by_cases c19 : x46_16 = true
        ·subst c19
         rw [if_pos rfl] at H
         obtain ⟨t406, A20, H⟩ := Sh.ba H
         obtain rfl := Option.some.inj H
         go_wp2_with (first | ((with_reducible refine Sh.k 84 ?_); refine Sh.gD (some 96) Tryz.func84 #[.int .i64 a0] (impl_mask.calls a0 t406 _ A20.out) fun nd => ?_))
         go_ret
         exact ⟨Sh.es, Sh.dr⟩
        ·replace c19 := Bool.eq_false_iff.mpr c19
         subst c19
         rw [Sh.nf] at H
         have HC21 := am_ H
         clear H
         go_upto_if 52 with (fail)
         go_cut [52] (fun v52 wc => ∃ (kq : Nat) (x52_20 : Bool), v52 = .bool x52_20 ∧ Aside0 (impl_apply.j1 kq a0 a1 a2 a3 0 a1 x52_20 = some r) ∧ Aside0 (kq ≤ kj16) ∧ Drawn0 w wc)
         case first =>
          have H := HC21.out
          clear HC21
          by_cases c22 : a1 = 9
          ·rw [if_pos c22] at H
           have c22b0 : (a1 == 9) = true := beq_iff_eq.mpr c22
           have c22b1 : (a1 != 9) = false := bne_eq_false_iff_eq.mpr c22
           clear c22
           first | rw [c22b0] | (simp only [i64_w, i32_w]; rw [c22b0]) | skip
           have H' := am_ H
           clear H
           go_wp2
           go_meet
           case rel => exact ⟨_, ((a1 == 9)), (Sh.es), H', ⟨by have := HJ16.out; first | omega | exact Nat.le_refl _⟩, Sh.dr⟩
          ·rw [if_neg c22] at H
           have c22b0 : (a1 == 9) = false := beq_eq_false_iff_ne.mpr c22
           have c22b1 : (a1 != 9) = true := bne_iff_ne.mpr c22
           first | rw [c22b0] | (simp only [i64_w, i32_w]; rw [c22b0]) | skip
           have H' := am_ H
           clear H
           go_wp2
           go_meet
           case rel => exact ⟨_, ((a1 == 18)), (Sh.es), H', ⟨by have := HJ16.out; first | omega | exact Nat.le_refl _⟩, Sh.dr⟩
         case rest =>
          clear HC21
          obtain ⟨kq, x52_20, rfl, HA, HJ20, ⟨mc20, rfl⟩⟩ := hcut
          cases kq with
          | zero => exact absurd HA.out (by simp [impl_apply.j1])
          | succ kj20 =>
           have H := HA.out
           clear HA
           simp only [impl_apply.j1] at H
           by_cases c23 : x52_20 = true
           ·subst c23
            rw [if_pos rfl] at H
            obtain ⟨t407, A24, H⟩ := Sh.ba H
            obtain rfl := Option.some.inj H
            go_wp2_with (first | ((with_reducible refine Sh.k 84 ?_); refine Sh.gD (some 96) Tryz.func84 #[.int .i64 a0] (impl_mask.calls a0 t407 _ A24.out) fun nd => ?_))
            go_ret
            exact ⟨Sh.es, Sh.dr⟩
           ·replace c23 := Bool.eq_false_iff.mpr c23
            subst c23
            rw [Sh.nf] at H
            by_cases c25 : a1 = 10
            ·rw [if_pos c25] at H
             have c25b0 : (a1 == 10) = true := beq_iff_eq.mpr c25
             have c25b1 : (a1 != 10) = false := bne_eq_false_iff_eq.mpr c25
             clear c25
             obtain ⟨t408, A26, H⟩ := Sh.ba H
             obtain rfl := Option.some.inj H
             go_wp2_with (first | ((with_reducible refine Sh.k 84 ?_); refine Sh.gD (some 96) Tryz.func84 #[.int .i64 a0] (impl_mask.calls a0 t408 _ A26.out) fun nd => ?_))
             go_ret
             exact ⟨Sh.es, Sh.dr⟩
            ·rw [if_neg c25] at H
             have c25b0 : (a1 == 10) = false := beq_eq_false_iff_ne.mpr c25
             have c25b1 : (a1 != 10) = true := bne_iff_ne.mpr c25
             have HC27 := am_ H
             clear H
             go_upto_if 63 with (fail)
             go_cut [63] (fun v63 wc => ∃ (kq : Nat) (x63_26 : Bool), v63 = .bool x63_26 ∧ Aside0 (impl_apply.j2 kq a0 a1 a2 a3 0 a1 x63_26 = some r) ∧ Aside0 (kq ≤ kj20) ∧ Drawn0 w wc)
             case first =>
              have H := HC27.out
              clear HC27
              by_cases c28 : a1 = 11
              ·rw [if_pos c28] at H
               have c28b0 : (a1 == 11) = true := beq_iff_eq.mpr c28
               have c28b1 : (a1 != 11) = false := bne_eq_false_iff_eq.mpr c28
               clear c28
               first | rw [c28b0] | (simp only [i64_w, i32_w]; rw [c28b0]) | skip
               have H' := am_ H
               clear H
               go_wp2
               go_meet
               case rel => exact ⟨_, ((a1 == 11)), (Sh.es), H', ⟨by have := HJ16.out; have := HJ20.out; first | omega | exact Nat.le_refl _⟩, Sh.dr⟩
              ·rw [if_neg c28] at H
               have c28b0 : (a1 == 11) = false := beq_eq_false_iff_ne.mpr c28
               have c28b1 : (a1 != 11) = true := bne_iff_ne.mpr c28
               first | rw [c28b0] | (simp only [i64_w, i32_w]; rw [c28b0]) | skip
               have H' := am_ H
               clear H
               go_wp2
               go_meet
               case rel => exact ⟨_, ((a1 == 12)), (Sh.es), H', ⟨by have := HJ16.out; have := HJ20.out; first | omega | exact Nat.le_refl _⟩, Sh.dr⟩
             case rest =>
              clear HC27
              obtain ⟨kq, x63_26, rfl, HA, HJ26, ⟨mc26, rfl⟩⟩ := hcut
              cases kq with
              | zero => exact absurd HA.out (by simp [impl_apply.j2])
              | succ kj26 =>
               have H := HA.out
               clear HA
               simp only [impl_apply.j2] at H
               by_cases c29 : x63_26 = true
               ·subst c29
                rw [if_pos rfl] at H
                obtain ⟨t409, A30, H⟩ := Sh.ba H
                obtain ⟨t410, A31, H⟩ := Sh.ba H
                obtain rfl := Option.some.inj H
                go_wp2_with (first | ((with_reducible refine Sh.k 94 ?_); refine Sh.gD (some 71) Tryz.func94 #[.int .i64 a0, .int .u64 a2, .int .u64 a3, .bool (a1 == 11)] (impl_shift.calls a0 a2 a3 (a1 == 11) t409 _ A30.out) fun nd => ?_) | ((with_reducible refine Sh.k 84 ?_); refine Sh.gD (some 96) Tryz.func84 #[.int .i64 a0] (impl_mask.calls a0 t410 _ A31.out) fun nd => ?_))
                go_ret
                exact ⟨Sh.es, Sh.dr⟩
               ·replace c29 := Bool.eq_false_iff.mpr c29
                subst c29
                rw [Sh.nf] at H
                by_cases c32 : a1 = 14
                ·rw [if_pos c32] at H
                 have c32b0 : (a1 == 14) = true := beq_iff_eq.mpr c32
                 have c32b1 : (a1 != 14) = false := bne_eq_false_iff_eq.mpr c32
                 clear c32
                 obtain ⟨t411, A33, H⟩ := Sh.ba H
                 obtain ⟨t412, A34, H⟩ := Sh.ba H
                 obtain rfl := Option.some.inj H
                 go_wp2_with (first | ((with_reducible refine Sh.k 95 ?_); refine Sh.gD (some 77) Tryz.func95 #[.bool (a2 == a3)] (impl_truth.calls (a2 == a3) t411 _ A33.out) fun nd => ?_) | ((with_reducible refine Sh.k 84 ?_); refine Sh.gD (some 96) Tryz.func84 #[.int .i64 a0] (impl_mask.calls a0 t412 _ A34.out) fun nd => ?_))
                 go_ret
                 exact ⟨Sh.es, Sh.dr⟩
                ·rw [if_neg c32] at H
                 have c32b0 : (a1 == 14) = false := beq_eq_false_iff_ne.mpr c32
                 have c32b1 : (a1 != 14) = true := bne_iff_ne.mpr c32
                 by_cases c35 : a1 = 15
                 ·rw [if_pos c35] at H
                  have c35b0 : (a1 == 15) = true := beq_iff_eq.mpr c35
                  have c35b1 : (a1 != 15) = false := bne_eq_false_iff_eq.mpr c35
                  clear c35
                  obtain ⟨t413, A36, H⟩ := Sh.ba H
                  obtain ⟨t414, A37, H⟩ := Sh.ba H
                  obtain rfl := Option.some.inj H
                  go_wp2_with (first | ((with_reducible refine Sh.k 95 ?_); refine Sh.gD (some 83) Tryz.func95 #[.bool (decide (a2 < a3))] (impl_truth.calls (decide (a2 < a3)) t413 _ A36.out) fun nd => ?_) | ((with_reducible refine Sh.k 84 ?_); refine Sh.gD (some 96) Tryz.func84 #[.int .i64 a0] (impl_mask.calls a0 t414 _ A37.out) fun nd => ?_))
                  go_ret
                  exact ⟨Sh.es, Sh.dr⟩
                 ·rw [if_neg c35] at H
                  have c35b0 : (a1 == 15) = false := beq_eq_false_iff_ne.mpr c35
                  have c35b1 : (a1 != 15) = true := bne_iff_ne.mpr c35
                  by_cases c38 : a1 = 16
                  ·rw [if_pos c38] at H
                   have c38b0 : (a1 == 16) = true := beq_iff_eq.mpr c38
                   have c38b1 : (a1 != 16) = false := bne_eq_false_iff_eq.mpr c38
                   clear c38
                   obtain ⟨t415, A39, H⟩ := Sh.ba H
                   obtain ⟨t416, A40, H⟩ := Sh.ba H
                   obtain ⟨t417, A41, H⟩ := Sh.ba H
                   obtain ⟨t418, A42, H⟩ := Sh.ba H
                   obtain rfl := Option.some.inj H
                   go_wp2_with (first | ((with_reducible refine Sh.k 96 ?_); refine Sh.gD (some 88) Tryz.func96 #[.int .i64 a0, .int .u64 a2] (impl_signed.calls a0 a2 t415 _ A39.out) fun nd => ?_) | ((with_reducible refine Sh.k 96 ?_); refine Sh.gD (some 91) Tryz.func96 #[.int .i64 a0, .int .u64 a3] (impl_signed.calls a0 a3 t416 _ A40.out) fun nd => ?_) | ((with_reducible refine Sh.k 95 ?_); refine Sh.gD (some 93) Tryz.func95 #[.bool (decide (t415 < t416))] (impl_truth.calls (decide (t415 < t416)) t417 _ A41.out) fun nd => ?_) | ((with_reducible refine Sh.k 84 ?_); refine Sh.gD (some 96) Tryz.func84 #[.int .i64 a0] (impl_mask.calls a0 t418 _ A42.out) fun nd => ?_))
                   go_ret
                   exact ⟨Sh.es, Sh.dr⟩
                  ·rw [if_neg c38] at H
                   have c38b0 : (a1 == 16) = false := beq_eq_false_iff_ne.mpr c38
                   have c38b1 : (a1 != 16) = true := bne_iff_ne.mpr c38
                   obtain ⟨t419, A43, H⟩ := Sh.ba H
                   obtain rfl := Option.some.inj H
                   go_wp2_with (first | ((with_reducible refine Sh.k 84 ?_); refine Sh.gD (some 96) Tryz.func84 #[.int .i64 a0] (impl_mask.calls a0 t419 _ A43.out) fun nd => ?_))
                   go_ret
                   exact ⟨Sh.es, Sh.dr⟩
mutual
def impl_valueOf.l0 : Nat → Int → List Int → List Int → List (S80) → Int → Int → Option (Int)
 | 0, _, _, _, _, _, _ => none
 | k + 1, x0, x2, x7, x12, x13, x14 => if x14 < x13 then (if 0 ≤ x14 then (if x14 < (x12.length : Int) then (if ((rd_T80 x12 x14).f0) = 1 then (impl_valueOf.j1 k x0 x2 x7 (wrap64 ((x7.length : Int) - 1)) x12 x13 x14 ((rd_T80 x12 x14).f0) (((rd_T80 x12 x14).f0) == 1) ((rd_T80 x12 x14).f0) ((rd_T80 x12 x14).f1)) else (impl_valueOf.j1 k x0 x2 x7 (wrap64 ((x7.length : Int) - 1)) x12 x13 x14 ((rd_T80 x12 x14).f0) (((rd_T80 x12 x14).f0) == 20) ((rd_T80 x12 x14).f0) ((rd_T80 x12 x14).f1))) else (none)) else (none)) else (if 0 < (x7.length : Int) then (some (rd x7 0)) else (none))
def impl_valueOf.j1 : Nat → Int → List Int → List Int → Int → List (S80) → Int → Int → Int → Bool → Int → Int → Option (Int)
 | 0, _, _, _, _, _, _, _, _, _, _, _ => none
 | k + 1, x0, x2, x7, x10, x12, x13, x14, x22, x42, x426000, x426001 => if x42 = true then (if x7.length < 17592186044416 then (impl_valueOf.l0 k x0 x2 (x7 ++ [x426001]) x12 x13 (wrap64 (x14 + 1))) else (none)) else (if x22 = 2 then (if 0 ≤ x426001 then (if x426001 < (x2.length : Int) then (if x7.length < 17592186044416 then (impl_valueOf.l0 k x0 x2 (x7 ++ [rd x2 x426001]) x12 x13 (wrap64 (x14 + 1))) else (none)) else (none)) else (none)) else (if x22 = 13 then (if 0 ≤ x10 then (if x10 < (x7.length : Int) then ((impl_mask.f x0).bind fun t434 => (impl_valueOf.l0 k x0 x2 (x7.set (x10 : Int).toNat (Go.bits .and .u64 (Go.bits .xor .u64 18446744073709551615 (rd x7 x10)) t434)) x12 x13 (wrap64 (x14 + 1)))) else (none)) else (none)) else (if x22 = 19 then (if 0 ≤ x10 then (if x10 < (x7.length : Int) then (impl_valueOf.l0 k x0 x2 (x7.set (x10 : Int).toNat (IntKind.u64.wrap (1 - (rd x7 x10)))) x12 x13 (wrap64 (x14 + 1))) else (none)) else (none)) else (if 0 ≤ (wrap64 (x10 - 1)) then (if (wrap64 (x10 - 1)) < (x7.length : Int) then (if 0 ≤ x10 then (if x10 < (x7.length : Int) then (if (wrap64 (x10 - 1)) ≤ (x7.length : Int) then ((some (x7.take ((wrap64 (x10 - 1)) : Int).toNat : List Int)).bind fun y440 => ((impl_apply.f k x0 x426000 (rd x7 (wrap64 (x10 - 1))) (rd x7 x10)).bind fun t443 => (if y440.length < 17592186044416 then (impl_valueOf.l0 k x0 x2 (y440 ++ [t443]) x12 x13 (wrap64 (x14 + 1))) else (none)))) else (none)) else (none)) else (none)) else (none)) else (none)))))
end
def impl_valueOf.f (k : Nat) (a0 : Int) (l1 : List (S80)) (l2 : List Int) : Option (Int) := impl_valueOf.l0 k a0 l2 (([] : List Int)) l1 (l1.length : Int) 0
theorem impl_valueOf.mono_l : ∀ k, (∀ y0 y1 y2 y3 y4 y5, LeO (impl_valueOf.l0 k y0 y1 y2 y3 y4 y5) (impl_valueOf.l0 (k + 1) y0 y1 y2 y3 y4 y5)) ∧ (∀ y0 y1 y2 y3 y4 y5 y6 y7 y8 y9 y10, LeO (impl_valueOf.j1 k y0 y1 y2 y3 y4 y5 y6 y7 y8 y9 y10) (impl_valueOf.j1 (k + 1) y0 y1 y2 y3 y4 y5 y6 y7 y8 y9 y10))
 | 0 => ⟨fun _ _ _ _ _ _ r h => by simp [impl_valueOf.l0] at h, fun _ _ _ _ _ _ _ _ _ _ _ r h => by simp [impl_valueOf.j1] at h⟩
 | k + 1 => by
  obtain ⟨ih0, ih1⟩ := impl_valueOf.mono_l k
  and_intros <;> intros
  all_goals (first | unfold impl_valueOf.l0 | unfold impl_valueOf.j1)
  all_goals repeat' with_reducible first | apply ih0 | apply ih1 | apply impl_apply.mono | exact LeO.refl _ | exact LeO.none _ | apply LeO.ite | refine LeO.bind ?_ fun _ => ?_
theorem impl_valueOf.mono : ∀ a0 a1 a2 k, LeO (impl_valueOf.f k a0 a1 a2) (impl_valueOf.f (k + 1) a0 a1 a2) := by
 intro a0 a1 a2 k
 obtain ⟨ih0, ih1⟩ := impl_valueOf.mono_l k
 unfold impl_valueOf.f
 repeat' with_reducible first | apply ih0 | apply ih1 | apply impl_apply.mono | exact LeO.refl _ | exact LeO.none _ | apply LeO.ite | refine LeO.bind ?_ fun _ => ?_
def impl_valueOf.T7 : Bool × List (List Nat × List Nat) := (true, [([], []), ([], []), ([1], [1]), ([0, 2], [0, 2]), ([], []), ([], []), ([5], [5]), ([], []), ([], []), ([8], [8]), ([7, 9], [7, 9]), ([10], [10]), ([], []), ([], []), ([12, 13], [12, 13]), ([14], [14]), ([4, 6, 11, 15], [4, 6, 11, 15]), ([16], [16]), ([3, 17, 16], [3, 17]), ([18, 18, 0, 1, 2, 3, 4, 5, 6, 7, 8, 9, 10, 11, 12, 13, 14, 15, 16, 17, 18], [0, 7, 12, 18])])
def impl_valueOf.B7 : List Nat := [0, 0, 2, 7, 0, 0, 32, 0, 0, 256, 896, 1920, 0, 0, 12288, 28672, 65520, 131056, 262143, 524287]
theorem impl_valueOf.tab7 : rtab .any (opsOf Tryz.f70 7) = impl_valueOf.T7 := by kernel_rfl
theorem impl_valueOf.bits7 : waitsOk impl_valueOf.T7.2 impl_valueOf.B7 = true := by kernel_rfl
def impl_valueOf.T14 : Bool × List (List Nat × List Nat) := (true, [([], []), ([], []), ([], []), ([], []), ([2, 3], [2, 3]), ([4], [4]), ([5], [5]), ([], []), ([7], [7]), ([6, 8], [6, 8]), ([0, 1, 0, 1, 2, 3, 4, 5, 6, 7, 8, 9], [0, 1]), ([10, 9, 8, 0, 1, 2, 3, 4, 5, 6, 7, 8, 9], [9, 10])])
def impl_valueOf.B14 : List Nat := [0, 0, 0, 0, 12, 28, 60, 0, 128, 508, 1023, 2047]
theorem impl_valueOf.tab14 : rtab .any (opsOf Tryz.f70 14) = impl_valueOf.T14 := by kernel_rfl
theorem impl_valueOf.bits14 : waitsOk impl_valueOf.T14.2 impl_valueOf.B14 = true := by kernel_rfl
theorem impl_valueOf.calls (k : Nat) (a0 : Int) (A1 : Option Addr) (c1 : Nat) (l1 : List (S80)) (A2 : Option Addr) (c2 : Nat) (l2 : List Int) (r : Int) (w : World) (hr1 : Kd.C k80 w A1 l1.length l1) (hc1 : l1.length ≤ c1) (hr2 : Kd.C (Kd.int .u64) w A2 l2.length l2) (hc2 : l2.length ≤ c2) (h : impl_valueOf.f k a0 l1 l2 = some r) :
  Calls Tryz.prog 70 #[.int .i64 a0, .slice A1 l1.length c1, .slice A2 l2.length c2] w fun e w' => e = .returned (.int .u64 r) ∧ Below w.heap.size w w' := by
 have hu80 := Tryz.underlying80
 have HR1 := am_ hr1
 have HC1 := am_ hc1
 clear hr1 hc1
 have HR2 := am_ hr2
 have HC2 := am_ hc2
 clear hr2 hc2
 have HB := am_ (Below.refl w.heap.size w)
 have H := h
 clear h
 unfold impl_valueOf.f at H
 obtain ⟨y420, hy420⟩ : ∃ y_ : List Int, y_ = (([] : List Int)) := ⟨_, rfl⟩
 replace H : (impl_valueOf.l0 k a0 l2 y420 l1 (l1.length : Int) 0) = some r := by first | (rw [hy420]; with_reducible exact H) | (have H2_ := (Option.bind_some _ _).symm.trans H; rw [hy420]; with_reducible exact H2_) | (have H2_ := (Option.bind_some _ _).symm.trans H; with_reducible exact H2_) | with_reducible exact H | (rw [hy420]; exact H) | exact H
 have Ny420 := am_ hy420
 clear hy420
 have H' := am_ H
 clear H
 go_enter Tryz.func70, Tryz.ntmps70
 go_wp2_with (first | ((with_reducible refine Sh.d 11 ?_); refine Kd.R_lit (Kd.int .u64) _ 59 ?hg (N := 11) ?hd (xs := ([] : List Int)) (inner := []) (ok := fun _ => True) (okp := fun _ => True) ?hr ?hp (fun _ hk => hk) trivial (Below.refl _ _) (Nat.le_refl _) (by simp) ?_; (case hd => rfl); (case hg => rfl); (case hr => first | (go_simp; done) | (go_simp; rfl)); (case hp => exact (Reps.none _ _)); intro v421 w4 ho5 hb hg_ hnew_; clear hg_ hnew_; (first | rw [← Ny420.out] at ho5 | (simp only [Int.reduceToNat] at ho5; rw [← Ny420.out] at ho5)); have HO422 := am_ (Kd.R_lower ho5 (below_size Sh.bw)); replace HB := Sh.hb hb; clear hb ho5))
 go_loopg [7, 14] k (fun kq v7 v14 w' => ∃ (x7_1 : List Int) (x14_1 : Int), v14 = .int .i64 x14_1 ∧ Aside0 (impl_valueOf.l0 kq a0 l2 x7_1 l1 (l1.length : Int) x14_1 = some r) ∧ Aside0 (kq ≤ k) ∧ Aside0 (Kd.R (Kd.int .u64) 59 w' w.heap.size (fun _ => True) v7 x7_1) ∧ Aside0 (Below w.heap.size w w'))
 case atStart => exact ⟨(y420), (0), (Sh.es), H', ⟨Nat.le_refl _⟩, ⟨Sh.rl HO422.out⟩, ⟨Sh.bw⟩⟩
 case round =>
  clear H'
  obtain ⟨x7_1, x14_1, rfl, HA, HK1, HO_7, HB⟩ := hrel
  cases gk with
  | zero => exact absurd HA.out (by simp [impl_valueOf.l0])
  | succ k1 =>
   have H := HA.out
   clear HA
   simp only [impl_valueOf.l0] at H
   by_cases c6 : x14_1 < (l1.length : Int)
   ·rw [if_pos c6] at H
    have c6b0 := decide_eq_true c6
    clear c6
    by_cases c7 : 0 ≤ x14_1
    ·rw [if_pos c7] at H
     have c7b0 := decide_eq_true c7
     clear c7
     by_cases c8 : x14_1 < (l1.length : Int)
     ·rw [if_pos c8] at H
      have c8b0 := decide_eq_true c8
      clear c8
      have HC9 := am_ H
      clear H
      have p424 : 0 ≤ (x14_1 : Int) := Sh.od
      have q424 : x14_1 < (l1.length : Int) := Sh.od
      obtain ⟨ad424, e424, hx424_0, hx424_1⟩ := at_T80 HR1.out x14_1 p424 q424
      cases e424
      try replace hx424_0 := Sh.cw hx424_0
      try replace hx424_1 := Sh.cw hx424_1
      replace p424 := eq_true p424
      replace q424 := eq_true q424
      go_upto_if 42 with (first | ((with_reducible refine Sh.d 9 ?_); refine Sh.bx (N := 9) (cs := #[.int .i64 0, .int .u64 0]) (t := 80) (h := ?_); intro gb425 hg w10 hbox hb; replace HO_7 := am_ (Kd.R_below (Sh.rl HO_7.out) hb); have BK425 := am_ hbox; have GE425 := Sh.ag w hg; replace HB := Sh.hb hb; clear hb hbox hg; obtain ⟨hcz11_0, hcz11_1, hfz11_0, hfz11_1⟩ := Sh.b2 BK425.out; obtain ⟨Ao12, co12, eo12⟩ := Kd.R_slice HO_7.out; subst eo12))
      (try simp only [Act.put, List.setIfInBounds_toArray, List.set_cons_zero, List.set_cons_succ])
      go_cut [42] (fun v42 wc => ∃ (kq : Nat) (x42_8 : Bool), v42 = .bool x42_8 ∧ Aside0 (impl_valueOf.j1 kq a0 l2 x7_1 (wrap64 ((x7_1.length : Int) - 1)) l1 (l1.length : Int) x14_1 ((rd_T80 l1 x14_1).f0) x42_8 ((rd_T80 l1 x14_1).f0) ((rd_T80 l1 x14_1).f1) = some r) ∧ Aside0 (kq ≤ k1) ∧ Aside0 (Kd.R (Kd.int .u64) 59 wc w.heap.size (fun _ => True) (.slice Ao12 x7_1.length co12) x7_1) ∧ Aside0 (wc.heap[gb425]? = some (.cells #[.int .i64 ((rd_T80 l1 x14_1).f0), .int .u64 ((rd_T80 l1 x14_1).f1)] 80 (0, 0))) ∧ Aside0 (Below w.heap.size w wc))
      case first =>
       have H := HC9.out
       clear HC9
       by_cases c13 : ((rd_T80 l1 x14_1).f0) = 1
       ·rw [if_pos c13] at H
        have c13b0 : (((rd_T80 l1 x14_1).f0) == 1) = true := beq_iff_eq.mpr c13
        have c13b1 : (((rd_T80 l1 x14_1).f0) != 1) = false := bne_eq_false_iff_eq.mpr c13
        clear c13
        first | rw [c13b0] | (simp only [i64_w, i32_w]; rw [c13b0]) | skip
        have H' := am_ H
        clear H
        go_wp2
        go_meet
        case rel => exact ⟨_, ((((rd_T80 l1 x14_1).f0) == 1)), (Sh.es), H', ⟨by have := HK1.out; first | omega | exact Nat.le_refl _⟩, ⟨Sh.rl (Kd.R_mono (Kd.R_far (p := ⟨gb425, 1, none⟩) (Kd.R_far (p := ⟨gb425, 0, none⟩) (Kd.R_types HO_7.out BK425.out (by decide)) (fun _ hk => hk.2) (.int .i64 ((rd_T80 l1 x14_1).f0))) (fun _ hk => hk.2) (.int .u64 ((rd_T80 l1 x14_1).f1))) (fun _ hk => trivial))⟩, ⟨by refine Sh.pl ?_; refine blk_put (cs := #[.int .i64 ((rd_T80 l1 x14_1).f0), .int .u64 0]) ?_ 1 _ rfl; refine Sh.pl ?_; refine blk_put (cs := #[.int .i64 0, .int .u64 0]) ?_ 0 _ rfl; refine Sh.pl ?_; exact BK425.out⟩, ⟨Sh.bw⟩⟩
       ·rw [if_neg c13] at H
        have c13b0 : (((rd_T80 l1 x14_1).f0) == 1) = false := beq_eq_false_iff_ne.mpr c13
        have c13b1 : (((rd_T80 l1 x14_1).f0) != 1) = true := bne_iff_ne.mpr c13
        first | rw [c13b0] | (simp only [i64_w, i32_w]; rw [c13b0]) | skip
        have H' := am_ H
        clear H
        go_wp2
        go_meet
        case rel => exact ⟨_, ((((rd_T80 l1 x14_1).f0) == 20)), (Sh.es), H', ⟨by have := HK1.out; first | omega | exact Nat.le_refl _⟩, ⟨Sh.rl (Kd.R_mono (Kd.R_far (p := ⟨gb425, 1, none⟩) (Kd.R_far (p := ⟨gb425, 0, none⟩) (Kd.R_types HO_7.out BK425.out (by decide)) (fun _ hk => hk.2) (.int .i64 ((rd_T80 l1 x14_1).f0))) (fun _ hk => hk.2) (.int .u64 ((rd_T80 l1 x14_1).f1))) (fun _ hk => trivial))⟩, ⟨by refine Sh.pl ?_; refine blk_put (cs := #[.int .i64 ((rd_T80 l1 x14_1).f0), .int .u64 0]) ?_ 1 _ rfl; refine Sh.pl ?_; refine blk_put (cs := #[.int .i64 0, .int .u64 0]) ?_ 0 _ rfl; refine Sh.pl ?_; exact BK425.out⟩, ⟨Sh.bw⟩⟩
      case rest =>
       clear HC9
       try clear hx4
       try clear hcz11_0
       try clear hcz11_1
       try clear hfz11_0
       try clear hfz11_1
       try clear hx424_0
       try clear hx424_1
       obtain ⟨kq, x42_8, rfl, HA, HJ8, HO_7, BK425, HB⟩ := hcut
       cases kq with
       | zero => exact absurd HA.out (by simp [impl_valueOf.j1])
       | succ kj8 =>
        have H := HA.out
        clear HA
        simp only [impl_valueOf.j1] at H
        by_cases c14 : x42_8 = true
        ·subst c14
         rw [if_pos rfl] at H
         by_cases c15 : x7_1.length < 17592186044416
         ·rw [if_pos c15] at H
          have LMc15 := am_ c15
          clear c15
          obtain ⟨y426, hy426⟩ : ∃ y_ : List Int, y_ = (x7_1 ++ [((rd_T80 l1 x14_1).f1)]) := ⟨_, rfl⟩
          replace H : (impl_valueOf.l0 kj8 a0 l2 y426 l1 (l1.length : Int) (wrap64 (x14_1 + 1))) = some r := by first | (rw [hy426]; with_reducible exact H) | (have H2_ := (Option.bind_some _ _).symm.trans H; rw [hy426]; with_reducible exact H2_) | (have H2_ := (Option.bind_some _ _).symm.trans H; with_reducible exact H2_) | with_reducible exact H | (rw [hy426]; exact H) | exact H
          have Ny426 := am_ hy426
          clear hy426
          have H' := am_ H
          clear H
          have hcz16_0 := Sh.bc BK425.out 0
          have hcz16_1 := Sh.bc BK425.out 1
          have hfz16_0 := blk_frozen BK425.out 0
          have hfz16_1 := blk_frozen BK425.out 1
          go_wp2_with (first | ((with_reducible refine gate_builtin (b := .append) (xs := #[.tmp 45, .tmp 48]) rfl ?_); at_builtin; refine Kd.R_append (Kd.int .u64) (w0 := w) w.heap.size rfl (.tmp 45) (.tmp 48) 26 59 (.int .u64 0) 8 rfl Tryz.underlying26 info59 rfl (by decide) (by omega) (.slice Ao12 x7_1.length co12) x7_1 ((rd_T80 l1 x14_1).f1) [.int .u64 ((rd_T80 l1 x14_1).f1)] (fun _ => True) (fun _ => False) rfl rfl ?aP (fun _ hk => hk.elim) ?aF ?aO ?aB ?aS ?aL ?_; (case aP => exact rfl); (case aB => exact Sh.bw); (case aF => exact (fun _ _ => trivial)); (case aO => exact (Sh.rl HO_7.out)); (case aS => exact (below_size Sh.bw)); (case aL => have := LMc15.out; omega); intro v427 w17 ho hb hg hat; rw [← Ny426.out] at ho; have n0_ := am_ (blk_grown (g := gb425) (o := .cells #[.int .i64 ((rd_T80 l1 x14_1).f0), .int .u64 ((rd_T80 l1 x14_1).f1)] 80 (0, 0)) (Sh.pl BK425.out) hg (Kd.R_ne HO_7.out BK425.out (by decide))); have n1_ := am_ hb; have n2_ := am_ ho; clear BK425; clear HB; clear HO_7; have BK425 := n0_; have HB := n1_; have HO428 := n2_; clear n0_ n1_ n2_; clear ho hb hg hat))
          go_roundg kj8
          case measure => have := HK1.out; have := HJ8.out; omega
          case rel => exact ⟨(y426), (wrap64 (x14_1 + 1)), (Sh.es), H', ⟨by have := HK1.out; have := HJ8.out; omega⟩, ⟨Sh.rl HO428.out⟩, ⟨Sh.bw⟩⟩
         ·rw [if_neg c15] at H
          exact absurd H (by simp)
        ·replace c14 := Bool.eq_false_iff.mpr c14
         subst c14
         rw [Sh.nf] at H
         by_cases c18 : ((rd_T80 l1 x14_1).f0) = 2
         ·rw [if_pos c18] at H
          have c18b0 : (((rd_T80 l1 x14_1).f0) == 2) = true := beq_iff_eq.mpr c18
          have c18b1 : (((rd_T80 l1 x14_1).f0) != 2) = false := bne_eq_false_iff_eq.mpr c18
          clear c18
          by_cases c19 : 0 ≤ ((rd_T80 l1 x14_1).f1)
          ·rw [if_pos c19] at H
           have c19b0 := decide_eq_true c19
           clear c19
           by_cases c20 : ((rd_T80 l1 x14_1).f1) < (l2.length : Int)
           ·rw [if_pos c20] at H
            have c20b0 := decide_eq_true c20
            clear c20
            by_cases c21 : x7_1.length < 17592186044416
            ·rw [if_pos c21] at H
             have LMc21 := am_ c21
             clear c21
             obtain ⟨y430, hy430⟩ : ∃ y_ : List Int, y_ = (x7_1 ++ [rd l2 ((rd_T80 l1 x14_1).f1)]) := ⟨_, rfl⟩
             replace H : (impl_valueOf.l0 kj8 a0 l2 y430 l1 (l1.length : Int) (wrap64 (x14_1 + 1))) = some r := by first | (rw [hy430]; with_reducible exact H) | (have H2_ := (Option.bind_some _ _).symm.trans H; rw [hy430]; with_reducible exact H2_) | (have H2_ := (Option.bind_some _ _).symm.trans H; with_reducible exact H2_) | with_reducible exact H | (rw [hy430]; exact H) | exact H
             have Ny430 := am_ hy430
             clear hy430
             have H' := am_ H
             clear H
             have hcz22_0 := Sh.bc BK425.out 0
             have hcz22_1 := Sh.bc BK425.out 1
             have hfz22_0 := blk_frozen BK425.out 0
             have hfz22_1 := blk_frozen BK425.out 1
             have p429 : 0 ≤ (((rd_T80 l1 x14_1).f1) : Int) := Sh.od
             have q429 : ((rd_T80 l1 x14_1).f1) < (l2.length : Int) := Sh.od
             obtain ⟨ad429, e429, hx429_0⟩ := Kd.at_int HR2.out ((rd_T80 l1 x14_1).f1) p429 q429
             cases e429
             try replace hx429_0 := Sh.cw hx429_0
             replace p429 := eq_true p429
             replace q429 := eq_true q429
             go_wp2_with (first | ((with_reducible refine gate_builtin (b := .append) (xs := #[.tmp 52, .tmp 58]) rfl ?_); at_builtin; refine Kd.R_append (Kd.int .u64) (w0 := w) w.heap.size rfl (.tmp 52) (.tmp 58) 26 59 (.int .u64 0) 8 rfl Tryz.underlying26 info59 rfl (by decide) (by omega) (.slice Ao12 x7_1.length co12) x7_1 (rd l2 ((rd_T80 l1 x14_1).f1)) [.int .u64 (rd l2 ((rd_T80 l1 x14_1).f1))] (fun _ => True) (fun _ => False) rfl rfl ?aP (fun _ hk => hk.elim) ?aF ?aO ?aB ?aS ?aL ?_; (case aP => exact rfl); (case aB => exact Sh.bw); (case aF => exact (fun _ _ => trivial)); (case aO => exact (Sh.rl HO_7.out)); (case aS => exact (below_size Sh.bw)); (case aL => have := LMc21.out; omega); intro v431 w23 ho hb hg hat; rw [← Ny430.out] at ho; have n0_ := am_ (blk_grown (g := gb425) (o := .cells #[.int .i64 ((rd_T80 l1 x14_1).f0), .int .u64 ((rd_T80 l1 x14_1).f1)] 80 (0, 0)) (Sh.pl BK425.out) hg (Kd.R_ne HO_7.out BK425.out (by decide))); have n1_ := am_ hb; have n2_ := am_ ho; clear BK425; clear HB; clear HO_7; have BK425 := n0_; have HB := n1_; have HO432 := n2_; clear n0_ n1_ n2_; clear ho hb hg hat))
             go_roundg kj8
             case measure => have := HK1.out; have := HJ8.out; omega
             case rel => exact ⟨(y430), (wrap64 (x14_1 + 1)), (Sh.es), H', ⟨by have := HK1.out; have := HJ8.out; omega⟩, ⟨Sh.rl HO432.out⟩, ⟨Sh.bw⟩⟩
            ·rw [if_neg c21] at H
             exact absurd H (by simp)
           ·rw [if_neg c20] at H
            exact absurd H (by simp)
          ·rw [if_neg c19] at H
           exact absurd H (by simp)
         ·rw [if_neg c18] at H
          have c18b0 : (((rd_T80 l1 x14_1).f0) == 2) = false := beq_eq_false_iff_ne.mpr c18
          have c18b1 : (((rd_T80 l1 x14_1).f0) != 2) = true := bne_iff_ne.mpr c18
          by_cases c24 : ((rd_T80 l1 x14_1).f0) = 13
          ·rw [if_pos c24] at H
           have c24b0 : (((rd_T80 l1 x14_1).f0) == 13) = true := beq_iff_eq.mpr c24
           have c24b1 : (((rd_T80 l1 x14_1).f0) != 13) = false := bne_eq_false_iff_eq.mpr c24
           clear c24
           obtain ⟨ji25, hj1⟩ : ∃ j_ : Int, (wrap64 ((x7_1.length : Int) - 1)) = j_ := ⟨_, rfl⟩
           replace H : (if 0 ≤ (ji25) then (if (ji25) < (x7_1.length : Int) then ((impl_mask.f a0).bind fun t434 => (impl_valueOf.l0 kj8 a0 l2 (x7_1.set ((ji25) : Int).toNat (Go.bits .and .u64 (Go.bits .xor .u64 18446744073709551615 (rd x7_1 (ji25))) t434)) l1 (l1.length : Int) (wrap64 (x14_1 + 1)))) else (none)) else (none)) = some r := by first | (rw [hj1] at H; exact H) | (simp only [hj1] at H ⊢; exact H)
           have hji25w : (IntKind.i64.wrap ((x7_1.length : Int) - 1)) = ji25 := (i64_w _).trans hj1
           by_cases c26 : 0 ≤ (ji25)
           ·rw [if_pos c26] at H
            have c26b0 := decide_eq_true c26
            clear c26
            by_cases c27 : (ji25) < (x7_1.length : Int)
            ·rw [if_pos c27] at H
             have c27b0 := decide_eq_true c27
             clear c27
             obtain ⟨t434, A28, H⟩ := Sh.ba H
             obtain ⟨y435, hy435⟩ : ∃ y_ : List Int, y_ = (x7_1.set ((ji25) : Int).toNat (Go.bits .and .u64 (Go.bits .xor .u64 18446744073709551615 (rd x7_1 (ji25))) t434)) := ⟨_, rfl⟩
             replace H : (impl_valueOf.l0 kj8 a0 l2 y435 l1 (l1.length : Int) (wrap64 (x14_1 + 1))) = some r := by first | (rw [hy435]; with_reducible exact H) | (have H2_ := (Option.bind_some _ _).symm.trans H; rw [hy435]; with_reducible exact H2_) | (have H2_ := (Option.bind_some _ _).symm.trans H; with_reducible exact H2_) | with_reducible exact H | (rw [hy435]; exact H) | exact H
             have Ny435 := am_ hy435
             clear hy435
             have H' := am_ H
             clear H
             try go_wp2
             replace HO_7 := am_ (Kd.R_drew HO_7.out)
             replace BK425 := am_ (blk_drew BK425.out)
             replace HB := am_ (below_drew1 HB.out)
             have p433 : 0 ≤ ((ji25) : Int) := Sh.od
             have q433 : (ji25) < (x7_1.length : Int) := Sh.od
             obtain ⟨ad433, e433, hx433_0⟩ := Kd.at_int (Kd.R_reads' HO_7.out).2.2 (ji25) p433 q433
             cases e433
             replace p433 := eq_true p433
             replace q433 := eq_true q433
             refine start_ (n := 12) (S := fun w' => w'.cell? (ad433.add ((ji25)).toNat) = some (.int .u64 (rd x7_1 (ji25)))) (ds := [11]) (Sh.nm 12 0) (by kernel_rfl) rfl rfl (hx433_0) (fun hHeld => ?_); refine with_tabW impl_valueOf.tab14 impl_valueOf.bits14 (fun HT_ HW_ => ?_)
             generalize wc.drew = w30 at HO_7 BK425 HB hx433_0 hHeld ⊢
             refine Sh.qA 0 ?_; refine Sh.qA 1 ?_; refine Sh.qA 2 ?_; refine Sh.qA 3 ?_; refine Sh.qA 4 ?_; refine Sh.qA 7 ?_; refine Sh.qT 5 hHeld ?_; refine Sh.qA 6 ?_
             refine Sh.oC 8 Tryz.func84 #[.int .i64 a0] fun K hK => ?_
             with_reducible refine (impl_mask.calls a0 t434 _ A28.out).mono ?_
             rintro e w' ⟨rfl, ⟨nd, rfl⟩⟩
             refine ⟨_, rfl, ?_⟩
             have p29 : 0 ≤ ((ji25) : Int) := Sh.od
             have q29 : ((ji25) : Int) < ((x7_1.length : Int) : Int) := Sh.od
             obtain ⟨go29, co29, eo29, gb29, gl29, cl29, HG29⟩ := Kd.R_form HO_7.out (by omega)
             (first | cases eo29 | (injection eo29 with ea_ en_ ec_; (first | subst ea_ | (injection ea_ with ea_; subst ea_)); subst ec_; clear en_))
             have GB29 := am_ gb29
             have GG29 := am_ HG29
             clear gb29 gl29 HG29
             (first | simp only [add_plain] at hx433_0 | skip)
             obtain ⟨hx29_0, hf29_0⟩ := Kd.R_celln 0 HO_7.out ((ji25) : Int) p29 q29
             replace p29 := eq_true p29
             replace q29 := eq_true q29
             have HP31 := Kd.R_putn HO_7.out ((ji25) : Int) (Go.bits .and .u64 (Go.bits .xor .u64 18446744073709551615 (rd x7_1 (ji25))) t434)
             rw [← Ny435.out] at HP31
             have HQ31 := am_ HP31
             clear HP31
             refine hK.out _ _ (hHeld) (fun hHeld => ?_)
             clear hK K
             refine norm_ (a' := ?_) ?_ ?_
             rotate_left
             ·show Act.put _ (some 70) _ = _
              simp only [Act.put, List.setIfInBounds_toArray, List.set_cons_zero, List.set_cons_succ, i64_w, i32_w, hj1]
              rfl
             refine Sh.qA 9 ?_; refine Sh.qA 10 ?_
             refine last_ (i := 11) (N := none) (Sh.nm 12 4095) rfl rfl (one_of HT_.out (by kernel_rfl)) (by decide) (fun K hK => ?_)
             refine skip_ (w1 := ?_) (by rfl) rfl ?_ ?_
             rotate_left
             ·go_simp
              rfl
             refine hK.out _ _ ?_
             clear hK K
             refine done_ (done_of HT_.out (by kernel_rfl)) ?_
             try go_wp2
             go_roundg kj8
             case measure => have := HK1.out; have := HJ8.out; omega
             case rel => exact ⟨(y435), (wrap64 (x14_1 + 1)), (Sh.es), H', ⟨by have := HK1.out; have := HJ8.out; omega⟩, ⟨by (with_reducible repeat (first | apply Kd.R_alloc | apply Kd.R_drewN | apply Kd.R_drew)); exact HQ31.out⟩, ⟨Sh.bw⟩⟩
            ·rw [if_neg c27] at H
             exact absurd H (by simp)
           ·rw [if_neg c26] at H
            exact absurd H (by simp)
          ·rw [if_neg c24] at H
           have c24b0 : (((rd_T80 l1 x14_1).f0) == 13) = false := beq_eq_false_iff_ne.mpr c24
           have c24b1 : (((rd_T80 l1 x14_1).f0) != 13) = true := bne_iff_ne.mpr c24
           by_cases c32 : ((rd_T80 l1 x14_1).f0) = 19
           ·rw [if_pos c32] at H
            have c32b0 : (((rd_T80 l1 x14_1).f0) == 19) = true := beq_iff_eq.mpr c32
            have c32b1 : (((rd_T80 l1 x14_1).f0) != 19) = false := bne_eq_false_iff_eq.mpr c32
            clear c32
            obtain ⟨ji33, hj2⟩ : ∃ j_ : Int, (wrap64 ((x7_1.length : Int) - 1)) = j_ := ⟨_, rfl⟩
            replace H : (if 0 ≤ (ji33) then (if (ji33) < (x7_1.length : Int) then (impl_valueOf.l0 kj8 a0 l2 (x7_1.set ((ji33) : Int).toNat (IntKind.u64.wrap (1 - (rd x7_1 (ji33))))) l1 (l1.length : Int) (wrap64 (x14_1 + 1))) else (none)) else (none)) = some r := by first | (rw [hj2] at H; exact H) | (simp only [hj2] at H ⊢; exact H)
            have hji33w : (IntKind.i64.wrap ((x7_1.length : Int) - 1)) = ji33 := (i64_w _).trans hj2
            by_cases c34 : 0 ≤ (ji33)
            ·rw [if_pos c34] at H
             have c34b0 := decide_eq_true c34
             clear c34
             by_cases c35 : (ji33) < (x7_1.length : Int)
             ·rw [if_pos c35] at H
              have c35b0 := decide_eq_true c35
              clear c35
              obtain ⟨y437, hy437⟩ : ∃ y_ : List Int, y_ = (x7_1.set ((ji33) : Int).toNat (IntKind.u64.wrap (1 - (rd x7_1 (ji33))))) := ⟨_, rfl⟩
              replace H : (impl_valueOf.l0 kj8 a0 l2 y437 l1 (l1.length : Int) (wrap64 (x14_1 + 1))) = some r := by first | (rw [hy437]; with_reducible exact H) | (have H2_ := (Option.bind_some _ _).symm.trans H; rw [hy437]; with_reducible exact H2_) | (have H2_ := (Option.bind_some _ _).symm.trans H; with_reducible exact H2_) | with_reducible exact H | (rw [hy437]; exact H) | exact H
              have Ny437 := am_ hy437
              clear hy437
              have H' := am_ H
              clear H
              have p436 : 0 ≤ ((ji33) : Int) := Sh.od
              have q436 : (ji33) < (x7_1.length : Int) := Sh.od
              obtain ⟨ad436, e436, hx436_0⟩ := Kd.at_int (Kd.R_reads' HO_7.out).2.2 (ji33) p436 q436
              cases e436
              replace p436 := eq_true p436
              replace q436 := eq_true q436
              have p36 : 0 ≤ ((ji33) : Int) := Sh.od
              have q36 : ((ji33) : Int) < ((x7_1.length : Int) : Int) := Sh.od
              obtain ⟨go36, co36, eo36, gb36, gl36, cl36, HG36⟩ := Kd.R_form HO_7.out (by omega)
              (first | cases eo36 | (injection eo36 with ea_ en_ ec_; (first | subst ea_ | (injection ea_ with ea_; subst ea_)); subst ec_; clear en_))
              have GB36 := am_ gb36
              have GG36 := am_ HG36
              clear gb36 gl36 HG36
              (first | simp only [add_plain] at hx436_0 | skip)
              obtain ⟨hx36_0, hf36_0⟩ := Kd.R_celln 0 HO_7.out ((ji33) : Int) p36 q36
              replace p36 := eq_true p36
              replace q36 := eq_true q36
              have HP37 := Kd.R_putg HO_7.out ((ji33) : Int) (IntKind.u64.wrap (1 - (rd x7_1 (ji33))))
              go_wp2_with (first | ((with_reducible refine gate_store (t := 59) (p := 82) rfl ?_); refine store_event (t := 59) (p := 82) (v := ?vo_w38) (w1 := (wc.setCell ⟨go36, ((ji33) : Int).toNat, none⟩ (.int .u64 (IntKind.u64.wrap (1 - (rd x7_1 (ji33))))))) ?hg ?ho ?hn ?hr ?_; (case ho => rfl); (case hg => rfl); (case hn => rfl); (case hr => first | (go_simp; done) | (go_simp; rfl)); intro w38 hw; have hg : wc.grownBy w38 (some go36) := (by rw [hw]; exact HP37.2); have hp_ : Kd.R (Kd.int .u64) 59 w38 w.heap.size (fun _ => True) (.slice (some ⟨go36, 0, none⟩) x7_1.length co12) y437 := (by rw [hw, Ny437.out]; exact HP37.1); clear HP37; replace BK425 := am_ (blk_grown (g := gb425) (o := .cells #[.int .i64 ((rd_T80 l1 x14_1).f0), .int .u64 ((rd_T80 l1 x14_1).f1)] 80 (0, 0)) (Sh.pl BK425.out) hg (Kd.R_ne HO_7.out BK425.out (by decide))); replace HO_7 := am_ hp_; replace HB := am_ ((by rw [hw]; exact below_set (HB.out) GB36.out : Below w.heap.size w w38)); clear hg hw hp_))
              go_roundg kj8
              case measure => have := HK1.out; have := HJ8.out; omega
              case rel => exact ⟨(y437), (wrap64 (x14_1 + 1)), (Sh.es), H', ⟨by have := HK1.out; have := HJ8.out; omega⟩, ⟨Sh.rl HO_7.out⟩, ⟨Sh.bw⟩⟩
             ·rw [if_neg c35] at H
              exact absurd H (by simp)
            ·rw [if_neg c34] at H
             exact absurd H (by simp)
           ·rw [if_neg c32] at H
            have c32b0 : (((rd_T80 l1 x14_1).f0) == 19) = false := beq_eq_false_iff_ne.mpr c32
            have c32b1 : (((rd_T80 l1 x14_1).f0) != 19) = true := bne_iff_ne.mpr c32
            obtain ⟨ji39, hj3⟩ : ∃ j_ : Int, (wrap64 ((wrap64 ((x7_1.length : Int) - 1)) - 1)) = j_ := ⟨_, rfl⟩
            replace H : (if 0 ≤ (ji39) then (if (ji39) < (x7_1.length : Int) then (if 0 ≤ (wrap64 ((x7_1.length : Int) - 1)) then (if (wrap64 ((x7_1.length : Int) - 1)) < (x7_1.length : Int) then (if (ji39) ≤ (x7_1.length : Int) then ((some (x7_1.take ((ji39) : Int).toNat : List Int)).bind fun y440 => ((impl_apply.f kj8 a0 ((rd_T80 l1 x14_1).f0) (rd x7_1 (ji39)) (rd x7_1 (wrap64 ((x7_1.length : Int) - 1)))).bind fun t443 => (if y440.length < 17592186044416 then (impl_valueOf.l0 kj8 a0 l2 (y440 ++ [t443]) l1 (l1.length : Int) (wrap64 (x14_1 + 1))) else (none)))) else (none)) else (none)) else (none)) else (none)) else (none)) = some r := by first | (rw [hj3] at H; exact H) | (simp only [hj3] at H ⊢; exact H)
            have hji39w : (IntKind.i64.wrap ((wrap64 ((x7_1.length : Int) - 1)) - 1)) = ji39 := (i64_w _).trans hj3
            by_cases c40 : 0 ≤ (ji39)
            ·rw [if_pos c40] at H
             have c40b0 := decide_eq_true c40
             clear c40
             by_cases c41 : (ji39) < (x7_1.length : Int)
             ·rw [if_pos c41] at H
              have c41b0 := decide_eq_true c41
              clear c41
              obtain ⟨ji42, hj4⟩ : ∃ j_ : Int, (wrap64 ((x7_1.length : Int) - 1)) = j_ := ⟨_, rfl⟩
              have hj5 := hj3; (try rw [hj4] at hj5)
              replace H : (if 0 ≤ (ji42) then (if (ji42) < (x7_1.length : Int) then (if (ji39) ≤ (x7_1.length : Int) then ((some (x7_1.take ((ji39) : Int).toNat : List Int)).bind fun y440 => ((impl_apply.f kj8 a0 ((rd_T80 l1 x14_1).f0) (rd x7_1 (ji39)) (rd x7_1 (ji42))).bind fun t443 => (if y440.length < 17592186044416 then (impl_valueOf.l0 kj8 a0 l2 (y440 ++ [t443]) l1 (l1.length : Int) (wrap64 (x14_1 + 1))) else (none)))) else (none)) else (none)) else (none)) = some r := by first | (rw [hj4] at H; exact H) | (simp only [hj4] at H ⊢; exact H)
              have hji42w : (IntKind.i64.wrap ((x7_1.length : Int) - 1)) = ji42 := (i64_w _).trans hj4
              by_cases c43 : 0 ≤ (ji42)
              ·rw [if_pos c43] at H
               have c43b0 := decide_eq_true c43
               clear c43
               by_cases c44 : (ji42) < (x7_1.length : Int)
               ·rw [if_pos c44] at H
                have c44b0 := decide_eq_true c44
                clear c44
                by_cases c45 : (ji39) ≤ (x7_1.length : Int)
                ·rw [if_pos c45] at H
                 have c45b0 := eq_true c45
                 have c45b1 := decide_eq_true c45
                 clear c45
                 obtain ⟨y440, hy440⟩ : ∃ y_ : List Int, y_ = (x7_1.take ((ji39) : Int).toNat) := ⟨_, rfl⟩
                 replace H : ((impl_apply.f kj8 a0 ((rd_T80 l1 x14_1).f0) (rd x7_1 (ji39)) (rd x7_1 (ji42))).bind fun t443 => (if y440.length < 17592186044416 then (impl_valueOf.l0 kj8 a0 l2 (y440 ++ [t443]) l1 (l1.length : Int) (wrap64 (x14_1 + 1))) else (none))) = some r := by first | (rw [hy440]; with_reducible exact H) | (have H2_ := (Option.bind_some _ _).symm.trans H; rw [hy440]; with_reducible exact H2_) | (have H2_ := (Option.bind_some _ _).symm.trans H; with_reducible exact H2_) | with_reducible exact H | (rw [hy440]; exact H) | exact H
                 have Ny440 := am_ hy440
                 clear hy440
                 obtain ⟨t443, A46, H⟩ := Sh.ba H
                 by_cases c47 : y440.length < 17592186044416
                 ·rw [if_pos c47] at H
                  have LMc47 := am_ c47
                  clear c47
                  obtain ⟨y444, hy444⟩ : ∃ y_ : List Int, y_ = (y440 ++ [t443]) := ⟨_, rfl⟩
                  replace H : (impl_valueOf.l0 kj8 a0 l2 y444 l1 (l1.length : Int) (wrap64 (x14_1 + 1))) = some r := by first | (rw [hy444]; with_reducible exact H) | (have H2_ := (Option.bind_some _ _).symm.trans H; rw [hy444]; with_reducible exact H2_) | (have H2_ := (Option.bind_some _ _).symm.trans H; with_reducible exact H2_) | with_reducible exact H | (rw [hy444]; exact H) | exact H
                  have Ny444 := am_ hy444
                  clear hy444
                  have H' := am_ H
                  clear H
                  try go_wp2
                  replace HO_7 := am_ (Kd.R_drew HO_7.out)
                  replace BK425 := am_ (blk_drew BK425.out)
                  replace HB := am_ (below_drew1 HB.out)
                  have p438 : 0 ≤ ((ji39) : Int) := Sh.od
                  have q438 : (ji39) < (x7_1.length : Int) := Sh.od
                  obtain ⟨ad438, e438, hx438_0⟩ := Kd.at_int (Kd.R_reads' HO_7.out).2.2 (ji39) p438 q438
                  cases e438
                  replace p438 := eq_true p438
                  replace q438 := eq_true q438
                  have p439 : 0 ≤ ((ji42) : Int) := Sh.od
                  have q439 : (ji42) < (x7_1.length : Int) := Sh.od
                  obtain ⟨ad439, e439, hx439_0⟩ := Kd.at_int (Kd.R_reads' HO_7.out).2.2 (ji42) p439 q439
                  obtain rfl : ad438 = ad439 := (by injection e439)
                  replace p439 := eq_true p439
                  replace q439 := eq_true q439
                  have q49 : ((ji39) : Int) ≤ ((x7_1.length : Int) : Int) := Sh.od
                  obtain ⟨i049, hi049, _, hsz49, _⟩ := info_parts info59
                  have hcut49 := cut_to (P := Tryz.prog) 26 59 .i64 Tryz.underlying26 hi049 (some ad438) x7_1.length co12 (ji39) (of_decide_eq_true (by first | (with_reducible assumption) | assumption)) q49 (Kd.R_reads' HO_7.out).2.1
                  have hr49 := Kd.R_take (m := ((ji39) : Int).toNat) HO_7.out (by omega)
                  have hy49 : y440.length = ((ji39) : Int).toNat := (by rw [Ny440.out, List.length_take]; omega)
                  rw [← Ny440.out] at hr49
                  rw [← hy49] at hr49 hcut49
                  clear hy49 hi049 hsz49 HO_7
                  have HO442 := am_ hr49
                  clear hr49
                  replace q49 := eq_true q49
                  refine start_ (n := 20) (S := fun w' => w'.cell? ⟨gb425, 0, none⟩ = some (.int .i64 ((rd_T80 l1 x14_1).f0)) ∧ w'.cell? ⟨gb425, 1, none⟩ = some (.int .u64 ((rd_T80 l1 x14_1).f1)) ∧ w'.cell? (ad438.add ((ji39)).toNat) = some (.int .u64 (rd x7_1 (ji39))) ∧ w'.cell? (ad438.add ((ji42)).toNat) = some (.int .u64 (rd x7_1 (ji42)))) (ds := [17, 18]) (Sh.nm 20 0) (by kernel_rfl) rfl rfl ⟨(blk_cell BK425.out 0).trans rfl, (blk_cell BK425.out 1).trans rfl, hx438_0, hx439_0⟩ (fun hHeld => ?_); refine with_tabW impl_valueOf.tab7 impl_valueOf.bits7 (fun HT_ HW_ => ?_)
                  generalize wc.drew = w48 at HO_7 BK425 HB HO442 hx438_0 hx439_0 hHeld ⊢
                  refine Sh.qA 0 ?_; refine Sh.qA 1 ?_; refine Sh.qA 2 ?_; refine Sh.qA 3 ?_; refine Sh.qA 4 ?_; refine Sh.qA 5 ?_; refine Sh.qA 7 ?_; refine Sh.qA 8 ?_; refine Sh.qA 9 ?_; refine Sh.qA 10 ?_; refine Sh.qA 12 ?_; refine Sh.qA 13 ?_; refine Sh.qA 14 ?_; refine Sh.qT 6 hHeld ?_; refine Sh.qT 11 hHeld ?_; refine Sh.qT 15 hHeld ?_
                  refine one_ (i := 16) (N := some 39) (Sh.nm 20 131071) rfl rfl (one_of HT_.out (by kernel_rfl)) (by decide) (fun K hK => ?_)
                  refine goes_ Tryz.func85 (by kernel_rfl) rfl #[.int .i64 a0, .int .i64 ((rd_T80 l1 x14_1).f0), .int .u64 (rd x7_1 (ji39)), .int .u64 (rd x7_1 (ji42))] (by rfl) rfl rfl (by (try simp only [List.map_toArray, List.map_cons, List.map_nil]); first | done | (simp only [hj3, hj4]; rfl) | rfl | (simp only [List.length_drop, List.length_take]; rfl)) ?_
                  with_reducible refine (impl_apply.calls kj8 a0 ((rd_T80 l1 x14_1).f0) (rd x7_1 (ji39)) (rd x7_1 (ji42)) t443 _ A46.out).mono ?_
                  rintro e w' ⟨rfl, ⟨nd, rfl⟩⟩
                  refine ⟨_, rfl, ?_⟩
                  refine Sh.kN hK ⟨(blk_cell BK425.out 0).trans rfl, (blk_cell BK425.out 1).trans rfl, hHeld.2.2.1, hHeld.2.2.2⟩ fun hHeld => ?_
                  clear hK K
                  refine last_ (i := 17) (N := some 40) (Sh.nm 20 262143) rfl rfl (one_of HT_.out (by kernel_rfl)) (by decide) (fun K hK => ?_)
                  refine value_ (w1 := ?_) (v := ?_) (by rfl) rfl ?_ ?_
                  rotate_left 2
                  ·go_simp
                   constructor
                   ·rfl
                   ·rfl
                  refine Sh.kM hK ?_
                  clear hK K
                  refine last_ (i := 18) (N := some 41) (Sh.nm 20 524287) rfl rfl (one_of HT_.out (by kernel_rfl)) (by decide) (fun K hK => ?_)
                  refine Kd.R_append_step (Kd.int .u64) (w0 := w) w.heap.size (by rfl) (.tmp 26) (.tmp 40) 26 59 (.int .u64 0) 8 rfl Tryz.underlying26 info59 rfl (by decide) (by omega) (.slice (some ad438) y440.length co12) y440 t443 [.int .u64 t443] (fun _ => True) (fun _ => False) rfl rfl ?aP (fun _ hk => hk.elim) ?aF ?aO ?aB ?aS ?aL ?_
                  (case aP => exact rfl)
                  (case aB => exact Sh.bw)
                  (case aF => exact (fun _ _ => trivial))
                  (case aO => exact (Sh.rl HO442.out))
                  (case aS => exact (below_size Sh.bw))
                  (case aL => have := LMc47.out; omega)
                  intro v445 w50 ho hb hg hat
                  rw [← Ny444.out] at ho
                  have n0_ := am_ (blk_grown (g := gb425) (o := .cells #[.int .i64 ((rd_T80 l1 x14_1).f0), .int .u64 ((rd_T80 l1 x14_1).f1)] 80 (0, 0)) (Sh.pl BK425.out) hg (Kd.R_ne HO442.out BK425.out (by decide)))
                  have n1_ := am_ hb
                  have n2_ := am_ ho
                  clear BK425
                  clear HB
                  clear HO442
                  have BK425 := n0_
                  have HB := n1_
                  have HO446 := n2_
                  clear n0_ n1_ n2_
                  clear ho hb hg hat
                  refine Sh.kM hK ?_
                  clear hK K
                  refine Sh.qA 19 ?_
                  refine done_ (done_of HT_.out (by kernel_rfl)) ?_
                  try go_wp2
                  go_roundg kj8
                  case measure => have := HK1.out; have := HJ8.out; omega
                  case rel => exact ⟨(y444), (wrap64 (x14_1 + 1)), (Sh.es), H', ⟨by have := HK1.out; have := HJ8.out; omega⟩, ⟨Sh.rl HO446.out⟩, ⟨Sh.bw⟩⟩
                 ·rw [if_neg c47] at H
                  exact absurd H (by simp)
                ·rw [if_neg c45] at H
                 exact absurd H (by simp)
               ·rw [if_neg c44] at H
                exact absurd H (by simp)
              ·rw [if_neg c43] at H
               exact absurd H (by simp)
             ·rw [if_neg c41] at H
              exact absurd H (by simp)
            ·rw [if_neg c40] at H
             exact absurd H (by simp)
     ·rw [if_neg c8] at H
      exact absurd H (by simp)
    ·rw [if_neg c7] at H
     exact absurd H (by simp)
   ·rw [if_neg c6] at H
    have c6b0 := decide_eq_false c6
    clear c6
    by_cases c51 : 0 < (x7_1.length : Int)
    ·rw [if_pos c51] at H
     have c51b0 := decide_eq_true c51
     have c51b1 : decide (0 < x7_1.length) = true := decide_eq_true (by omega)
     clear c51
     obtain rfl := Option.some.inj H
     obtain ⟨Ao52, co52, eo52⟩ := Kd.R_slice HO_7.out
     subst eo52
     have p423 : 0 ≤ (0 : Int) := (by omega)
     have q423 : 0 < (x7_1.length : Int) := Sh.od
     obtain ⟨ad423, e423, hx423_0⟩ := Kd.at_int (Kd.R_reads' HO_7.out).2.2 0 p423 q423
     cases e423
     have qi423 : (0 < x7_1.length) = True := eq_true (by omega)
     (try rw [show ((0 : Int)).toNat = 0 from rfl] at hx423_0)
     (try rw [Addr.add_zero'] at hx423_0)
     replace p423 := eq_true p423
     replace q423 := eq_true q423
     go_wp2
     go_ret
     exact ⟨Sh.eR, Sh.bw⟩
    ·rw [if_neg c51] at H
     exact absurd H (by simp)
def impl_Program_holds.f (k : Nat) (a0_0 : Int) (a0_1 : Int) (l0_2 : List (S80)) (l0_3 : List (S72)) (l1 : List (S80)) (l2 : List Int) : Option (Bool) := (impl_valueOf.f k a0_0 l1 l2).bind fun t448 => (some (t448 == 1))
theorem impl_Program_holds.mono : ∀ a0 a1 a2 a3 a4 a5 k, LeO (impl_Program_holds.f k a0 a1 a2 a3 a4 a5) (impl_Program_holds.f (k + 1) a0 a1 a2 a3 a4 a5) := by
 intro a0 a1 a2 a3 a4 a5 k
 unfold impl_Program_holds.f
 repeat' with_reducible first | apply impl_valueOf.mono | exact LeO.refl _ | exact LeO.none _ | apply LeO.ite | refine LeO.bind ?_ fun _ => ?_
theorem impl_Program_holds.calls (k : Nat) (a0_0 : Int) (a0_1 : Int) (A0_2 : Option Addr) (c0_2 : Nat) (l0_2 : List (S80)) (A0_3 : Option Addr) (c0_3 : Nat) (l0_3 : List (S72)) (A1 : Option Addr) (c1 : Nat) (l1 : List (S80)) (A2 : Option Addr) (c2 : Nat) (l2 : List Int) (r : Bool) (w : World) (hr0_2 : Kd.C k80 w A0_2 l0_2.length l0_2) (hc0_2 : l0_2.length ≤ c0_2) (hr0_3 : Kd.C k72 w A0_3 l0_3.length l0_3) (hc0_3 : l0_3.length ≤ c0_3) (hr1 : Kd.C k80 w A1 l1.length l1) (hc1 : l1.length ≤ c1) (hr2 : Kd.C (Kd.int .u64) w A2 l2.length l2) (hc2 : l2.length ≤ c2) (h : impl_Program_holds.f k a0_0 a0_1 l0_2 l0_3 l1 l2 = some r) :
  Calls Tryz.prog 50 #[.agg #[.int .i64 a0_0, .int .i64 a0_1, .slice A0_2 l0_2.length c0_2, .slice A0_3 l0_3.length c0_3], .slice A1 l1.length c1, .slice A2 l2.length c2] w fun e w' => e = .returned (.bool r) ∧ Below w.heap.size w w' := by
 have hu36 := Tryz.underlying36
 have HR0_2 := am_ hr0_2
 have HC0_2 := am_ hc0_2
 clear hr0_2 hc0_2
 have HR0_3 := am_ hr0_3
 have HC0_3 := am_ hc0_3
 clear hr0_3 hc0_3
 have HR1 := am_ hr1
 have HC1 := am_ hc1
 clear hr1 hc1
 have HR2 := am_ hr2
 have HC2 := am_ hc2
 clear hr2 hc2
 have HB := am_ (Below.refl w.heap.size w)
 have H := h
 clear h
 unfold impl_Program_holds.f at H
 obtain ⟨t448, A4, H⟩ := Sh.ba H
 obtain rfl := Option.some.inj H
 go_enter Tryz.func50, Tryz.ntmps50
 go_wp2_with (first | ((with_reducible refine Sh.d 3 ?_); refine Sh.bz w (N := 3) (cs := #[.int .i64 a0_0, .int .i64 a0_1, .slice A0_2 l0_2.length c0_2, .slice A0_3 l0_3.length c0_3]) (t := 36) (h := ?_); clear HB; intro gb447 w5 BK447 GE447 HB; obtain ⟨hcz6_0, hcz6_1, hcz6_2, hcz6_3, hfz6_0, hfz6_1, hfz6_2, hfz6_3⟩ := Sh.b4 BK447.out) | ((with_reducible refine Sh.k 70 ?_); refine Sh.gB (some 11) Tryz.func70 #[.int .i64 a0_0, .slice A1 l1.length c1, .slice A2 l2.length c2] (impl_valueOf.calls k a0_0 _ _ l1 _ _ l2 t448 _ (Sh.cB HR1.out) HC1.out (Sh.cB HR2.out) HC2.out A4.out) fun w7 hb => ?_; replace BK447 := Sh.ab BK447 hb; replace HB := Sh.hb hb; (try clear hb); (try clear hb2); (try clear hk); (try clear hi)))
 go_ret
 exact ⟨Sh.eR, Sh.bw⟩
def slices_Clone_uint64_uint64.f (l0 : List (Int)) : Option (List (Int)) := if l0.length < 17592186044416 then some l0 else none
theorem slices_Clone_uint64_uint64.calls (A0 : Option Addr) (c0 : Nat) (l0 : List (Int)) (r : List (Int)) (w : World) (hr0 : Kd.C (Kd.int .u64) w A0 l0.length l0) (hc0 : l0.length ≤ c0) (h : slices_Clone_uint64_uint64.f l0 = some r) :
  Calls Tryz.prog 31 #[.slice A0 l0.length c0] w fun e w' => ∃ v0_ : Value, e = .returned (v0_) ∧ Kd.R (Kd.int .u64) 59 w' w.heap.size (fun _ => True) v0_ r ∧ Below w.heap.size w w' := by
 have hlim : l0.length < 17592186044416 := by
  rcases Nat.lt_or_ge l0.length 17592186044416 with h1 | h1
  ·exact h1
  ·rw [slices_Clone_uint64_uint64.f, if_neg (by omega)] at h; cases h
 rw [slices_Clone_uint64_uint64.f, if_pos hlim] at h
 obtain rfl := Option.some.inj h
 clear h
 cases A0 with
 | none =>
  have hl : l0 = [] := by
   rcases l0 with _ | ⟨x, t⟩
   ·rfl
   ·obtain ⟨ad, e, _⟩ := hr0.2.2 (by simp)
    cases e
  subst hl
  have he : ∀ (w : World) (n c : Nat), (binOp .eql 26 (.slice none n c) (.slice none 0 0)).run Tryz.prog w = .ok (.bool true) w := fun _ _ _ => rfl
  go_enter Tryz.func31, Tryz.ntmps31
  go_wp2
  all_goals (go_ret; exact ⟨_, rfl, Kd.R_nil _ _ _ _ _, Below.refl _ _⟩)
 | some a0 =>
  have HR0 := am_ hr0
  have HC0 := am_ hc0
  clear hr0 hc0
  have HB := am_ (Below.refl w.heap.size w)
  have LM := am_ hlim
  clear hlim
  have he : ∀ (w : World) (n c : Nat), (binOp .eql 26 (.slice (some a0) n c) (.slice none 0 0)).run Tryz.prog w = .ok (.bool false) w := fun _ _ _ => rfl
  go_enter Tryz.func31, Tryz.ntmps31
  go_wp2_with (first | ((with_reducible refine Sh.d 5 ?_); refine Kd.R_lit (Kd.int .u64) _ 59 ?hg (N := 5) ?hd (xs := ([] : List (Int))) (inner := []) (ok := fun _ => True) (okp := fun _ => True) ?hr ?hp (fun _ hk => hk) trivial (Below.refl _ _) (Nat.le_refl _) (by simp) ?_; (case hd => rfl); (case hg => rfl); (case hr => first | (go_simp; done) | (go_simp; rfl)); (case hp => exact (Reps.none _ _)); intro v359 w3 ho4 hb hg_ hnew_; clear hg_ hnew_; have HO360 := am_ (Kd.R_lower ho4 (below_size Sh.bw)); replace HB := Sh.hb hb; clear hb ho4) | ((with_reducible refine gate_builtin (b := .append) (xs := #[.tmp 5, .tmp 6]) rfl ?_); at_builtin; refine Kd.R_append_rows (Kd.int .u64) (w0 := w) w.heap.size rfl (.tmp 5) (.tmp 6) 26 59 (.int .u64 0) 8 rfl Tryz.underlying26 info59 rfl (by decide) (by omega) v359 [] l0 _ _ _ (fun _ => True) (fun _ => False) rfl rfl ?aO ?aR (fun _ _ h => h) (fun _ h => h.elim) ?aF ?aB ?aS ?aL ?_; (case aR => repeat (first | exact (Kd.C_below HR0.out HB.out) | (with_reducible first | refine Kd.C_alloc ?_ _ | refine Kd.C_drewN ?_ _ | refine Kd.C_drew ?_))); (case aB => exact Sh.bw); (case aF => exact (fun _ _ => trivial)); (case aO => exact (Sh.rl HO360.out)); (case aS => exact (below_size Sh.bw)); (case aL => have := LM.out; simp only [List.length_nil]; omega); intro v362 w5 ho hb hg hat; rw [List.nil_append] at ho; have n0_ := am_ hb; have n1_ := am_ ho; clear HB; clear HO360; have HB := n0_; have HO363 := n1_; clear n0_ n1_; clear ho hb hg hat))
  go_ret
  exact ⟨_, rfl, HO363.out, HB.out⟩
end Go.Proofs.YtjenmoopbmklfaaGreat.P
