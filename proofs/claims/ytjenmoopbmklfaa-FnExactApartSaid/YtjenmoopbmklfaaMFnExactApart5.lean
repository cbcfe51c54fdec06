/- Go functions of this seat as Lean functions, and the proofs that the calls come to what these say; printed by a program of this session. No condition. -/
import Derived.Test.YtjenmoopbmklfaaP0
import Derived.Test.YtjenmoopbmklfaaMFnExactApart4
set_option linter.unusedVariables false
set_option linter.unusedSimpArgs false
set_option maxHeartbeats 40000000
set_option maxRecDepth 100000
namespace Go.Proofs.Ytjenmoopbmklfaa.P
open Go.RowKit Go.Proofs.YtjenmoopbmklfaaW.PrintWords Go.Proofs.YtjenmoopbmklfaaW.PrintLast Go.Proofs.YtjenmoopbmklfaaW.PrintMore Go.Proofs.Ytjenmoopbmklfaa.Hof
attribute [local go_sem] max2_int min2_int max_two min_two max_three min_three max_four min_four
mutual
def impl_GoodTerm.j0 : Nat → Int → Int → List (S73) → Bool → Option (Bool)
 | 0, _, _, _, _ => none
 | k + 1, x0, x1, x2, x31 => if x31 = true then (some false) else (impl_GoodTerm.l0 k x0 x1 (([] : List Int)) x2 (x2.length : Int) 0)
def impl_GoodTerm.l0 : Nat → Int → Int → List Int → List (S73) → Int → Int → Option (Bool)
 | 0, _, _, _, _, _, _ => none
 | k + 1, x0, x1, x7, x33, x34, x35 => if x35 < x34 then (if 0 ≤ x35 then (if x35 < (x33.length : Int) then ((impl_operandsOf.f k ((rd_T73 x33 x35).f0)).bind fun bt329 => (if bt329.2.2 = 0 then (some false) else ((impl_isLeafRight.f x0 x1 ((rd_T73 x33 x35).f0) ((rd_T73 x33 x35).f1)).bind fun t333 => (if t333 = true then (if (wrap64 ((x7.length : Int) - bt329.1)) < 0 then (some false) else (if 0 ≤ (wrap64 ((x7.length : Int) - bt329.1)) then (if (wrap64 ((x7.length : Int) - bt329.1)) ≤ (x7.length : Int) then ((slices_ContainsFunc_int_int_by_impl_GoodTerm_1.f (x7.drop ((wrap64 ((x7.length : Int) - bt329.1)) : Int).toNat) bt329.2.1).bind fun t338 => (if t338 = true then (some false) else ((some (x7.take ((wrap64 ((x7.length : Int) - bt329.1)) : Int).toNat : List Int)).bind fun y339 => (if y339.length < 17592186044416 then (impl_GoodTerm.l0 k x0 x1 (y339 ++ [bt329.2.2]) x33 x34 (wrap64 (x35 + 1))) else (none))))) else (none)) else (none))) else (some false))))) else (none)) else (none)) else (some ((x7.length : Int) == 1))
end
def impl_GoodTerm.f (k : Nat) (a0 : Int) (a1 : Int) (l2 : List (S73)) : Option (Bool) := (impl_isWide.f a0).bind fun t322 => (if t322 = true then ((impl_isVars.f a1).bind fun t323 => (if t323 = true then (if (l2.length : Int) < 1 then (impl_GoodTerm.j0 k a0 a1 l2 true) else (impl_GoodTerm.j0 k a0 a1 l2 (decide ((l2.length : Int) > 48)))) else (impl_GoodTerm.j0 k a0 a1 l2 true))) else (impl_GoodTerm.j0 k a0 a1 l2 true))
theorem impl_GoodTerm.mono_l : ∀ k, (∀ y0 y1 y2 y3, LeO (impl_GoodTerm.j0 k y0 y1 y2 y3) (impl_GoodTerm.j0 (k + 1) y0 y1 y2 y3)) ∧ (∀ y0 y1 y2 y3 y4 y5, LeO (impl_GoodTerm.l0 k y0 y1 y2 y3 y4 y5) (impl_GoodTerm.l0 (k + 1) y0 y1 y2 y3 y4 y5))
 | 0 => ⟨fun _ _ _ _ r h => by simp [impl_GoodTerm.j0] at h, fun _ _ _ _ _ _ r h => by simp [impl_GoodTerm.l0] at h⟩
 | k + 1 => by
  obtain ⟨ih0, ih1⟩ := impl_GoodTerm.mono_l k
  and_intros <;> intros
  all_goals (first | unfold impl_GoodTerm.j0 | unfold impl_GoodTerm.l0)
  all_goals repeat' with_reducible first | apply ih0 | apply ih1 | apply impl_operandsOf.mono | exact LeO.refl _ | exact LeO.none _ | apply LeO.ite | refine LeO.bind ?_ fun _ => ?_
theorem impl_GoodTerm.mono : ∀ a0 a1 a2 k, LeO (impl_GoodTerm.f k a0 a1 a2) (impl_GoodTerm.f (k + 1) a0 a1 a2) := by
 intro a0 a1 a2 k
 obtain ⟨ih0, ih1⟩ := impl_GoodTerm.mono_l k
 unfold impl_GoodTerm.f
 repeat' with_reducible first | apply ih0 | apply ih1 | apply impl_operandsOf.mono | exact LeO.refl _ | exact LeO.none _ | apply LeO.ite | refine LeO.bind ?_ fun _ => ?_
theorem impl_GoodTerm.calls (k : Nat) (a0 : Int) (a1 : Int) (A2 : Option Addr) (c2 : Nat) (l2 : List (S73)) (r : Bool) (w : World) (hr2 : Kd.C k73 w A2 l2.length l2) (hc2 : l2.length ≤ c2) (h : impl_GoodTerm.f k a0 a1 l2 = some r) :
  Calls Try.prog 79 #[.int .i64 a0, .int .i64 a1, .slice A2 l2.length c2] w fun e w' => e = .returned (.bool r) ∧ Below w.heap.size w w' := by
 have hu73 := Try.underlying73
 have HR2 := am_ hr2
 have HC2 := am_ hc2
 clear hr2 hc2
 have HB := am_ (Below.refl w.heap.size w)
 have H := h
 clear h
 unfold impl_GoodTerm.f at H
 have HC4 := am_ H
 clear H
 go_enter Try.func79, Try.ntmps79
 go_upto_region 1 with (fail)
 go_cut [31] (fun v31 wc => ∃ (kq : Nat) (x31_3 : Bool), v31 = .bool x31_3 ∧ Aside0 (impl_GoodTerm.j0 kq a0 a1 l2 x31_3 = some r) ∧ Aside0 (kq ≤ k) ∧ Aside0 (Below w.heap.size w wc))
 case first =>
  have H := HC4.out
  clear HC4
  obtain ⟨t322, A5, H⟩ := Sh.ba H
  by_cases c6 : t322 = true
  ·subst c6
   rw [if_pos rfl] at H
   obtain ⟨t323, A7, H⟩ := Sh.ba H
   by_cases c8 : t323 = true
   ·subst c8
    rw [if_pos rfl] at H
    by_cases c9 : (l2.length : Int) < 1
    ·rw [if_pos c9] at H
     have c9b0 := decide_eq_true c9
     have c9b1 : decide (l2.length < 1) = true := decide_eq_true (by omega)
     clear c9
     first | rw [c9b0] | (simp only [i64_w, i32_w]; rw [c9b0]) | skip
     have H' := am_ H
     clear H
     go_wp2_with (first | ((with_reducible refine Sh.k 43 ?_); refine Sh.gD (some 15) Try.func43 #[.int .i64 a0] (impl_isWide.calls a0 true _ A5.out) fun nd => ?_) | (go_at_call 44; (with_reducible refine (impl_isVars.calls a1 true _ A7.out).mono ?_); rintro e w' ⟨rfl, ⟨nd, rfl⟩⟩))
     go_meet
     case rel => exact ⟨_, (true), (Sh.es), H', ⟨Sh.om⟩, ⟨Sh.bw⟩⟩
    ·rw [if_neg c9] at H
     have c9b0 := decide_eq_false c9
     have c9b1 : decide (l2.length < 1) = false := decide_eq_false (by omega)
     clear c9
     first | rw [c9b0] | (simp only [i64_w, i32_w]; rw [c9b0]) | skip
     have H' := am_ H
     clear H
     go_wp2_with (first | ((with_reducible refine Sh.k 43 ?_); refine Sh.gD (some 15) Try.func43 #[.int .i64 a0] (impl_isWide.calls a0 true _ A5.out) fun nd => ?_) | (go_at_call 44; (with_reducible refine (impl_isVars.calls a1 true _ A7.out).mono ?_); rintro e w' ⟨rfl, ⟨nd, rfl⟩⟩))
     go_meet
     case rel => exact ⟨_, (decide ((l2.length : Int) > 48)), (Sh.es), H', ⟨Sh.om⟩, ⟨Sh.bw⟩⟩
   ·replace c8 := Bool.eq_false_iff.mpr c8
    subst c8
    rw [Sh.nf] at H
    have H' := am_ H
    clear H
    go_wp2_with (first | ((with_reducible refine Sh.k 43 ?_); refine Sh.gD (some 15) Try.func43 #[.int .i64 a0] (impl_isWide.calls a0 true _ A5.out) fun nd => ?_) | (go_at_call 44; (with_reducible refine (impl_isVars.calls a1 false _ A7.out).mono ?_); rintro e w' ⟨rfl, ⟨nd, rfl⟩⟩))
    go_meet
    case rel => exact ⟨_, (true), (Sh.es), H', ⟨Sh.om⟩, ⟨Sh.bw⟩⟩
  ·replace c6 := Bool.eq_false_iff.mpr c6
   subst c6
   rw [Sh.nf] at H
   have H' := am_ H
   clear H
   go_wp2_with (first | ((with_reducible refine Sh.k 43 ?_); refine Sh.gD (some 15) Try.func43 #[.int .i64 a0] (impl_isWide.calls a0 false _ A5.out) fun nd => ?_))
   go_meet
   case rel => exact ⟨_, (true), (Sh.es), H', ⟨Sh.om⟩, ⟨Sh.bw⟩⟩
 case rest =>
  clear HC4
  obtain ⟨kq, x31_3, rfl, HA, HJ3, HB⟩ := hcut
  cases kq with
  | zero => exact absurd HA.out (by simp [impl_GoodTerm.j0])
  | succ kj3 =>
   have H := HA.out
   clear HA
   simp only [impl_GoodTerm.j0] at H
   by_cases c10 : x31_3 = true
   ·subst c10
    rw [if_pos rfl] at H
    obtain rfl := Option.some.inj H
    go_wp2
    go_ret
    exact ⟨Sh.eR, Sh.bw⟩
   ·replace c10 := Bool.eq_false_iff.mpr c10
    subst c10
    rw [Sh.nf] at H
    obtain ⟨y324, hy324⟩ : ∃ y_ : List Int, y_ = (([] : List Int)) := ⟨_, rfl⟩
    replace H : (impl_GoodTerm.l0 kj3 a0 a1 y324 l2 (l2.length : Int) 0) = some r := by first | (rw [hy324]; with_reducible exact H) | (have H2_ := (Option.bind_some _ _).symm.trans H; rw [hy324]; with_reducible exact H2_) | (have H2_ := (Option.bind_some _ _).symm.trans H; with_reducible exact H2_) | with_reducible exact H | (rw [hy324]; exact H) | exact H
    have Ny324 := am_ hy324
    clear hy324
    have H' := am_ H
    clear H
    go_wp2_with (first | ((with_reducible refine Sh.d 32 ?_); (try (refine gate_guard (by rfl) ?_; dsimp only)); refine Kd.R_lit (Kd.int .i64) _ 3 ?hg (N := 32) ?hd (xs := ([] : List Int)) (inner := []) (ok := fun _ => True) (okp := fun _ => True) ?hr ?hp (fun _ hk => hk) trivial (Below.refl _ _) (Nat.le_refl _) (by simp) ?_; (case hd => rfl); (case hg => rfl); (case hr => first | (go_simp; done) | (go_simp; rfl)); (case hp => exact (Reps.none _ _)); intro v325 w11 ho12 hb hg_ hnew_; clear hg_ hnew_; (first | rw [← Ny324.out] at ho12 | (simp only [Int.reduceToNat] at ho12; rw [← Ny324.out] at ho12)); have HO326 := am_ (Kd.R_lower ho12 (below_size Sh.bw)); replace HB := Sh.hb hb; clear hb ho12))
    go_loopg [7, 35] kj3 (fun kq v7 v35 w' => ∃ (x7_2 : List Int) (x35_2 : Int), v35 = .int .i64 x35_2 ∧ Aside0 (impl_GoodTerm.l0 kq a0 a1 x7_2 l2 (l2.length : Int) x35_2 = some r) ∧ Aside0 (kq ≤ kj3) ∧ Aside0 (Kd.R (Kd.int .i64) 3 w' w.heap.size (fun _ => True) v7 x7_2) ∧ Aside0 (Below w.heap.size w w'))
    case atStart => exact ⟨(y324), (0), (Sh.es), H', ⟨Nat.le_refl _⟩, ⟨Sh.rl HO326.out⟩, ⟨Sh.bw⟩⟩
    case round =>
     clear H'
     obtain ⟨x7_2, x35_2, rfl, HA, HK2, HO_7, HB⟩ := hrel
     cases gk with
     | zero => exact absurd HA.out (by simp [impl_GoodTerm.l0])
     | succ k2 =>
      have H := HA.out
      clear HA
      simp only [impl_GoodTerm.l0] at H
      by_cases c13 : x35_2 < (l2.length : Int)
      ·rw [if_pos c13] at H
       have c13b0 := decide_eq_true c13
       clear c13
       by_cases c14 : 0 ≤ x35_2
       ·rw [if_pos c14] at H
        have c14b0 := decide_eq_true c14
        clear c14
        by_cases c15 : x35_2 < (l2.length : Int)
        ·rw [if_pos c15] at H
         have c15b0 := decide_eq_true c15
         clear c15
         obtain ⟨⟨t329, t330, t331⟩, A160, H⟩ := Sh.bd H
         have A16 := am_ A160
         clear A160
         by_cases c17 : t331 = 0
         ·rw [if_pos c17] at H
          have c17b0 : (t331 == 0) = true := beq_iff_eq.mpr c17
          have c17b1 : (t331 != 0) = false := bne_eq_false_iff_eq.mpr c17
          clear c17
          obtain rfl := Option.some.inj H
          have p327 : 0 ≤ (x35_2 : Int) := Sh.od
          have q327 : x35_2 < (l2.length : Int) := Sh.od
          obtain ⟨ad327, e327, hx327_0, hx327_1⟩ := at_T73 HR2.out x35_2 p327 q327
          cases e327
          try replace hx327_0 := Sh.cw hx327_0
          try replace hx327_1 := Sh.cw hx327_1
          replace p327 := eq_true p327
          replace q327 := eq_true q327
          go_wp2_with (first | ((with_reducible refine Sh.d 9 ?_); (try (refine gate_guard (by rfl) ?_; dsimp only)); refine Sh.bx (N := 9) (cs := #[.int .i64 0, .int .u64 0]) (t := 73) (h := ?_); intro gb328 hg w18 hbox hb; replace HO_7 := am_ (Kd.R_below (Sh.rl HO_7.out) hb); have BK328 := am_ hbox; have GE328 := Sh.ag w hg; replace HB := Sh.hb hb; clear hb hbox hg; obtain ⟨hcz19_0, hcz19_1, hfz19_0, hfz19_1⟩ := Sh.b2 BK328.out) | ((with_reducible refine Sh.k 89 ?_); refine Sh.gD (some 42) Try.func89 #[.int .i64 ((rd_T73 l2 x35_2).f0)] (impl_operandsOf.calls k2 ((rd_T73 l2 x35_2).f0) t329 t330 t331 _ A16.out) fun nd => ?_) | ((with_reducible refine Sh.d 11 ?_); (try (refine gate_guard (by rfl) ?_; dsimp only)); refine Sh.bx (N := 11) (cs := #[.int .i64 0]) (t := 3) (h := ?_); intro gb332 hg w20 hbox hb; have n0_ := am_ (Kd.R_below (Kd.R_elderB (Sh.rl (Kd.R_mono (Kd.R_far (p := ⟨gb328, 1, none⟩) (Kd.R_far (p := ⟨gb328, 0, none⟩) (Kd.R_types HO_7.out BK328.out (by decide)) (fun _ hk => hk.2) (.int .i64 ((rd_T73 l2 x35_2).f0))) (fun _ hk => hk.2) (.int .u64 ((rd_T73 l2 x35_2).f1))) (fun _ h_ => h_.1))) gb332 (Nat.le_of_eq hg.symm)) hb); have n1_ := am_ (blk_below (g := gb328) (o := .cells #[.int .i64 ((rd_T73 l2 x35_2).f0), .int .u64 ((rd_T73 l2 x35_2).f1)] 73 (0, 0)) (by refine Sh.pl ?_; refine blk_put (cs := #[.int .i64 ((rd_T73 l2 x35_2).f0), .int .u64 0]) ?_ 1 _ rfl; refine Sh.pl ?_; refine blk_put (cs := #[.int .i64 0, .int .u64 0]) ?_ 0 _ rfl; refine Sh.pl ?_; exact BK328.out) hb); have n2_ := am_ (below_step Sh.bw hb); have n3_ := am_ hbox; have n4_ := am_ (Sh.gw (w := w) hg); have n5_ := am_ (Sh.gw (w := w) hg); have n6_ := am_ ((by rw [hg]; exact Nat.ne_of_lt (blk_lt (g := gb328) (o := .cells #[.int .i64 ((rd_T73 l2 x35_2).f0), .int .u64 ((rd_T73 l2 x35_2).f1)] 73 (0, 0)) (by refine Sh.pl ?_; refine blk_put (cs := #[.int .i64 ((rd_T73 l2 x35_2).f0), .int .u64 0]) ?_ 1 _ rfl; refine Sh.pl ?_; refine blk_put (cs := #[.int .i64 0, .int .u64 0]) ?_ 0 _ rfl; refine Sh.pl ?_; exact BK328.out)) : gb328 ≠ gb332)); have n7_ := am_ ((by rw [hg]; exact Nat.ne_of_gt (blk_lt (g := gb328) (o := .cells #[.int .i64 ((rd_T73 l2 x35_2).f0), .int .u64 ((rd_T73 l2 x35_2).f1)] 73 (0, 0)) (by refine Sh.pl ?_; refine blk_put (cs := #[.int .i64 ((rd_T73 l2 x35_2).f0), .int .u64 0]) ?_ 1 _ rfl; refine Sh.pl ?_; refine blk_put (cs := #[.int .i64 0, .int .u64 0]) ?_ 0 _ rfl; refine Sh.pl ?_; exact BK328.out)) : gb332 ≠ gb328)); clear HO_7; clear BK328; clear HB; have HO_7 := n0_; have BK328 := n1_; have HB := n2_; have BK332 := n3_; have GW332 := n4_; have GE332 := n5_; have NB328_332 := n6_; have NB332_328 := n7_; clear n0_ n1_ n2_ n3_ n4_ n5_ n6_ n7_; clear hb hbox hg; have hnb21 := NB332_328.out; have hnc21 := NB328_332.out; have hcz22_0 := Sh.bc BK332.out 0; have hfz22_0 := blk_frozen BK332.out 0; obtain ⟨Ao23, co23, eo23⟩ := Kd.R_slice HO_7.out; subst eo23))
          go_ret
          exact ⟨Sh.eR, Sh.bw⟩
         ·rw [if_neg c17] at H
          have c17b0 : (t331 == 0) = false := beq_eq_false_iff_ne.mpr c17
          have c17b1 : (t331 != 0) = true := bne_iff_ne.mpr c17
          obtain ⟨t333, A24, H⟩ := Sh.ba H
          by_cases c25 : t333 = true
          ·subst c25
           rw [if_pos rfl] at H
           by_cases c26 : (wrap64 ((x7_2.length : Int) - t329)) < 0
           ·rw [if_pos c26] at H
            have c26b0 := decide_eq_true c26
            clear c26
            obtain rfl := Option.some.inj H
            have p327 : 0 ≤ (x35_2 : Int) := Sh.od
            have q327 : x35_2 < (l2.length : Int) := Sh.od
            obtain ⟨ad327, e327, hx327_0, hx327_1⟩ := at_T73 HR2.out x35_2 p327 q327
            cases e327
            try replace hx327_0 := Sh.cw hx327_0
            try replace hx327_1 := Sh.cw hx327_1
            replace p327 := eq_true p327
            replace q327 := eq_true q327
            go_wp2_with (first | ((with_reducible refine Sh.d 9 ?_); (try (refine gate_guard (by rfl) ?_; dsimp only)); refine Sh.bx (N := 9) (cs := #[.int .i64 0, .int .u64 0]) (t := 73) (h := ?_); intro gb328 hg w27 hbox hb; replace HO_7 := am_ (Kd.R_below (Sh.rl HO_7.out) hb); have BK328 := am_ hbox; have GE328 := Sh.ag w hg; replace HB := Sh.hb hb; clear hb hbox hg; obtain ⟨hcz28_0, hcz28_1, hfz28_0, hfz28_1⟩ := Sh.b2 BK328.out) | ((with_reducible refine Sh.k 89 ?_); refine Sh.gD (some 42) Try.func89 #[.int .i64 ((rd_T73 l2 x35_2).f0)] (impl_operandsOf.calls k2 ((rd_T73 l2 x35_2).f0) t329 t330 t331 _ A16.out) fun nd => ?_) | ((with_reducible refine Sh.d 11 ?_); (try (refine gate_guard (by rfl) ?_; dsimp only)); refine Sh.bx (N := 11) (cs := #[.int .i64 0]) (t := 3) (h := ?_); intro gb332 hg w29 hbox hb; have n0_ := am_ (Kd.R_below (Kd.R_elderB (Sh.rl (Kd.R_mono (Kd.R_far (p := ⟨gb328, 1, none⟩) (Kd.R_far (p := ⟨gb328, 0, none⟩) (Kd.R_types HO_7.out BK328.out (by decide)) (fun _ hk => hk.2) (.int .i64 ((rd_T73 l2 x35_2).f0))) (fun _ hk => hk.2) (.int .u64 ((rd_T73 l2 x35_2).f1))) (fun _ h_ => h_.1))) gb332 (Nat.le_of_eq hg.symm)) hb); have n1_ := am_ (blk_below (g := gb328) (o := .cells #[.int .i64 ((rd_T73 l2 x35_2).f0), .int .u64 ((rd_T73 l2 x35_2).f1)] 73 (0, 0)) (by refine Sh.pl ?_; refine blk_put (cs := #[.int .i64 ((rd_T73 l2 x35_2).f0), .int .u64 0]) ?_ 1 _ rfl; refine Sh.pl ?_; refine blk_put (cs := #[.int .i64 0, .int .u64 0]) ?_ 0 _ rfl; refine Sh.pl ?_; exact BK328.out) hb); have n2_ := am_ (below_step Sh.bw hb); have n3_ := am_ hbox; have n4_ := am_ (Sh.gw (w := w) hg); have n5_ := am_ (Sh.gw (w := w) hg); have n6_ := am_ ((by rw [hg]; exact Nat.ne_of_lt (blk_lt (g := gb328) (o := .cells #[.int .i64 ((rd_T73 l2 x35_2).f0), .int .u64 ((rd_T73 l2 x35_2).f1)] 73 (0, 0)) (by refine Sh.pl ?_; refine blk_put (cs := #[.int .i64 ((rd_T73 l2 x35_2).f0), .int .u64 0]) ?_ 1 _ rfl; refine Sh.pl ?_; refine blk_put (cs := #[.int .i64 0, .int .u64 0]) ?_ 0 _ rfl; refine Sh.pl ?_; exact BK328.out)) : gb328 ≠ gb332)); have n7_ := am_ ((by rw [hg]; exact Nat.ne_of_gt (blk_lt (g := gb328) (o := .cells #[.int .i64 ((rd_T73 l2 x35_2).f0), .int .u64 ((rd_T73 l2 x35_2).f1)] 73 (0, 0)) (by refine Sh.pl ?_; refine blk_put (cs := #[.int .i64 ((rd_T73 l2 x35_2).f0), .int .u64 0]) ?_ 1 _ rfl; refine Sh.pl ?_; refine blk_put (cs := #[.int .i64 0, .int .u64 0]) ?_ 0 _ rfl; refine Sh.pl ?_; exact BK328.out)) : gb332 ≠ gb328)); clear HO_7; clear BK328; clear HB; have HO_7 := n0_; have BK328 := n1_; have HB := n2_; have BK332 := n3_; have GW332 := n4_; have GE332 := n5_; have NB328_332 := n6_; have NB332_328 := n7_; clear n0_ n1_ n2_ n3_ n4_ n5_ n6_ n7_; clear hb hbox hg; have hnb30 := NB332_328.out; have hnc30 := NB328_332.out; have hcz31_0 := Sh.bc BK332.out 0; have hfz31_0 := blk_frozen BK332.out 0; obtain ⟨Ao32, co32, eo32⟩ := Kd.R_slice HO_7.out; subst eo32; obtain ⟨hcz33_0, hcz33_1, hfz33_0, hfz33_1⟩ := Sh.b2 BK328.out) | (go_at_call 90; (with_reducible refine (impl_isLeafRight.calls a0 a1 ((rd_T73 l2 x35_2).f0) ((rd_T73 l2 x35_2).f1) true _ A24.out).mono ?_); rintro e w34 ⟨rfl, hb⟩; replace HO_7 := am_ (Kd.R_below (Sh.rl (Kd.R_mono (Kd.R_far (p := ⟨gb332, 0, none⟩) (Kd.R_mono HO_7.out (fun k_ hk => (⟨hk, hk.2⟩ : _ ∧ k_ ≠ gb332))) (fun _ hk => hk.2) (.int .i64 t330)) (fun _ h_ => h_.1))) hb); replace BK328 := am_ (blk_below (g := gb328) (o := .cells #[.int .i64 ((rd_T73 l2 x35_2).f0), .int .u64 ((rd_T73 l2 x35_2).f1)] 73 (0, 0)) (by refine Sh.pl ?_; refine blk_far ?_ NB328_332.out _; refine Sh.pl ?_; exact BK328.out) hb); replace BK332 := am_ (blk_below (g := gb332) (o := .cells #[.int .i64 t330] 3 (0, 0)) (by refine Sh.pl ?_; refine blk_put (cs := #[.int .i64 0]) ?_ 0 _ rfl; refine Sh.pl ?_; exact BK332.out) hb); replace HB := Sh.hb hb; (try clear hb); (try clear hb2); (try clear hk); (try clear hi)))
            go_ret
            exact ⟨Sh.eR, Sh.bw⟩
           ·rw [if_neg c26] at H
            have c26b0 := decide_eq_false c26
            clear c26
            obtain ⟨ji35, hj1⟩ : ∃ j_ : Int, (wrap64 ((x7_2.length : Int) - t329)) = j_ := ⟨_, rfl⟩
            replace H : (if 0 ≤ (ji35) then (if (ji35) ≤ (x7_2.length : Int) then ((slices_ContainsFunc_int_int_by_impl_GoodTerm_1.f (x7_2.drop ((ji35) : Int).toNat) t330).bind fun t338 => (if t338 = true then (some false) else ((some (x7_2.take ((ji35) : Int).toNat : List Int)).bind fun y339 => (if y339.length < 17592186044416 then (impl_GoodTerm.l0 k2 a0 a1 (y339 ++ [t331]) l2 (l2.length : Int) (wrap64 (x35_2 + 1))) else (none))))) else (none)) else (none)) = some r := by first | (rw [hj1] at H; exact H) | (simp only [hj1] at H ⊢; exact H)
            (try rw [hj1] at c26b0)
            (try rw [hj1] at A16)
            (try rw [hj1] at A24)
            have hji35w : (IntKind.i64.wrap ((x7_2.length : Int) - t329)) = ji35 := (i64_w _).trans hj1
            by_cases c36 : 0 ≤ (ji35)
            ·rw [if_pos c36] at H
             have c36b0 := eq_true c36
             have c36b1 := decide_eq_true c36
             clear c36
             by_cases c37 : (ji35) ≤ (x7_2.length : Int)
             ·rw [if_pos c37] at H
              have c37b0 := eq_true c37
              have c37b1 := decide_eq_true c37
              clear c37
              obtain ⟨y334, hy334⟩ : ∃ y_ : List Int, y_ = (x7_2.drop ((ji35) : Int).toNat) := ⟨_, rfl⟩
              replace H : ((slices_ContainsFunc_int_int_by_impl_GoodTerm_1.f y334 t330).bind fun t338 => (if t338 = true then (some false) else ((some (x7_2.take ((ji35) : Int).toNat : List Int)).bind fun y339 => (if y339.length < 17592186044416 then (impl_GoodTerm.l0 k2 a0 a1 (y339 ++ [t331]) l2 (l2.length : Int) (wrap64 (x35_2 + 1))) else (none))))) = some r := by first | (rw [hy334]; with_reducible exact H) | (have H2_ := (Option.bind_some _ _).symm.trans H; rw [hy334]; with_reducible exact H2_) | (have H2_ := (Option.bind_some _ _).symm.trans H; with_reducible exact H2_) | with_reducible exact H | (rw [hy334]; exact H) | exact H
              have Ny334 := am_ hy334
              clear hy334
              obtain ⟨t338, A38, H⟩ := Sh.ba H
              by_cases c39 : t338 = true
              ·subst c39
               rw [if_pos rfl] at H
               obtain rfl := Option.some.inj H
               have p327 : 0 ≤ (x35_2 : Int) := Sh.od
               have q327 : x35_2 < (l2.length : Int) := Sh.od
               obtain ⟨ad327, e327, hx327_0, hx327_1⟩ := at_T73 HR2.out x35_2 p327 q327
               cases e327
               try replace hx327_0 := Sh.cw hx327_0
               try replace hx327_1 := Sh.cw hx327_1
               replace p327 := eq_true p327
               replace q327 := eq_true q327
               go_wp2_with (first | ((with_reducible refine Sh.d 9 ?_); (try (refine gate_guard (by rfl) ?_; dsimp only)); refine Sh.bx (N := 9) (cs := #[.int .i64 0, .int .u64 0]) (t := 73) (h := ?_); intro gb328 hg w40 hbox hb; replace HO_7 := am_ (Kd.R_below (Sh.rl HO_7.out) hb); have BK328 := am_ hbox; have GE328 := Sh.ag w hg; replace HB := Sh.hb hb; clear hb hbox hg; obtain ⟨hcz41_0, hcz41_1, hfz41_0, hfz41_1⟩ := Sh.b2 BK328.out) | ((with_reducible refine Sh.k 89 ?_); refine Sh.gD (some 42) Try.func89 #[.int .i64 ((rd_T73 l2 x35_2).f0)] (impl_operandsOf.calls k2 ((rd_T73 l2 x35_2).f0) t329 t330 t331 _ A16.out) fun nd => ?_) | ((with_reducible refine Sh.d 11 ?_); (try (refine gate_guard (by rfl) ?_; dsimp only)); refine Sh.bx (N := 11) (cs := #[.int .i64 0]) (t := 3) (h := ?_); intro gb332 hg w42 hbox hb; have n0_ := am_ (Kd.R_below (Kd.R_elderB (Sh.rl (Kd.R_mono (Kd.R_far (p := ⟨gb328, 1, none⟩) (Kd.R_far (p := ⟨gb328, 0, none⟩) (Kd.R_types HO_7.out BK328.out (by decide)) (fun _ hk => hk.2) (.int .i64 ((rd_T73 l2 x35_2).f0))) (fun _ hk => hk.2) (.int .u64 ((rd_T73 l2 x35_2).f1))) (fun _ h_ => h_.1))) gb332 (Nat.le_of_eq hg.symm)) hb); have n1_ := am_ (blk_below (g := gb328) (o := .cells #[.int .i64 ((rd_T73 l2 x35_2).f0), .int .u64 ((rd_T73 l2 x35_2).f1)] 73 (0, 0)) (by refine Sh.pl ?_; refine blk_put (cs := #[.int .i64 ((rd_T73 l2 x35_2).f0), .int .u64 0]) ?_ 1 _ rfl; refine Sh.pl ?_; refine blk_put (cs := #[.int .i64 0, .int .u64 0]) ?_ 0 _ rfl; refine Sh.pl ?_; exact BK328.out) hb); have n2_ := am_ (below_step Sh.bw hb); have n3_ := am_ hbox; have n4_ := am_ (Sh.gw (w := w) hg); have n5_ := am_ (Sh.gw (w := w) hg); have n6_ := am_ ((by rw [hg]; exact Nat.ne_of_lt (blk_lt (g := gb328) (o := .cells #[.int .i64 ((rd_T73 l2 x35_2).f0), .int .u64 ((rd_T73 l2 x35_2).f1)] 73 (0, 0)) (by refine Sh.pl ?_; refine blk_put (cs := #[.int .i64 ((rd_T73 l2 x35_2).f0), .int .u64 0]) ?_ 1 _ rfl; refine Sh.pl ?_; refine blk_put (cs := #[.int .i64 0, .int .u64 0]) ?_ 0 _ rfl; refine Sh.pl ?_; exact BK328.out)) : gb328 ≠ gb332)); have n7_ := am_ ((by rw [hg]; exact Nat.ne_of_gt (blk_lt (g := gb328) (o := .cells #[.int .i64 ((rd_T73 l2 x35_2).f0), .int .u64 ((rd_T73 l2 x35_2).f1)] 73 (0, 0)) (by refine Sh.pl ?_; refine blk_put (cs := #[.int .i64 ((rd_T73 l2 x35_2).f0), .int .u64 0]) ?_ 1 _ rfl; refine Sh.pl ?_; refine blk_put (cs := #[.int .i64 0, .int .u64 0]) ?_ 0 _ rfl; refine Sh.pl ?_; exact BK328.out)) : gb332 ≠ gb328)); clear HO_7; clear BK328; clear HB; have HO_7 := n0_; have BK328 := n1_; have HB := n2_; have BK332 := n3_; have GW332 := n4_; have GE332 := n5_; have NB328_332 := n6_; have NB332_328 := n7_; clear n0_ n1_ n2_ n3_ n4_ n5_ n6_ n7_; clear hb hbox hg; have hnb43 := NB332_328.out; have hnc43 := NB328_332.out; have hcz44_0 := Sh.bc BK332.out 0; have hfz44_0 := blk_frozen BK332.out 0; obtain ⟨Ao45, co45, eo45⟩ := Kd.R_slice HO_7.out; subst eo45; obtain ⟨hcz46_0, hcz46_1, hfz46_0, hfz46_1⟩ := Sh.b2 BK328.out) | (go_at_call 90; (with_reducible refine (impl_isLeafRight.calls a0 a1 ((rd_T73 l2 x35_2).f0) ((rd_T73 l2 x35_2).f1) true _ A24.out).mono ?_); rintro e w47 ⟨rfl, hb⟩; replace HO_7 := am_ (Kd.R_below (Sh.rl (Kd.R_mono (Kd.R_far (p := ⟨gb332, 0, none⟩) (Kd.R_mono HO_7.out (fun k_ hk => (⟨hk, hk.2⟩ : _ ∧ k_ ≠ gb332))) (fun _ hk => hk.2) (.int .i64 t330)) (fun _ h_ => h_.1))) hb); replace BK328 := am_ (blk_below (g := gb328) (o := .cells #[.int .i64 ((rd_T73 l2 x35_2).f0), .int .u64 ((rd_T73 l2 x35_2).f1)] 73 (0, 0)) (by refine Sh.pl ?_; refine blk_far ?_ NB328_332.out _; refine Sh.pl ?_; exact BK328.out) hb); replace BK332 := am_ (blk_below (g := gb332) (o := .cells #[.int .i64 t330] 3 (0, 0)) (by refine Sh.pl ?_; refine blk_put (cs := #[.int .i64 0]) ?_ 0 _ rfl; refine Sh.pl ?_; exact BK332.out) hb); replace HB := Sh.hb hb; (try clear hb); (try clear hb2); (try clear hk); (try clear hi); have q48 : ((ji35) : Int) ≤ ((x7_2.length : Int) : Int) := Sh.od; obtain ⟨i048, hi048, _, hsz48, _⟩ := info_parts info3; have hroom48 : x7_2.length ≤ co45 := (Kd.R_reads' HO_7.out).2.1; have hC48 : Kd.C (Kd.int .i64) _ Ao45 x7_2.length x7_2 := (Kd.R_reads' HO_7.out).2.2; have q048 : (0 : Int) ≤ ((ji35) : Int) := Sh.od; have hcut48 := cut_from (P := Try.prog) 27 3 .i64 Try.underlying27 hi048 1 hsz48 Ao45 x7_2.length co45 (ji35) q048 q48; have hr48 := Kd.C_drop (m := ((ji35) : Int).toNat) (c := co45) hC48 (by omega) hroom48; obtain ⟨A48, hA48⟩ : ∃ A1, A1 = (if co45 = ((ji35) : Int).toNat then Ao45 else (Ao45 : Option Addr).map (·.add (((ji35) : Int).toNat * 1))) := ⟨_, rfl⟩; obtain ⟨c48, hc48⟩ : ∃ c1, c1 = co45 - ((ji35) : Int).toNat := ⟨_, rfl⟩; have hy48 : y334.length = x7_2.length - ((ji35) : Int).toNat := (by rw [Ny334.out, List.length_drop] <;> omega); rw [show (x7_2).drop ((ji35) : Int).toNat = y334 from Ny334.out.symm] at hr48; replace hr48 : Kd.C (Kd.int .i64) _ A48 y334.length y334 := (by rw [hA48]; exact hr48); rw [← hy48, ← hA48, ← hc48] at hcut48; have HR337 := am_ hr48; have HC337 := am_ (show y334.length ≤ c48 from by rw [hy48, hc48]; exact Nat.sub_le_sub_right hroom48 _); clear hr48 hC48 hroom48 hi048 hsz48 hc48; have KY48 := am_ hy48; have KA48 := am_ hA48; clear hy48 hA48; have KL48 := am_ (show ((ji35) : Int).toNat ≤ x7_2.length from by omega); replace q48 := eq_true q48) | (go_at_call 35; (with_reducible refine (slices_ContainsFunc_int_int_by_impl_GoodTerm_1.calls _ _ y334 gb332 t330 true _ ?side1 ?side2 ?side3 A38.out).mono ?_); (case side1 => repeat (first | exact (by repeat (first | (with_reducible exact HR337.out) | (with_reducible first | refine Kd.C_alloc ?_ _ | refine Kd.C_drewN ?_ _ | refine Kd.C_drew ?_) | exact HR337.out)) | (with_reducible first | refine Kd.C_alloc ?_ _ | refine Kd.C_drewN ?_ _ | refine Kd.C_drew ?_))); (case side2 => exact HC337.out); (case side3 => refine Sh.pl ?_; exact BK332.out); rintro e w49 ⟨rfl, hb⟩; replace HO_7 := am_ (Kd.R_below (Sh.rl HO_7.out) hb); replace BK328 := Sh.ab BK328 hb; replace BK332 := Sh.ab BK332 hb; replace HR337 := am_ (Kd.C_below (by repeat (first | (with_reducible exact HR337.out) | (with_reducible first | refine Kd.C_alloc ?_ _ | refine Kd.C_drewN ?_ _ | refine Kd.C_drew ?_) | exact HR337.out)) hb); replace HB := Sh.hb hb; (try clear hb); (try clear hb2); (try clear hk); (try clear hi)))
               go_ret
               exact ⟨by first | rfl | (simp [errW_none, errW_some] <;> rfl) | (simp only [← hj1]; first | rfl | (simp [errW_none, errW_some] <;> rfl)) | (simp [*, errW_none, errW_some] <;> rfl), Sh.bw⟩
              ·replace c39 := Bool.eq_false_iff.mpr c39
               subst c39
               rw [Sh.nf] at H
               have c50b0 := eq_true (of_decide_eq_true (by first | (with_reducible assumption) | assumption) : (ji35) ≤ (x7_2.length : Int))
               obtain ⟨y339, hy339⟩ : ∃ y_ : List Int, y_ = (x7_2.take ((ji35) : Int).toNat) := ⟨_, rfl⟩
               replace H : (if y339.length < 17592186044416 then (impl_GoodTerm.l0 k2 a0 a1 (y339 ++ [t331]) l2 (l2.length : Int) (wrap64 (x35_2 + 1))) else (none)) = some r := by first | (rw [hy339]; with_reducible exact H) | (have H2_ := (Option.bind_some _ _).symm.trans H; rw [hy339]; with_reducible exact H2_) | (have H2_ := (Option.bind_some _ _).symm.trans H; with_reducible exact H2_) | with_reducible exact H | (rw [hy339]; exact H) | exact H
               have Ny339 := am_ hy339
               clear hy339
               by_cases c51 : y339.length < 17592186044416
               ·rw [if_pos c51] at H
                have LMc51 := am_ c51
                clear c51
                obtain ⟨y342, hy342⟩ : ∃ y_ : List Int, y_ = (y339 ++ [t331]) := ⟨_, rfl⟩
                replace H : (impl_GoodTerm.l0 k2 a0 a1 y342 l2 (l2.length : Int) (wrap64 (x35_2 + 1))) = some r := by first | (rw [hy342]; with_reducible exact H) | (have H2_ := (Option.bind_some _ _).symm.trans H; rw [hy342]; with_reducible exact H2_) | (have H2_ := (Option.bind_some _ _).symm.trans H; with_reducible exact H2_) | with_reducible exact H | (rw [hy342]; exact H) | exact H
                have Ny342 := am_ hy342
                clear hy342
                have H' := am_ H
                clear H
                have p327 : 0 ≤ (x35_2 : Int) := Sh.od
                have q327 : x35_2 < (l2.length : Int) := Sh.od
                obtain ⟨ad327, e327, hx327_0, hx327_1⟩ := at_T73 HR2.out x35_2 p327 q327
                cases e327
                try replace hx327_0 := Sh.cw hx327_0
                try replace hx327_1 := Sh.cw hx327_1
                replace p327 := eq_true p327
                replace q327 := eq_true q327
                go_wp2_with (first | ((with_reducible refine Sh.d 9 ?_); (try (refine gate_guard (by rfl) ?_; dsimp only)); refine Sh.bx (N := 9) (cs := #[.int .i64 0, .int .u64 0]) (t := 73) (h := ?_); intro gb328 hg w52 hbox hb; replace HO_7 := am_ (Kd.R_below (Sh.rl HO_7.out) hb); have BK328 := am_ hbox; have GE328 := Sh.ag w hg; replace HB := Sh.hb hb; clear hb hbox hg; obtain ⟨hcz53_0, hcz53_1, hfz53_0, hfz53_1⟩ := Sh.b2 BK328.out) | ((with_reducible refine Sh.k 89 ?_); refine Sh.gD (some 42) Try.func89 #[.int .i64 ((rd_T73 l2 x35_2).f0)] (impl_operandsOf.calls k2 ((rd_T73 l2 x35_2).f0) t329 t330 t331 _ A16.out) fun nd => ?_) | ((with_reducible refine Sh.d 11 ?_); (try (refine gate_guard (by rfl) ?_; dsimp only)); refine Sh.bx (N := 11) (cs := #[.int .i64 0]) (t := 3) (h := ?_); intro gb332 hg w54 hbox hb; have n0_ := am_ (Kd.R_below (Kd.R_elderB (Sh.rl (Kd.R_mono (Kd.R_far (p := ⟨gb328, 1, none⟩) (Kd.R_far (p := ⟨gb328, 0, none⟩) (Kd.R_types HO_7.out BK328.out (by decide)) (fun _ hk => hk.2) (.int .i64 ((rd_T73 l2 x35_2).f0))) (fun _ hk => hk.2) (.int .u64 ((rd_T73 l2 x35_2).f1))) (fun _ h_ => h_.1))) gb332 (Nat.le_of_eq hg.symm)) hb); have n1_ := am_ (blk_below (g := gb328) (o := .cells #[.int .i64 ((rd_T73 l2 x35_2).f0), .int .u64 ((rd_T73 l2 x35_2).f1)] 73 (0, 0)) (by refine Sh.pl ?_; refine blk_put (cs := #[.int .i64 ((rd_T73 l2 x35_2).f0), .int .u64 0]) ?_ 1 _ rfl; refine Sh.pl ?_; refine blk_put (cs := #[.int .i64 0, .int .u64 0]) ?_ 0 _ rfl; refine Sh.pl ?_; exact BK328.out) hb); have n2_ := am_ (below_step Sh.bw hb); have n3_ := am_ hbox; have n4_ := am_ (Sh.gw (w := w) hg); have n5_ := am_ (Sh.gw (w := w) hg); have n6_ := am_ ((by rw [hg]; exact Nat.ne_of_lt (blk_lt (g := gb328) (o := .cells #[.int .i64 ((rd_T73 l2 x35_2).f0), .int .u64 ((rd_T73 l2 x35_2).f1)] 73 (0, 0)) (by refine Sh.pl ?_; refine blk_put (cs := #[.int .i64 ((rd_T73 l2 x35_2).f0), .int .u64 0]) ?_ 1 _ rfl; refine Sh.pl ?_; refine blk_put (cs := #[.int .i64 0, .int .u64 0]) ?_ 0 _ rfl; refine Sh.pl ?_; exact BK328.out)) : gb328 ≠ gb332)); have n7_ := am_ ((by rw [hg]; exact Nat.ne_of_gt (blk_lt (g := gb328) (o := .cells #[.int .i64 ((rd_T73 l2 x35_2).f0), .int .u64 ((rd_T73 l2 x35_2).f1)] 73 (0, 0)) (by refine Sh.pl ?_; refine blk_put (cs := #[.int .i64 ((rd_T73 l2 x35_2).f0), .int .u64 0]) ?_ 1 _ rfl; refine Sh.pl ?_; refine blk_put (cs := #[.int .i64 0, .int .u64 0]) ?_ 0 _ rfl; refine Sh.pl ?_; exact BK328.out)) : gb332 ≠ gb328)); clear HO_7; clear BK328; clear HB; have HO_7 := n0_; have BK328 := n1_; have HB := n2_; have BK332 := n3_; have GW332 := n4_; have GE332 := n5_; have NB328_332 := n6_; have NB332_328 := n7_; clear n0_ n1_ n2_ n3_ n4_ n5_ n6_ n7_; clear hb hbox hg; have hnb55 := NB332_328.out; have hnc55 := NB328_332.out; have hcz56_0 := Sh.bc BK332.out 0; have hfz56_0 := blk_frozen BK332.out 0; obtain ⟨Ao57, co57, eo57⟩ := Kd.R_slice HO_7.out; subst eo57; obtain ⟨hcz58_0, hcz58_1, hfz58_0, hfz58_1⟩ := Sh.b2 BK328.out) | (go_at_call 90; (with_reducible refine (impl_isLeafRight.calls a0 a1 ((rd_T73 l2 x35_2).f0) ((rd_T73 l2 x35_2).f1) true _ A24.out).mono ?_); rintro e w59 ⟨rfl, hb⟩; replace HO_7 := am_ (Kd.R_below (Sh.rl (Kd.R_mono (Kd.R_far (p := ⟨gb332, 0, none⟩) (Kd.R_mono HO_7.out (fun k_ hk => (⟨hk, hk.2⟩ : _ ∧ k_ ≠ gb332))) (fun _ hk => hk.2) (.int .i64 t330)) (fun _ h_ => h_.1))) hb); replace BK328 := am_ (blk_below (g := gb328) (o := .cells #[.int .i64 ((rd_T73 l2 x35_2).f0), .int .u64 ((rd_T73 l2 x35_2).f1)] 73 (0, 0)) (by refine Sh.pl ?_; refine blk_far ?_ NB328_332.out _; refine Sh.pl ?_; exact BK328.out) hb); replace BK332 := am_ (blk_below (g := gb332) (o := .cells #[.int .i64 t330] 3 (0, 0)) (by refine Sh.pl ?_; refine blk_put (cs := #[.int .i64 0]) ?_ 0 _ rfl; refine Sh.pl ?_; exact BK332.out) hb); replace HB := Sh.hb hb; (try clear hb); (try clear hb2); (try clear hk); (try clear hi); have q60 : ((ji35) : Int) ≤ ((x7_2.length : Int) : Int) := Sh.od; obtain ⟨i060, hi060, _, hsz60, _⟩ := info_parts info3; have hroom60 : x7_2.length ≤ co57 := (Kd.R_reads' HO_7.out).2.1; have hC60 : Kd.C (Kd.int .i64) _ Ao57 x7_2.length x7_2 := (Kd.R_reads' HO_7.out).2.2; have q060 : (0 : Int) ≤ ((ji35) : Int) := Sh.od; have hcut60 := cut_from (P := Try.prog) 27 3 .i64 Try.underlying27 hi060 1 hsz60 Ao57 x7_2.length co57 (ji35) q060 q60; have hr60 := Kd.C_drop (m := ((ji35) : Int).toNat) (c := co57) hC60 (by omega) hroom60; obtain ⟨A60, hA60⟩ : ∃ A1, A1 = (if co57 = ((ji35) : Int).toNat then Ao57 else (Ao57 : Option Addr).map (·.add (((ji35) : Int).toNat * 1))) := ⟨_, rfl⟩; obtain ⟨c60, hc60⟩ : ∃ c1, c1 = co57 - ((ji35) : Int).toNat := ⟨_, rfl⟩; have hy60 : y334.length = x7_2.length - ((ji35) : Int).toNat := (by rw [Ny334.out, List.length_drop] <;> omega); rw [show (x7_2).drop ((ji35) : Int).toNat = y334 from Ny334.out.symm] at hr60; replace hr60 : Kd.C (Kd.int .i64) _ A60 y334.length y334 := (by rw [hA60]; exact hr60); rw [← hy60, ← hA60, ← hc60] at hcut60; have HR337 := am_ hr60; have HC337 := am_ (show y334.length ≤ c60 from by rw [hy60, hc60]; exact Nat.sub_le_sub_right hroom60 _); clear hr60 hC60 hroom60 hi060 hsz60 hc60; have KY60 := am_ hy60; have KA60 := am_ hA60; clear hy60 hA60; have KL60 := am_ (show ((ji35) : Int).toNat ≤ x7_2.length from by omega); replace q60 := eq_true q60) | (go_at_call 35; (with_reducible refine (slices_ContainsFunc_int_int_by_impl_GoodTerm_1.calls _ _ y334 gb332 t330 false _ ?side1 ?side2 ?side3 A38.out).mono ?_); (case side1 => repeat (first | exact (by repeat (first | (with_reducible exact HR337.out) | (with_reducible first | refine Kd.C_alloc ?_ _ | refine Kd.C_drewN ?_ _ | refine Kd.C_drew ?_) | exact HR337.out)) | (with_reducible first | refine Kd.C_alloc ?_ _ | refine Kd.C_drewN ?_ _ | refine Kd.C_drew ?_))); (case side2 => exact HC337.out); (case side3 => refine Sh.pl ?_; exact BK332.out); rintro e w61 ⟨rfl, hb⟩; replace HO_7 := am_ (Kd.R_below (Sh.rl HO_7.out) hb); replace BK328 := Sh.ab BK328 hb; replace BK332 := Sh.ab BK332 hb; replace HR337 := am_ (Kd.C_below (by repeat (first | (with_reducible exact HR337.out) | (with_reducible first | refine Kd.C_alloc ?_ _ | refine Kd.C_drewN ?_ _ | refine Kd.C_drew ?_) | exact HR337.out)) hb); replace HB := Sh.hb hb; (try clear hb); (try clear hb2); (try clear hk); (try clear hi); have q62 : ((ji35) : Int) ≤ ((x7_2.length : Int) : Int) := Sh.od; obtain ⟨i062, hi062, _, hsz62, _⟩ := info_parts info3; have hcut62 := cut_to (P := Try.prog) 27 3 .i64 Try.underlying27 hi062 Ao57 x7_2.length co57 (ji35) (of_decide_eq_true (by first | (with_reducible assumption) | assumption)) q62 (Kd.R_reads' HO_7.out).2.1; have hr62 := Kd.R_take (m := ((ji35) : Int).toNat) HO_7.out (by omega); have hy62 : y339.length = ((ji35) : Int).toNat := (by rw [Ny339.out, List.length_take]; omega); rw [← Ny339.out] at hr62; rw [← hy62] at hr62 hcut62; clear hy62 hi062 hsz62 HO_7; have HO341 := am_ hr62; clear hr62; replace q62 := eq_true q62) | ((with_reducible refine gate_builtin (b := .append) (xs := #[.tmp 72, .tmp 74]) rfl ?_); (try (refine gate_guard (by rfl) ?_; dsimp only)); at_builtin; refine Kd.R_append (Kd.int .i64) (w0 := w) w.heap.size rfl (.tmp 72) (.tmp 74) 27 3 (.int .i64 0) 8 rfl Try.underlying27 info3 rfl (by decide) (by omega) (.slice Ao57 y339.length co57) y339 t331 [.int .i64 t331] (fun k_ => k_ ≠ gb332) (fun _ => False) rfl rfl ?aP (fun _ hk => hk.elim) ?aF ?aO ?aB ?aS ?aL ?_; (case aP => exact rfl); (case aB => exact Sh.bw); (case aF => exact (fun k_ hk => Kd.freshB (g := gb332) (o := .cells #[.int .i64 t330] 3 (0, 0)) (Sh.pl BK332.out) k_ hk)); (case aO => exact (Sh.rl (Kd.R_mono HO341.out (fun _ hk => hk.2)))); (case aS => exact (below_size Sh.bw)); (case aL => have := LMc51.out; omega); intro v343 w63 ho hb hg hat; rw [← Ny342.out] at ho; have n0_ := am_ (blk_grown (g := gb328) (o := .cells #[.int .i64 ((rd_T73 l2 x35_2).f0), .int .u64 ((rd_T73 l2 x35_2).f1)] 73 (0, 0)) (Sh.pl BK328.out) hg (Kd.R_ne HO341.out BK328.out (by decide))); have n1_ := am_ (blk_grown (g := gb332) (o := .cells #[.int .i64 t330] 3 (0, 0)) (Sh.pl BK332.out) hg (Kd.R_away HO341.out (fun _ hk => hk.2))); have n2_ := am_ hb; have n3_ := am_ ho; clear BK328; clear BK332; clear HB; clear HO341; have BK328 := n0_; have BK332 := n1_; have HB := n2_; have HO344 := n3_; clear n0_ n1_ n2_ n3_; clear ho hb hg hat))
                go_roundg k2
                case measure => have := HJ3.out; have := HK2.out; omega
                case rel => exact ⟨(y342), (wrap64 (x35_2 + 1)), (Sh.es), H', ⟨by have := HJ3.out; have := HK2.out; omega⟩, ⟨Sh.rl (Kd.R_mono HO344.out (fun _ hk => trivial))⟩, ⟨Sh.bw⟩⟩
               ·rw [if_neg c51] at H
                exact absurd H (by simp)
             ·rw [if_neg c37] at H
              exact absurd H (by simp)
            ·rw [if_neg c36] at H
             exact absurd H (by simp)
          ·replace c25 := Bool.eq_false_iff.mpr c25
           subst c25
           rw [Sh.nf] at H
           obtain rfl := Option.some.inj H
           have p327 : 0 ≤ (x35_2 : Int) := Sh.od
           have q327 : x35_2 < (l2.length : Int) := Sh.od
           obtain ⟨ad327, e327, hx327_0, hx327_1⟩ := at_T73 HR2.out x35_2 p327 q327
           cases e327
           try replace hx327_0 := Sh.cw hx327_0
           try replace hx327_1 := Sh.cw hx327_1
           replace p327 := eq_true p327
           replace q327 := eq_true q327
           go_wp2_with (first | ((with_reducible refine Sh.d 9 ?_); (try (refine gate_guard (by rfl) ?_; dsimp only)); refine Sh.bx (N := 9) (cs := #[.int .i64 0, .int .u64 0]) (t := 73) (h := ?_); intro gb328 hg w64 hbox hb; replace HO_7 := am_ (Kd.R_below (Sh.rl HO_7.out) hb); have BK328 := am_ hbox; have GE328 := Sh.ag w hg; replace HB := Sh.hb hb; clear hb hbox hg; obtain ⟨hcz65_0, hcz65_1, hfz65_0, hfz65_1⟩ := Sh.b2 BK328.out) | ((with_reducible refine Sh.k 89 ?_); refine Sh.gD (some 42) Try.func89 #[.int .i64 ((rd_T73 l2 x35_2).f0)] (impl_operandsOf.calls k2 ((rd_T73 l2 x35_2).f0) t329 t330 t331 _ A16.out) fun nd => ?_) | ((with_reducible refine Sh.d 11 ?_); (try (refine gate_guard (by rfl) ?_; dsimp only)); refine Sh.bx (N := 11) (cs := #[.int .i64 0]) (t := 3) (h := ?_); intro gb332 hg w66 hbox hb; have n0_ := am_ (Kd.R_below (Kd.R_elderB (Sh.rl (Kd.R_mono (Kd.R_far (p := ⟨gb328, 1, none⟩) (Kd.R_far (p := ⟨gb328, 0, none⟩) (Kd.R_types HO_7.out BK328.out (by decide)) (fun _ hk => hk.2) (.int .i64 ((rd_T73 l2 x35_2).f0))) (fun _ hk => hk.2) (.int .u64 ((rd_T73 l2 x35_2).f1))) (fun _ h_ => h_.1))) gb332 (Nat.le_of_eq hg.symm)) hb); have n1_ := am_ (blk_below (g := gb328) (o := .cells #[.int .i64 ((rd_T73 l2 x35_2).f0), .int .u64 ((rd_T73 l2 x35_2).f1)] 73 (0, 0)) (by refine Sh.pl ?_; refine blk_put (cs := #[.int .i64 ((rd_T73 l2 x35_2).f0), .int .u64 0]) ?_ 1 _ rfl; refine Sh.pl ?_; refine blk_put (cs := #[.int .i64 0, .int .u64 0]) ?_ 0 _ rfl; refine Sh.pl ?_; exact BK328.out) hb); have n2_ := am_ (below_step Sh.bw hb); have n3_ := am_ hbox; have n4_ := am_ (Sh.gw (w := w) hg); have n5_ := am_ (Sh.gw (w := w) hg); have n6_ := am_ ((by rw [hg]; exact Nat.ne_of_lt (blk_lt (g := gb328) (o := .cells #[.int .i64 ((rd_T73 l2 x35_2).f0), .int .u64 ((rd_T73 l2 x35_2).f1)] 73 (0, 0)) (by refine Sh.pl ?_; refine blk_put (cs := #[.int .i64 ((rd_T73 l2 x35_2).f0), .int .u64 0]) ?_ 1 _ rfl; refine Sh.pl ?_; refine blk_put (cs := #[.int .i64 0, .int .u64 0]) ?_ 0 _ rfl; refine Sh.pl ?_; exact BK328.out)) : gb328 ≠ gb332)); have n7_ := am_ ((by rw [hg]; exact Nat.ne_of_gt (blk_lt (g := gb328) (o := .cells #[.int .i64 ((rd_T73 l2 x35_2).f0), .int .u64 ((rd_T73 l2 x35_2).f1)] 73 (0, 0)) (by refine Sh.pl ?_; refine blk_put (cs := #[.int .i64 ((rd_T73 l2 x35_2).f0), .int .u64 0]) ?_ 1 _ rfl; refine Sh.pl ?_; refine blk_put (cs := #[.int .i64 0, .int .u64 0]) ?_ 0 _ rfl; refine Sh.pl ?_; exact BK328.out)) : gb332 ≠ gb328)); clear HO_7; clear BK328; clear HB; have HO_7 := n0_; have BK328 := n1_; have HB := n2_; have BK332 := n3_; have GW332 := n4_; have GE332 := n5_; have NB328_332 := n6_; have NB332_328 := n7_; clear n0_ n1_ n2_ n3_ n4_ n5_ n6_ n7_; clear hb hbox hg; have hnb67 := NB332_328.out; have hnc67 := NB328_332.out; have hcz68_0 := Sh.bc BK332.out 0; have hfz68_0 := blk_frozen BK332.out 0; obtain ⟨Ao69, co69, eo69⟩ := Kd.R_slice HO_7.out; subst eo69; obtain ⟨hcz70_0, hcz70_1, hfz70_0, hfz70_1⟩ := Sh.b2 BK328.out) | (go_at_call 90; (with_reducible refine (impl_isLeafRight.calls a0 a1 ((rd_T73 l2 x35_2).f0) ((rd_T73 l2 x35_2).f1) false _ A24.out).mono ?_); rintro e w71 ⟨rfl, hb⟩; replace HO_7 := am_ (Kd.R_below (Sh.rl (Kd.R_mono (Kd.R_far (p := ⟨gb332, 0, none⟩) (Kd.R_mono HO_7.out (fun k_ hk => (⟨hk, hk.2⟩ : _ ∧ k_ ≠ gb332))) (fun _ hk => hk.2) (.int .i64 t330)) (fun _ h_ => h_.1))) hb); replace BK328 := am_ (blk_below (g := gb328) (o := .cells #[.int .i64 ((rd_T73 l2 x35_2).f0), .int .u64 ((rd_T73 l2 x35_2).f1)] 73 (0, 0)) (by refine Sh.pl ?_; refine blk_far ?_ NB328_332.out _; refine Sh.pl ?_; exact BK328.out) hb); replace BK332 := am_ (blk_below (g := gb332) (o := .cells #[.int .i64 t330] 3 (0, 0)) (by refine Sh.pl ?_; refine blk_put (cs := #[.int .i64 0]) ?_ 0 _ rfl; refine Sh.pl ?_; exact BK332.out) hb); replace HB := Sh.hb hb; (try clear hb); (try clear hb2); (try clear hk); (try clear hi)))
           go_ret
           exact ⟨Sh.eR, Sh.bw⟩
        ·rw [if_neg c15] at H
         exact absurd H (by simp)
       ·rw [if_neg c14] at H
        exact absurd H (by simp)
      ·rw [if_neg c13] at H
       have c13b0 := decide_eq_false c13
       clear c13
       obtain rfl := Option.some.inj H
       obtain ⟨Ao72, co72, eo72⟩ := Kd.R_slice HO_7.out
       subst eo72
       go_wp2
       go_ret
       exact ⟨Sh.eR, Sh.bw⟩
def impl_kindOf.f (k : Nat) (l0 : List (S73)) : Option (Int) := if 0 ≤ (wrap64 ((l0.length : Int) - 1)) then (if (wrap64 ((l0.length : Int) - 1)) < (l0.length : Int) then ((impl_operandsOf.f k ((rd_T73 l0 (wrap64 ((l0.length : Int) - 1))).f0)).bind fun bt346 => (some bt346.2.2)) else (none)) else (none)
theorem impl_kindOf.mono : ∀ a0 k, LeO (impl_kindOf.f k a0) (impl_kindOf.f (k + 1) a0) := by
 intro a0 k
 unfold impl_kindOf.f
 repeat' with_reducible first | apply impl_operandsOf.mono | exact LeO.refl _ | exact LeO.none _ | apply LeO.ite | refine LeO.bind ?_ fun _ => ?_
theorem impl_kindOf.calls (k : Nat) (A0 : Option Addr) (c0 : Nat) (l0 : List (S73)) (r : Int) (w : World) (hr0 : Kd.C k73 w A0 l0.length l0) (hc0 : l0.length ≤ c0) (h : impl_kindOf.f k l0 = some r) :
  Calls Try.prog 80 #[.slice A0 l0.length c0] w fun e w' => e = .returned (.int .i64 r) ∧ Drawn0 w w' := by
 have HR0 := am_ hr0
 have HC0 := am_ hc0
 clear hr0 hc0
 have H := h
 clear h
 unfold impl_kindOf.f at H
 obtain ⟨ji2, hj1⟩ : ∃ j_ : Int, (wrap64 ((l0.length : Int) - 1)) = j_ := ⟨_, rfl⟩
 replace H : (if 0 ≤ (ji2) then (if (ji2) < (l0.length : Int) then ((impl_operandsOf.f k ((rd_T73 l0 (ji2)).f0)).bind fun bt346 => (some bt346.2.2)) else (none)) else (none)) = some r := by first | (rw [hj1] at H; exact H) | (simp only [hj1] at H ⊢; exact H)
 have hji2w : (IntKind.i64.wrap ((l0.length : Int) - 1)) = ji2 := (i64_w _).trans hj1
 by_cases c3 : 0 ≤ (ji2)
 ·rw [if_pos c3] at H
  have c3b0 := decide_eq_true c3
  clear c3
  by_cases c4 : (ji2) < (l0.length : Int)
  ·rw [if_pos c4] at H
   have c4b0 := decide_eq_true c4
   clear c4
   obtain ⟨⟨t346, t347, t348⟩, A50, H⟩ := Sh.bd H
   have A5 := am_ A50
   clear A50
   obtain rfl := Option.some.inj H
   have p345 : 0 ≤ ((ji2) : Int) := Sh.od
   have q345 : (ji2) < (l0.length : Int) := Sh.od
   obtain ⟨ad345, e345, hx345_0, hx345_1⟩ := at_T73 HR0.out (ji2) p345 q345
   cases e345
   replace p345 := eq_true p345
   replace q345 := eq_true q345
   go_enter Try.func80, Try.ntmps80
   go_wp2_with (first | ((with_reducible refine Sh.k 89 ?_); refine goesL_ (some 14) rfl rfl Try.func89 (by kernel_rfl) rfl #[.int .i64 ((rd_T73 l0 (ji2)).f0)] rfl (by (try simp only [List.map_toArray, List.map_cons, List.map_nil]); first | done | (simp only [hj1]; rfl) | rfl | (simp only [List.length_drop, List.length_take]; rfl)) ?_; (with_reducible refine (impl_operandsOf.calls k ((rd_T73 l0 (ji2)).f0) t346 t347 t348 _ A5.out).mono ?_); rintro e w' ⟨rfl, ⟨nd, rfl⟩⟩; refine ⟨_, rfl, ?_⟩))
   go_ret
   exact ⟨by first | rfl | (simp; done) | (simp only [← hj1] <;> (first | rfl | simp)) | (simp [*]; done), Sh.dr⟩
  ·rw [if_neg c4] at H
   exact absurd H (by simp)
 ·rw [if_neg c3] at H
  exact absurd H (by simp)
def impl_isTermOf.f (k : Nat) (a0 : Int) (a1 : Int) (l2 : List (S73)) (a3 : Int) : Option (Bool) := (impl_GoodTerm.f k a0 a1 l2).bind fun t349 => (if t349 = true then ((impl_kindOf.f k l2).bind fun t350 => (some (t350 == a3))) else (some false))
theorem impl_isTermOf.mono : ∀ a0 a1 a2 a3 k, LeO (impl_isTermOf.f k a0 a1 a2 a3) (impl_isTermOf.f (k + 1) a0 a1 a2 a3) := by
 intro a0 a1 a2 a3 k
 unfold impl_isTermOf.f
 repeat' with_reducible first | apply impl_GoodTerm.mono | apply impl_kindOf.mono | exact LeO.refl _ | exact LeO.none _ | apply LeO.ite | refine LeO.bind ?_ fun _ => ?_
theorem impl_isTermOf.calls (k : Nat) (a0 : Int) (a1 : Int) (A2 : Option Addr) (c2 : Nat) (l2 : List (S73)) (a3 : Int) (r : Bool) (w : World) (hr2 : Kd.C k73 w A2 l2.length l2) (hc2 : l2.length ≤ c2) (h : impl_isTermOf.f k a0 a1 l2 a3 = some r) :
  Calls Try.prog 60 #[.int .i64 a0, .int .i64 a1, .slice A2 l2.length c2, .int .i64 a3] w fun e w' => e = .returned (.bool r) ∧ Below w.heap.size w w' := by
 have HR2 := am_ hr2
 have HC2 := am_ hc2
 clear hr2 hc2
 have HB := am_ (Below.refl w.heap.size w)
 have H := h
 clear h
 unfold impl_isTermOf.f at H
 obtain ⟨t349, A5, H⟩ := Sh.ba H
 by_cases c6 : t349 = true
 ·subst c6
  rw [if_pos rfl] at H
  obtain ⟨t350, A7, H⟩ := Sh.ba H
  obtain rfl := Option.some.inj H
  go_enter Try.func60, Try.ntmps60
  go_wp2_with (first | ((with_reducible refine Sh.k 79 ?_); refine Sh.gL (some 12) Try.func79 #[.int .i64 a0, .int .i64 a1, .slice A2 l2.length c2] (h := ?_); (with_reducible refine (impl_GoodTerm.calls k a0 a1 _ _ l2 true _ ?side1 ?side2 A5.out).mono ?_); (case side1 => repeat (first | exact HR2.out | (with_reducible first | refine Kd.C_alloc ?_ _ | refine Kd.C_drewN ?_ _ | refine Kd.C_drew ?_))); (case side2 => exact HC2.out); rintro e w8 ⟨rfl, hb⟩; refine ⟨_, rfl, ?_⟩; replace HB := Sh.hb hb; (try clear hb); (try clear hb2); (try clear hk); (try clear hi)) | (go_at_call 80; (with_reducible refine (impl_kindOf.calls k _ _ l2 t350 _ (Sh.cB HR2.out) HC2.out A7.out).mono ?_); rintro e w' ⟨rfl, ⟨nd, rfl⟩⟩))
  go_ret
  exact ⟨Sh.eR, Sh.bw⟩
 ·replace c6 := Bool.eq_false_iff.mpr c6
  subst c6
  rw [Sh.nf] at H
  obtain rfl := Option.some.inj H
  go_enter Try.func60, Try.ntmps60
  go_wp2_with (first | ((with_reducible refine Sh.k 79 ?_); refine Sh.gL (some 12) Try.func79 #[.int .i64 a0, .int .i64 a1, .slice A2 l2.length c2] (h := ?_); (with_reducible refine (impl_GoodTerm.calls k a0 a1 _ _ l2 false _ ?side1 ?side2 A5.out).mono ?_); (case side1 => repeat (first | exact HR2.out | (with_reducible first | refine Kd.C_alloc ?_ _ | refine Kd.C_drewN ?_ _ | refine Kd.C_drew ?_))); (case side2 => exact HC2.out); rintro e w9 ⟨rfl, hb⟩; refine ⟨_, rfl, ?_⟩; replace HB := Sh.hb hb; (try clear hb); (try clear hb2); (try clear hk); (try clear hi)))
  go_ret
  exact ⟨Sh.eR, Sh.bw⟩
def impl_Program_isCondition.f (k : Nat) (a0_0 : Int) (a0_1 : Int) (l0_2 : List (S73)) (l0_3 : List (S50)) (l1 : List (S73)) : Option (Bool) := (impl_isTermOf.f k a0_0 a0_1 l1 2).bind fun t352 => (some t352)
theorem impl_Program_isCondition.mono : ∀ a0 a1 a2 a3 a4 k, LeO (impl_Program_isCondition.f k a0 a1 a2 a3 a4) (impl_Program_isCondition.f (k + 1) a0 a1 a2 a3 a4) := by
 intro a0 a1 a2 a3 a4 k
 unfold impl_Program_isCondition.f
 repeat' with_reducible first | apply impl_isTermOf.mono | exact LeO.refl _ | exact LeO.none _ | apply LeO.ite | refine LeO.bind ?_ fun _ => ?_
theorem impl_Program_isCondition.calls (k : Nat) (a0_0 : Int) (a0_1 : Int) (A0_2 : Option Addr) (c0_2 : Nat) (l0_2 : List (S73)) (A0_3 : Option Addr) (c0_3 : Nat) (l0_3 : List (S50)) (A1 : Option Addr) (c1 : Nat) (l1 : List (S73)) (r : Bool) (w : World) (hr0_2 : Kd.C k73 w A0_2 l0_2.length l0_2) (hc0_2 : l0_2.length ≤ c0_2) (hr0_3 : Kd.C k50 w A0_3 l0_3.length l0_3) (hc0_3 : l0_3.length ≤ c0_3) (hr1 : Kd.C k73 w A1 l1.length l1) (hc1 : l1.length ≤ c1) (h : impl_Program_isCondition.f k a0_0 a0_1 l0_2 l0_3 l1 = some r) :
  Calls Try.prog 45 #[.agg #[.int .i64 a0_0, .int .i64 a0_1, .slice A0_2 l0_2.length c0_2, .slice A0_3 l0_3.length c0_3], .slice A1 l1.length c1] w fun e w' => e = .returned (.bool r) ∧ Below w.heap.size w w' := by
 have hu33 := Try.underlying33
 have HR0_2 := am_ hr0_2
 have HC0_2 := am_ hc0_2
 clear hr0_2 hc0_2
 have HR0_3 := am_ hr0_3
 have HC0_3 := am_ hc0_3
 clear hr0_3 hc0_3
 have HR1 := am_ hr1
 have HC1 := am_ hc1
 clear hr1 hc1
 have HB := am_ (Below.refl w.heap.size w)
 have H := h
 clear h
 unfold impl_Program_isCondition.f at H
 obtain ⟨t352, A3, H⟩ := Sh.ba H
 obtain rfl := Option.some.inj H
 go_enter Try.func45, Try.ntmps45
 go_wp2_with (first | ((with_reducible refine Sh.d 2 ?_); refine Sh.bz w (N := 2) (cs := #[.int .i64 a0_0, .int .i64 a0_1, .slice A0_2 l0_2.length c0_2, .slice A0_3 l0_3.length c0_3]) (t := 33) (h := ?_); clear HB; intro gb351 w4 BK351 GE351 HB; obtain ⟨hcz5_0, hcz5_1, hcz5_2, hcz5_3, hfz5_0, hfz5_1, hfz5_2, hfz5_3⟩ := Sh.b4 BK351.out) | ((with_reducible refine Sh.k 60 ?_); refine Sh.gB (some 10) Try.func60 #[.int .i64 a0_0, .int .i64 a0_1, .slice A1 l1.length c1, .int .i64 2] (impl_isTermOf.calls k a0_0 a0_1 _ _ l1 2 t352 _ (Sh.cB HR1.out) HC1.out A3.out) fun w6 hb => ?_; replace BK351 := Sh.ab BK351 hb; replace HB := Sh.hb hb; (try clear hb); (try clear hb2); (try clear hk); (try clear hi)))
 go_ret
 exact ⟨Sh.eR, Sh.bw⟩
theorem impl_Command_61.gen (g : Nat) (lb : Array Value) (eg : ∀ args w, (callFunc g args).run Try.prog w = .ok (.enter g args) w) (q : S50 → Option Bool) (A0 : Option Addr) (c0 : Nat) (l0 : List (S50)) (r : Int) (w : World) (hr0 : Kd.C k50 w A0 l0.length l0) (hc0 : l0.length ≤ c0)
  (hp : ∀ (W : World) (x : S50) (b : Bool) (A0 : Option Addr) (c0 : Nat) (A1 : Option Addr) (c1 : Nat), Below w.heap.size w W → x ∈ l0 → q x = some b → x.f0.length ≤ c0 → Kd.C k73 W A0 x.f0.length x.f0 → x.f1.length ≤ c1 → Kd.C k52 W A1 x.f1.length x.f1 → Calls Try.prog g (#[.agg #[.slice A0 x.f0.length c0, .slice A1 x.f1.length c1]] ++ lb) W fun e w' => e = .returned (.bool b) ∧ Below W.heap.size W w')
  (h : idxO q l0 0 = some r) : Calls Try.prog 61 #[.slice A0 l0.length c0, .func (.func g) #[] lb] w fun e w' => e = .returned (.int .i64 r) ∧ Below w.heap.size w w' := by
 have HR := am_ hr0
 have HP := am_ hp
 have HH := am_ h
 have hn : l0.length ≤ 9223372036854775807 := hr0.2.1
 clear hr0 hp h
 go_enter Try.func61, Try.ntmps61
 go_wp2
 go_loopg [5, 8] l0.length (fun gg _ s8 wr => ∃ kk : Nat, kk ≤ l0.length ∧ l0.length - kk ≤ gg ∧ s8 = .int .i64 kk ∧ Aside0 (idxO q (l0.drop kk) kk = some r) ∧ Aside0 (Below w.heap.size w wr))
 case atStart => exact ⟨0, Nat.zero_le _, by omega, rfl, HH, ⟨Below.refl _ _⟩⟩
 case round =>
  obtain ⟨kk, hkk, hg, rfl, HA, HB⟩ := hrel
  clear HH
  by_cases hlt : kk < l0.length
  ·have hltz : (kk : Int) < (l0.length : Int) := by omega
   have h0z : 0 ≤ (kk : Int) := by omega
   obtain ⟨ad, A0, c0, A1, c1, e, hx0, hx1, la0, ga0, la1, ga1⟩ := at_T50 HR.out (kk : Int) h0z hltz
   have er : rd_T50 l0 (kk : Int) = l0.getD kk z50 := by simp [rd_T50]
   rw [er] at hx0 hx1 la0 ga0 la1 ga1
   have hA := HA.out
   rw [drop_getD hlt z50] at hA
   obtain ⟨b, hb, hA2⟩ := Option.bind_eq_some_iff.mp hA
   have HA2 := am_ hA2
   have hin := getD_in hlt (z50 : S50)
   have hcall := HP.out wr _ b A0 c0 A1 c1 HB.out hin hb la0 (Kd.C_below ga0 HB.out) la1 (Kd.C_below ga1 HB.out)
   generalize l0.getD kk z50 = y at hx0 hx1 la0 ga0 la1 ga1 hcall
   clear HA hA hA2 hb er hin
   clear la0 ga0 la1 ga1
   cases e
   simp only [Int.toNat_natCast] at hx0 hx1
   try replace hx0 := Sh.cw hx0
   try replace hx1 := Sh.cw hx1
   cases b with
   | true =>
    go_wp2_with (go_at_fn g; refine hcall.mono ?_; rintro e w' ⟨rfl, hb2⟩)
    go_ret
    have h3 := HA2.out
    simp only [if_true] at h3
    exact ⟨by rw [← Option.some.inj h3]; rfl, below_step HB.out hb2⟩
   | false =>
    go_wp2_with (go_at_fn g; refine hcall.mono ?_; rintro e w' ⟨rfl, hb2⟩)
    go_roundg (l0.length - (kk + 1))
    case measure => omega
    case rel =>
     refine ⟨kk + 1, by omega, by omega, by go_num, ⟨by have h3 := HA2.out; simpa using h3⟩, ⟨below_step HB.out hb2⟩⟩
  ·have hltz : ¬ (kk : Int) < (l0.length : Int) := by omega
   have hA := HA.out
   rw [List.drop_of_length_le (by omega)] at hA
   have h4 : (-1 : Int) = r := Option.some.inj hA
   subst h4
   clear HA hA
   have : kk = l0.length := by omega
   subst this
   go_wp2
   go_ret
   exact ⟨rfl, HB.out⟩
theorem impl_Command_46.gen (g : Nat) (lb : Array Value) (eg : ∀ args w, (callFunc g args).run Try.prog w = .ok (.enter g args) w) (q : S50 → Option Bool) (A0 : Option Addr) (c0 : Nat) (l0 : List (S50)) (r : Bool) (w : World) (hr0 : Kd.C k50 w A0 l0.length l0) (hc0 : l0.length ≤ c0)
  (hp : ∀ (W : World) (x : S50) (b : Bool) (A0 : Option Addr) (c0 : Nat) (A1 : Option Addr) (c1 : Nat), Below w.heap.size w W → x ∈ l0 → q x = some b → x.f0.length ≤ c0 → Kd.C k73 W A0 x.f0.length x.f0 → x.f1.length ≤ c1 → Kd.C k52 W A1 x.f1.length x.f1 → Calls Try.prog g (#[.agg #[.slice A0 x.f0.length c0, .slice A1 x.f1.length c1]] ++ lb) W fun e w' => e = .returned (.bool b) ∧ Below W.heap.size W w')
  (h : anyO q l0 = some r) : Calls Try.prog 46 #[.slice A0 l0.length c0, .func (.func g) #[] lb] w fun e w' => e = .returned (.bool r) ∧ Below w.heap.size w w' := by
 obtain ⟨i, hi, hd⟩ := idxO_of_anyO l0 r 0 (Int.le_refl 0) h
 have HC := am_ (impl_Command_61.gen g lb eg q A0 c0 l0 i w hr0 hc0 hp hi)
 have HD := am_ hd
 clear hr0 hp h hi hd
 go_enter Try.func46, Try.ntmps46
 go_wp2_with (go_at_call 61; refine HC.out.mono ?_; rintro e w' ⟨rfl, hb2⟩)
 go_ret
 exact ⟨by rw [← HD.out]; rfl, hb2⟩
def impl_Program_isCommand.l0 : Nat → List (S52) → Int → Int → Int → Int → List (S73) → List (S50) → List (S73) → List (S52) → Option (Bool)
 | 0, _, _, _, _, _, _, _, _, _ => none
 | k + 1, x13, x14, x15, x354000, x354001, x354002, x354003, x355000, x355001 => if x15 < x14 then (if 0 ≤ x15 then (if x15 < (x13.length : Int) then (if ((rd_T52 x13 x15).f0) < 0 then (some false) else (if ((rd_T52 x13 x15).f0) ≥ x354001 then (some false) else (if x15 > 0 then (if 0 ≤ (wrap64 (x15 - 1)) then (if (wrap64 (x15 - 1)) < (x355001.length : Int) then (if ((rd_T52 x355001 (wrap64 (x15 - 1))).f0) ≥ ((rd_T52 x13 x15).f0) then (some false) else ((impl_isTermOf.f k x354000 x354001 ((rd_T52 x13 x15).f1) 1).bind fun t359 => (if t359 = true then (impl_Program_isCommand.l0 k x13 x14 (wrap64 (x15 + 1)) x354000 x354001 x354002 x354003 x355000 x355001) else (some false)))) else (none)) else (none)) else ((impl_isTermOf.f k x354000 x354001 ((rd_T52 x13 x15).f1) 1).bind fun t360 => (if t360 = true then (impl_Program_isCommand.l0 k x13 x14 (wrap64 (x15 + 1)) x354000 x354001 x354002 x354003 x355000 x355001) else (some false)))))) else (none)) else (none)) else (some true)
def impl_Program_isCommand.f (k : Nat) (a0_0 : Int) (a0_1 : Int) (l0_2 : List (S73)) (l0_3 : List (S50)) (l1_0 : List (S73)) (l1_1 : List (S52)) : Option (Bool) := (impl_Program_isCondition.f k a0_0 a0_1 l0_2 l0_3 l1_0).bind fun t355 => (if t355 = true then (impl_Program_isCommand.l0 k l1_1 (l1_1.length : Int) 0 a0_0 a0_1 l0_2 l0_3 l1_0 l1_1) else (some false))
theorem impl_Program_isCommand.mono_l : ∀ k, (∀ y0 y1 y2 y3 y4 y5 y6 y7 y8, LeO (impl_Program_isCommand.l0 k y0 y1 y2 y3 y4 y5 y6 y7 y8) (impl_Program_isCommand.l0 (k + 1) y0 y1 y2 y3 y4 y5 y6 y7 y8))
 | 0 => fun _ _ _ _ _ _ _ _ _ r h => by simp [impl_Program_isCommand.l0] at h
 | k + 1 => by
  have ih0 := impl_Program_isCommand.mono_l k
  ·intro y0 y1 y2 y3 y4 y5 y6 y7 y8
   unfold impl_Program_isCommand.l0
   repeat' with_reducible first | apply ih0 | apply impl_Program_isCondition.mono | apply impl_isTermOf.mono | exact LeO.refl _ | exact LeO.none _ | apply LeO.ite | refine LeO.bind ?_ fun _ => ?_
theorem impl_Program_isCommand.mono : ∀ a0 a1 a2 a3 a4 a5 k, LeO (impl_Program_isCommand.f k a0 a1 a2 a3 a4 a5) (impl_Program_isCommand.f (k + 1) a0 a1 a2 a3 a4 a5) := by
 intro a0 a1 a2 a3 a4 a5 k
 have ih0 := impl_Program_isCommand.mono_l k
 unfold impl_Program_isCommand.f
 repeat' with_reducible first | apply ih0 | apply impl_Program_isCondition.mono | apply impl_isTermOf.mono | exact LeO.refl _ | exact LeO.none _ | apply LeO.ite | refine LeO.bind ?_ fun _ => ?_
def impl_Program_isCommand.T6 : Bool × List (List Nat × List Nat) := (true, [([], []), ([0], [0]), ([1], [1]), ([2], [2]), ([3], [3]), ([4, 3], [3, 4]), ([3], [3]), ([6, 3], [3, 6]), ([5, 7, 3], [3, 5, 7]), ([3, 8], [3, 8]), ([9, 3], [9]), ([10], [10]), ([11, 10], [10, 11]), ([12, 10, 10], [10, 12]), ([13], [13]), ([14, 13], [13, 14]), ([13], [13]), ([16, 13], [13, 16]), ([15, 17, 13], [13, 15, 17]), ([18, 13], [13, 18]), ([19, 13], [13, 19]), ([13], [13]), ([21, 13], [13, 21]), ([20, 22, 13], [13, 20, 22]), ([13, 23, 10], [10, 13, 23]), ([10, 24], [10, 24]), ([25, 13], [25]), ([26], [26]), ([27, 26], [26, 27]), ([26], [26]), ([29, 26], [26, 29]), ([26], [26]), ([31, 26], [26, 31]), ([28, 30, 32, 26, 26], [26, 28, 30, 32]), ([33, 26], [26, 33]), ([26, 34], [26, 34])])
def impl_Program_isCommand.B6 : List Nat := [0, 1, 3, 7, 15, 31, 15, 79, 255, 511, 1023, 2047, 4095, 8191, 16383, 32767, 16383, 81919, 262143, 524287, 1048575, 16383, 2113535, 8388607, 16777215, 33554431, 67108863, 134217727, 268435455, 134217727, 671088639, 134217727, 2281701375, 8589934591, 17179869183, 34359738367]
theorem impl_Program_isCommand.tab6 : rtab .any (opsOf Try.f48 6) = impl_Program_isCommand.T6 := by kernel_rfl
theorem impl_Program_isCommand.bits6 : waitsOk impl_Program_isCommand.T6.2 impl_Program_isCommand.B6 = true := by kernel_rfl
theorem impl_Program_isCommand.calls (k : Nat) (a0_0 : Int) (a0_1 : Int) (A0_2 : Option Addr) (c0_2 : Nat) (l0_2 : List (S73)) (A0_3 : Option Addr) (c0_3 : Nat) (l0_3 : List (S50)) (A1_0 : Option Addr) (c1_0 : Nat) (l1_0 : List (S73)) (A1_1 : Option Addr) (c1_1 : Nat) (l1_1 : List (S52)) (r : Bool) (w : World) (hr0_2 : Kd.C k73 w A0_2 l0_2.length l0_2) (hc0_2 : l0_2.length ≤ c0_2) (hr0_3 : Kd.C k50 w A0_3 l0_3.length l0_3) (hc0_3 : l0_3.length ≤ c0_3) (hr1_0 : Kd.C k73 w A1_0 l1_0.length l1_0) (hc1_0 : l1_0.length ≤ c1_0) (hr1_1 : Kd.C k52 w A1_1 l1_1.length l1_1) (hc1_1 : l1_1.length ≤ c1_1) (h : impl_Program_isCommand.f k a0_0 a0_1 l0_2 l0_3 l1_0 l1_1 = some r) :
  Calls Try.prog 48 #[.agg #[.int .i64 a0_0, .int .i64 a0_1, .slice A0_2 l0_2.length c0_2, .slice A0_3 l0_3.length c0_3], .agg #[.slice A1_0 l1_0.length c1_0, .slice A1_1 l1_1.length c1_1]] w fun e w' => e = .returned (.bool r) ∧ Below w.heap.size w w' := by
 have hu33 := Try.underlying33
 have hu50 := Try.underlying50
 have hu52 := Try.underlying52
 have HR0_2 := am_ hr0_2
 have HC0_2 := am_ hc0_2
 clear hr0_2 hc0_2
 have HR0_3 := am_ hr0_3
 have HC0_3 := am_ hc0_3
 clear hr0_3 hc0_3
 have HR1_0 := am_ hr1_0
 have HC1_0 := am_ hc1_0
 clear hr1_0 hc1_0
 have HR1_1 := am_ hr1_1
 have HC1_1 := am_ hc1_1
 clear hr1_1 hc1_1
 have HB := am_ (Below.refl w.heap.size w)
 have H := h
 clear h
 unfold impl_Program_isCommand.f at H
 obtain ⟨t355, A3, H⟩ := Sh.ba H
 by_cases c4 : t355 = true
 ·subst c4
  rw [if_pos rfl] at H
  have H' := am_ H
  clear H
  go_enter Try.func48, Try.ntmps48
  go_wp2_with (first | ((with_reducible refine Sh.d 2 ?_); refine Sh.bz w (N := 2) (cs := #[.int .i64 a0_0, .int .i64 a0_1, .slice A0_2 l0_2.length c0_2, .slice A0_3 l0_3.length c0_3]) (t := 33) (h := ?_); clear HB; intro gb353 w5 BK353 GE353 HB) | ((with_reducible refine Sh.d 3 ?_); refine Sh.bx (N := 3) (cs := #[.slice A1_0 l1_0.length c1_0, .slice A1_1 l1_1.length c1_1]) (t := 50) (h := ?_); intro gb354 hg w6 hbox hb; have BK354 := am_ hbox; have GE354 := Sh.ag w hg; replace HB := Sh.hb hb; have NB353_354 := am_ (Sh.nl hg BK353.out); have NB354_353 := am_ (Sh.ng hg BK353.out); replace BK353 := Sh.ab BK353 hb; clear hb hbox hg; have hnb7 := NB353_354.out; have hnc7 := NB354_353.out; obtain ⟨hcz8_0, hcz8_1, hcz8_2, hcz8_3, hfz8_0, hfz8_1, hfz8_2, hfz8_3⟩ := Sh.b4 BK353.out; obtain ⟨hcz9_0, hcz9_1, hfz9_0, hfz9_1⟩ := Sh.b2 BK354.out) | ((with_reducible refine Sh.k 45 ?_); refine Sh.gB (some 10) Try.func45 #[.agg #[.int .i64 a0_0, .int .i64 a0_1, .slice A0_2 l0_2.length c0_2, .slice A0_3 l0_3.length c0_3], .slice A1_0 l1_0.length c1_0] (impl_Program_isCondition.calls k a0_0 a0_1 _ _ l0_2 _ _ l0_3 _ _ l1_0 true _ (Sh.cB HR0_2.out) HC0_2.out (Sh.cB HR0_3.out) HC0_3.out (Sh.cB HR1_0.out) HC1_0.out A3.out) fun w10 hb => ?_; replace BK353 := Sh.ab BK353 hb; replace BK354 := Sh.ab BK354 hb; replace HB := Sh.hb hb; (try clear hb); (try clear hb2); (try clear hk); (try clear hi); obtain ⟨hcz11_0, hcz11_1, hfz11_0, hfz11_1⟩ := Sh.b2 BK354.out))
  go_loopg [15] k (fun kq v15 w' => ∃ (x15_1 : Int), v15 = .int .i64 x15_1 ∧ Aside0 (impl_Program_isCommand.l0 kq l1_1 (l1_1.length : Int) x15_1 a0_0 a0_1 l0_2 l0_3 l1_0 l1_1 = some r) ∧ Aside0 (kq ≤ k) ∧ Aside0 (w'.heap[gb353]? = some (.cells #[.int .i64 a0_0, .int .i64 a0_1, (.slice A0_2 l0_2.length c0_2), (.slice A0_3 l0_3.length c0_3)] 33 (0, 0))) ∧ Aside0 (w'.heap[gb354]? = some (.cells #[(.slice A1_0 l1_0.length c1_0), (.slice A1_1 l1_1.length c1_1)] 50 (0, 0))) ∧ Aside0 (Below w.heap.size w w'))
  case atStart => exact ⟨(0), (Sh.es), H', ⟨Nat.le_refl _⟩, ⟨by refine Sh.pl ?_; exact BK353.out⟩, ⟨by refine Sh.pl ?_; exact BK354.out⟩, ⟨Sh.bw⟩⟩
  case round =>
   clear H'
   try clear hcz11_0
   try clear hcz11_1
   try clear hcz8_0
   try clear hcz8_1
   try clear hcz8_2
   try clear hcz8_3
   try clear hcz9_0
   try clear hcz9_1
   try clear hfz11_0
   try clear hfz11_1
   try clear hfz8_0
   try clear hfz8_1
   try clear hfz8_2
   try clear hfz8_3
   try clear hfz9_0
   try clear hfz9_1
   obtain ⟨x15_1, rfl, HA, HK1, BK353, BK354, HB⟩ := hrel
   cases gk with
   | zero => exact absurd HA.out (by simp [impl_Program_isCommand.l0])
   | succ k1 =>
    have H := HA.out
    clear HA
    simp only [impl_Program_isCommand.l0] at H
    by_cases c12 : x15_1 < (l1_1.length : Int)
    ·rw [if_pos c12] at H
     have c12b0 := decide_eq_true c12
     clear c12
     by_cases c13 : 0 ≤ x15_1
     ·rw [if_pos c13] at H
      have c13b0 := decide_eq_true c13
      clear c13
      by_cases c14 : x15_1 < (l1_1.length : Int)
      ·rw [if_pos c14] at H
       have c14b0 := decide_eq_true c14
       clear c14
       by_cases c15 : ((rd_T52 l1_1 x15_1).f0) < 0
       ·rw [if_pos c15] at H
        have c15b0 := decide_eq_true c15
        clear c15
        obtain rfl := Option.some.inj H
        have p356 : 0 ≤ (x15_1 : Int) := Sh.od
        have q356 : x15_1 < (l1_1.length : Int) := Sh.od
        obtain ⟨ad356, A356_1, c356_1, e356, hx356_0, hx356_1, hl356_1, hi356_1⟩ := at_T52 HR1_1.out x15_1 p356 q356
        cases e356
        try replace hx356_0 := Sh.cw hx356_0
        try replace hx356_1 := Sh.cw hx356_1
        have HR356_1 := am_ hi356_1
        have HC356_1 := am_ hl356_1
        clear hi356_1 hl356_1
        replace p356 := eq_true p356
        replace q356 := eq_true q356
        try go_wp2_with (first | ((with_reducible refine Sh.d 6 ?_); refine Sh.bx (N := 6) (cs := #[.int .i64 0, .slice none 0 0]) (t := 52) (h := ?_); intro gb357 hg w16 hbox hb; have BK357 := am_ hbox; have GE357 := Sh.ag w hg; replace HB := Sh.hb hb; have NB353_357 := am_ (Sh.nl hg BK353.out); have NB357_353 := am_ (Sh.ng hg BK353.out); replace BK353 := Sh.ab BK353 hb; have NB354_357 := am_ (Sh.nl hg BK354.out); have NB357_354 := am_ (Sh.ng hg BK354.out); replace BK354 := Sh.ab BK354 hb; clear hb hbox hg; have hnb17 := NB357_353.out; have hnc17 := NB353_357.out; have hnb18 := NB357_354.out; have hnc18 := NB354_357.out; obtain ⟨hcz19_0, hcz19_1, hfz19_0, hfz19_1⟩ := Sh.b2 BK357.out))
        have n0_ : Aside0 (((w16.setCell ⟨gb357, 0, none⟩ (.int .i64 ((rd_T52 l1_1 x15_1).f0))).setCell ⟨gb357, 1, none⟩ (.slice A356_1 ((rd_T52 l1_1 x15_1).f1).length c356_1)).heap[gb353]? = some (.cells #[.int .i64 a0_0, .int .i64 a0_1, .slice A0_2 l0_2.length c0_2, .slice A0_3 l0_3.length c0_3] 33 (0, 0))) := ⟨by refine Sh.pl ?_; refine blk_far ?_ NB353_357.out _; refine Sh.pl ?_; refine blk_far ?_ NB353_357.out _; refine Sh.pl ?_; exact BK353.out⟩
        have n1_ : Aside0 (((w16.setCell ⟨gb357, 0, none⟩ (.int .i64 ((rd_T52 l1_1 x15_1).f0))).setCell ⟨gb357, 1, none⟩ (.slice A356_1 ((rd_T52 l1_1 x15_1).f1).length c356_1)).heap[gb354]? = some (.cells #[.slice A1_0 l1_0.length c1_0, .slice (some ad356) l1_1.length c1_1] 50 (0, 0))) := ⟨by refine Sh.pl ?_; refine blk_far ?_ NB354_357.out _; refine Sh.pl ?_; refine blk_far ?_ NB354_357.out _; refine Sh.pl ?_; exact BK354.out⟩
        have n2_ : Aside0 (((w16.setCell ⟨gb357, 0, none⟩ (.int .i64 ((rd_T52 l1_1 x15_1).f0))).setCell ⟨gb357, 1, none⟩ (.slice A356_1 ((rd_T52 l1_1 x15_1).f1).length c356_1)).heap[gb357]? = some (.cells #[.int .i64 ((rd_T52 l1_1 x15_1).f0), .slice A356_1 ((rd_T52 l1_1 x15_1).f1).length c356_1] 52 (0, 0))) := ⟨by refine Sh.pl ?_; refine blk_put (cs := #[.int .i64 ((rd_T52 l1_1 x15_1).f0), .slice none 0 0]) ?_ 1 _ rfl; refine Sh.pl ?_; refine blk_put (cs := #[.int .i64 0, .slice none 0 0]) ?_ 0 _ rfl; refine Sh.pl ?_; exact BK357.out⟩
        have n3_ : Aside0 (Below w.heap.size w ((w16.setCell ⟨gb357, 0, none⟩ (.int .i64 ((rd_T52 l1_1 x15_1).f0))).setCell ⟨gb357, 1, none⟩ (.slice A356_1 ((rd_T52 l1_1 x15_1).f1).length c356_1))) := ⟨Sh.bw⟩
        (try clear BK353)
        (try clear BK354)
        (try clear BK357)
        (try clear HB)
        generalize ((w16.setCell ⟨gb357, 0, none⟩ (.int .i64 ((rd_T52 l1_1 x15_1).f0))).setCell ⟨gb357, 1, none⟩ (.slice A356_1 ((rd_T52 l1_1 x15_1).f1).length c356_1)) = w20 at n0_ n1_ n2_ n3_ ⊢
        have BK353 := n0_
        have BK354 := n1_
        have BK357 := n2_
        have HB := n3_
        clear n0_ n1_ n2_ n3_
        replace BK353 := am_ (blk_drew BK353.out)
        replace BK354 := am_ (blk_drew BK354.out)
        replace BK357 := am_ (blk_drew BK357.out)
        replace HB := am_ (below_drew1 HB.out)
        refine start_ (n := 36) (S := fun w' => w'.cell? ⟨gb357, 0, none⟩ = some (.int .i64 ((rd_T52 l1_1 x15_1).f0)) ∧ w'.cell? ⟨gb357, 1, none⟩ = some (.slice A356_1 ((rd_T52 l1_1 x15_1).f1).length c356_1)) (ds := []) (Sh.nm 36 0) (by kernel_rfl) rfl rfl Sh.cs (fun hHeld => ?_); refine with_tabW impl_Program_isCommand.tab6 impl_Program_isCommand.bits6 (fun HT_ HW_ => ?_)
        generalize w20.drew = w21 at BK353 BK354 BK357 HB hHeld ⊢
        refine Sh.qA 0 ?_; refine Sh.qT 1 hHeld ?_; refine Sh.qA 2 ?_; refine Sh.qA 3 ?_; refine Sh.qU 4 ?_; refine Sh.qU 5 ?_; refine Sh.qU 6 ?_; refine Sh.qU 7 ?_; refine Sh.qU 8 ?_; refine Sh.qA 9 ?_; refine Sh.qA 10 ?_; refine Sh.qU 11 ?_; refine Sh.qU 12 ?_; refine Sh.qU 13 ?_; refine Sh.qU 14 ?_; refine Sh.qU 15 ?_; refine Sh.qU 16 ?_; refine Sh.qU 17 ?_; refine Sh.qU 18 ?_; refine Sh.qU 19 ?_; refine Sh.qU 20 ?_; refine Sh.qU 21 ?_; refine Sh.qU 22 ?_; refine Sh.qU 23 ?_; refine Sh.qU 24 ?_; refine Sh.qA 25 ?_; refine Sh.qA 26 ?_; refine Sh.qU 27 ?_; refine Sh.qU 28 ?_; refine Sh.qU 29 ?_; refine Sh.qU 30 ?_; refine Sh.qU 31 ?_; refine Sh.qU 32 ?_; refine Sh.qU 33 ?_; refine Sh.qU 34 ?_; refine Sh.qA 35 ?_
        refine done_ (done_of HT_.out (by kernel_rfl)) ?_
        try go_wp2
        go_ret
        exact ⟨Sh.eR, Sh.bw⟩
       ·rw [if_neg c15] at H
        have c15b0 := decide_eq_false c15
        clear c15
        by_cases c22 : ((rd_T52 l1_1 x15_1).f0) ≥ a0_1
        ·rw [if_pos c22] at H
         have c22b0 : decide (a0_1 ≤ ((rd_T52 l1_1 x15_1).f0)) = true := decide_eq_true c22
         clear c22
         obtain rfl := Option.some.inj H
         have p356 : 0 ≤ (x15_1 : Int) := Sh.od
         have q356 : x15_1 < (l1_1.length : Int) := Sh.od
         obtain ⟨ad356, A356_1, c356_1, e356, hx356_0, hx356_1, hl356_1, hi356_1⟩ := at_T52 HR1_1.out x15_1 p356 q356
         cases e356
         try replace hx356_0 := Sh.cw hx356_0
         try replace hx356_1 := Sh.cw hx356_1
         have HR356_1 := am_ hi356_1
         have HC356_1 := am_ hl356_1
         clear hi356_1 hl356_1
         replace p356 := eq_true p356
         replace q356 := eq_true q356
         try go_wp2_with (first | ((with_reducible refine Sh.d 6 ?_); refine Sh.bx (N := 6) (cs := #[.int .i64 0, .slice none 0 0]) (t := 52) (h := ?_); intro gb357 hg w23 hbox hb; have BK357 := am_ hbox; have GE357 := Sh.ag w hg; replace HB := Sh.hb hb; have NB353_357 := am_ (Sh.nl hg BK353.out); have NB357_353 := am_ (Sh.ng hg BK353.out); replace BK353 := Sh.ab BK353 hb; have NB354_357 := am_ (Sh.nl hg BK354.out); have NB357_354 := am_ (Sh.ng hg BK354.out); replace BK354 := Sh.ab BK354 hb; clear hb hbox hg; have hnb24 := NB357_353.out; have hnc24 := NB353_357.out; have hnb25 := NB357_354.out; have hnc25 := NB354_357.out; obtain ⟨hcz26_0, hcz26_1, hfz26_0, hfz26_1⟩ := Sh.b2 BK357.out))
         have n0_ : Aside0 (((w23.setCell ⟨gb357, 0, none⟩ (.int .i64 ((rd_T52 l1_1 x15_1).f0))).setCell ⟨gb357, 1, none⟩ (.slice A356_1 ((rd_T52 l1_1 x15_1).f1).length c356_1)).heap[gb353]? = some (.cells #[.int .i64 a0_0, .int .i64 a0_1, .slice A0_2 l0_2.length c0_2, .slice A0_3 l0_3.length c0_3] 33 (0, 0))) := ⟨by refine Sh.pl ?_; refine blk_far ?_ NB353_357.out _; refine Sh.pl ?_; refine blk_far ?_ NB353_357.out _; refine Sh.pl ?_; exact BK353.out⟩
         have n1_ : Aside0 (((w23.setCell ⟨gb357, 0, none⟩ (.int .i64 ((rd_T52 l1_1 x15_1).f0))).setCell ⟨gb357, 1, none⟩ (.slice A356_1 ((rd_T52 l1_1 x15_1).f1).length c356_1)).heap[gb354]? = some (.cells #[.slice A1_0 l1_0.length c1_0, .slice (some ad356) l1_1.length c1_1] 50 (0, 0))) := ⟨by refine Sh.pl ?_; refine blk_far ?_ NB354_357.out _; refine Sh.pl ?_; refine blk_far ?_ NB354_357.out _; refine Sh.pl ?_; exact BK354.out⟩
         have n2_ : Aside0 (((w23.setCell ⟨gb357, 0, none⟩ (.int .i64 ((rd_T52 l1_1 x15_1).f0))).setCell ⟨gb357, 1, none⟩ (.slice A356_1 ((rd_T52 l1_1 x15_1).f1).length c356_1)).heap[gb357]? = some (.cells #[.int .i64 ((rd_T52 l1_1 x15_1).f0), .slice A356_1 ((rd_T52 l1_1 x15_1).f1).length c356_1] 52 (0, 0))) := ⟨by refine Sh.pl ?_; refine blk_put (cs := #[.int .i64 ((rd_T52 l1_1 x15_1).f0), .slice none 0 0]) ?_ 1 _ rfl; refine Sh.pl ?_; refine blk_put (cs := #[.int .i64 0, .slice none 0 0]) ?_ 0 _ rfl; refine Sh.pl ?_; exact BK357.out⟩
         have n3_ : Aside0 (Below w.heap.size w ((w23.setCell ⟨gb357, 0, none⟩ (.int .i64 ((rd_T52 l1_1 x15_1).f0))).setCell ⟨gb357, 1, none⟩ (.slice A356_1 ((rd_T52 l1_1 x15_1).f1).length c356_1))) := ⟨Sh.bw⟩
         (try clear BK353)
         (try clear BK354)
         (try clear BK357)
         (try clear HB)
         generalize ((w23.setCell ⟨gb357, 0, none⟩ (.int .i64 ((rd_T52 l1_1 x15_1).f0))).setCell ⟨gb357, 1, none⟩ (.slice A356_1 ((rd_T52 l1_1 x15_1).f1).length c356_1)) = w27 at n0_ n1_ n2_ n3_ ⊢
         have BK353 := n0_
         have BK354 := n1_
         have BK357 := n2_
         have HB := n3_
         clear n0_ n1_ n2_ n3_
         replace BK353 := am_ (blk_drew BK353.out)
         replace BK354 := am_ (blk_drew BK354.out)
         replace BK357 := am_ (blk_drew BK357.out)
         replace HB := am_ (below_drew1 HB.out)
         refine start_ (n := 36) (S := fun w' => w'.cell? ⟨gb357, 0, none⟩ = some (.int .i64 ((rd_T52 l1_1 x15_1).f0)) ∧ w'.cell? ⟨gb357, 1, none⟩ = some (.slice A356_1 ((rd_T52 l1_1 x15_1).f1).length c356_1) ∧ w'.cell? ⟨gb353, 0, none⟩ = some (.int .i64 a0_0) ∧ w'.cell? ⟨gb353, 1, none⟩ = some (.int .i64 a0_1) ∧ w'.cell? ⟨gb353, 2, none⟩ = some (.slice A0_2 l0_2.length c0_2) ∧ w'.cell? ⟨gb353, 3, none⟩ = some (.slice A0_3 l0_3.length c0_3)) (ds := []) (Sh.nm 36 0) (by kernel_rfl) rfl rfl Sh.cs (fun hHeld => ?_); refine with_tabW impl_Program_isCommand.tab6 impl_Program_isCommand.bits6 (fun HT_ HW_ => ?_)
         generalize w27.drew = w28 at BK353 BK354 BK357 HB hHeld ⊢
         refine Sh.qA 0 ?_; refine Sh.qT 1 hHeld ?_; refine Sh.qA 2 ?_; refine Sh.qA 3 ?_; refine Sh.qA 4 ?_; refine Sh.qA 6 ?_; refine Sh.qT 5 hHeld ?_; refine Sh.qT 7 hHeld ?_; refine Sh.qA 8 ?_; refine Sh.qA 9 ?_; refine Sh.qA 10 ?_; refine Sh.qU 11 ?_; refine Sh.qU 12 ?_; refine Sh.qU 13 ?_; refine Sh.qU 14 ?_; refine Sh.qU 15 ?_; refine Sh.qU 16 ?_; refine Sh.qU 17 ?_; refine Sh.qU 18 ?_; refine Sh.qU 19 ?_; refine Sh.qU 20 ?_; refine Sh.qU 21 ?_; refine Sh.qU 22 ?_; refine Sh.qU 23 ?_; refine Sh.qU 24 ?_; refine Sh.qA 25 ?_; refine Sh.qA 26 ?_; refine Sh.qU 27 ?_; refine Sh.qU 28 ?_; refine Sh.qU 29 ?_; refine Sh.qU 30 ?_; refine Sh.qU 31 ?_; refine Sh.qU 32 ?_; refine Sh.qU 33 ?_; refine Sh.qU 34 ?_; refine Sh.qA 35 ?_
         refine done_ (done_of HT_.out (by kernel_rfl)) ?_
         try go_wp2
         go_ret
         exact ⟨Sh.eR, Sh.bw⟩
        ·rw [if_neg c22] at H
         have c22b0 : decide (a0_1 ≤ ((rd_T52 l1_1 x15_1).f0)) = false := decide_eq_false c22
         clear c22
         by_cases c29 : x15_1 > 0
         ·rw [if_pos c29] at H
          have c29b0 : decide (0 < x15_1) = true := decide_eq_true c29
          clear c29
          obtain ⟨ji30, hj1⟩ : ∃ j_ : Int, (wrap64 (x15_1 - 1)) = j_ := ⟨_, rfl⟩
          replace H : (if 0 ≤ (ji30) then (if (ji30) < (l1_1.length : Int) then (if ((rd_T52 l1_1 (ji30)).f0) ≥ ((rd_T52 l1_1 x15_1).f0) then (some false) else ((impl_isTermOf.f k1 a0_0 a0_1 ((rd_T52 l1_1 x15_1).f1) 1).bind fun t359 => (if t359 = true then (impl_Program_isCommand.l0 k1 l1_1 (l1_1.length : Int) (wrap64 (x15_1 + 1)) a0_0 a0_1 l0_2 l0_3 l1_0 l1_1) else (some false)))) else (none)) else (none)) = some r := by first | (rw [hj1] at H; exact H) | (simp only [hj1] at H ⊢; exact H)
          have hji30w : (IntKind.i64.wrap (x15_1 - 1)) = ji30 := (i64_w _).trans hj1
          by_cases c31 : 0 ≤ (ji30)
          ·rw [if_pos c31] at H
           have c31b0 := decide_eq_true c31
           clear c31
           by_cases c32 : (ji30) < (l1_1.length : Int)
           ·rw [if_pos c32] at H
            have c32b0 := decide_eq_true c32
            clear c32
            by_cases c33 : ((rd_T52 l1_1 (ji30)).f0) ≥ ((rd_T52 l1_1 x15_1).f0)
            ·rw [if_pos c33] at H
             have c33b0 : decide (((rd_T52 l1_1 x15_1).f0) ≤ ((rd_T52 l1_1 (ji30)).f0)) = true := decide_eq_true c33
             clear c33
             obtain rfl := Option.some.inj H
             have p356 : 0 ≤ (x15_1 : Int) := Sh.od
             have q356 : x15_1 < (l1_1.length : Int) := Sh.od
             obtain ⟨ad356, A356_1, c356_1, e356, hx356_0, hx356_1, hl356_1, hi356_1⟩ := at_T52 HR1_1.out x15_1 p356 q356
             cases e356
             try replace hx356_0 := Sh.cw hx356_0
             try replace hx356_1 := Sh.cw hx356_1
             have HR356_1 := am_ hi356_1
             have HC356_1 := am_ hl356_1
             clear hi356_1 hl356_1
             replace p356 := eq_true p356
             replace q356 := eq_true q356
             try go_wp2_with (first | ((with_reducible refine Sh.d 6 ?_); refine Sh.bx (N := 6) (cs := #[.int .i64 0, .slice none 0 0]) (t := 52) (h := ?_); intro gb357 hg w34 hbox hb; have BK357 := am_ hbox; have GE357 := Sh.ag w hg; replace HB := Sh.hb hb; have NB353_357 := am_ (Sh.nl hg BK353.out); have NB357_353 := am_ (Sh.ng hg BK353.out); replace BK353 := Sh.ab BK353 hb; have NB354_357 := am_ (Sh.nl hg BK354.out); have NB357_354 := am_ (Sh.ng hg BK354.out); replace BK354 := Sh.ab BK354 hb; clear hb hbox hg; have hnb35 := NB357_353.out; have hnc35 := NB353_357.out; have hnb36 := NB357_354.out; have hnc36 := NB354_357.out; obtain ⟨hcz37_0, hcz37_1, hfz37_0, hfz37_1⟩ := Sh.b2 BK357.out))
             have n0_ : Aside0 (((w34.setCell ⟨gb357, 0, none⟩ (.int .i64 ((rd_T52 l1_1 x15_1).f0))).setCell ⟨gb357, 1, none⟩ (.slice A356_1 ((rd_T52 l1_1 x15_1).f1).length c356_1)).heap[gb353]? = some (.cells #[.int .i64 a0_0, .int .i64 a0_1, .slice A0_2 l0_2.length c0_2, .slice A0_3 l0_3.length c0_3] 33 (0, 0))) := ⟨by refine Sh.pl ?_; refine blk_far ?_ NB353_357.out _; refine Sh.pl ?_; refine blk_far ?_ NB353_357.out _; refine Sh.pl ?_; exact BK353.out⟩
             have n1_ : Aside0 (((w34.setCell ⟨gb357, 0, none⟩ (.int .i64 ((rd_T52 l1_1 x15_1).f0))).setCell ⟨gb357, 1, none⟩ (.slice A356_1 ((rd_T52 l1_1 x15_1).f1).length c356_1)).heap[gb354]? = some (.cells #[.slice A1_0 l1_0.length c1_0, .slice (some ad356) l1_1.length c1_1] 50 (0, 0))) := ⟨by refine Sh.pl ?_; refine blk_far ?_ NB354_357.out _; refine Sh.pl ?_; refine blk_far ?_ NB354_357.out _; refine Sh.pl ?_; exact BK354.out⟩
             have n2_ : Aside0 (((w34.setCell ⟨gb357, 0, none⟩ (.int .i64 ((rd_T52 l1_1 x15_1).f0))).setCell ⟨gb357, 1, none⟩ (.slice A356_1 ((rd_T52 l1_1 x15_1).f1).length c356_1)).heap[gb357]? = some (.cells #[.int .i64 ((rd_T52 l1_1 x15_1).f0), .slice A356_1 ((rd_T52 l1_1 x15_1).f1).length c356_1] 52 (0, 0))) := ⟨by refine Sh.pl ?_; refine blk_put (cs := #[.int .i64 ((rd_T52 l1_1 x15_1).f0), .slice none 0 0]) ?_ 1 _ rfl; refine Sh.pl ?_; refine blk_put (cs := #[.int .i64 0, .slice none 0 0]) ?_ 0 _ rfl; refine Sh.pl ?_; exact BK357.out⟩
             have n3_ : Aside0 (Below w.heap.size w ((w34.setCell ⟨gb357, 0, none⟩ (.int .i64 ((rd_T52 l1_1 x15_1).f0))).setCell ⟨gb357, 1, none⟩ (.slice A356_1 ((rd_T52 l1_1 x15_1).f1).length c356_1))) := ⟨Sh.bw⟩
             (try clear BK353)
             (try clear BK354)
             (try clear BK357)
             (try clear HB)
             generalize ((w34.setCell ⟨gb357, 0, none⟩ (.int .i64 ((rd_T52 l1_1 x15_1).f0))).setCell ⟨gb357, 1, none⟩ (.slice A356_1 ((rd_T52 l1_1 x15_1).f1).length c356_1)) = w38 at n0_ n1_ n2_ n3_ ⊢
             have BK353 := n0_
             have BK354 := n1_
             have BK357 := n2_
             have HB := n3_
             clear n0_ n1_ n2_ n3_
             replace BK353 := am_ (blk_drew BK353.out)
             replace BK354 := am_ (blk_drew BK354.out)
             replace BK357 := am_ (blk_drew BK357.out)
             replace HB := am_ (below_drew1 HB.out)
             have p358 : 0 ≤ ((ji30) : Int) := Sh.od
             have q358 : (ji30) < (l1_1.length : Int) := Sh.od
             obtain ⟨ad358, A358_1, c358_1, e358, hx358_0, hx358_1, hl358_1, hi358_1⟩ := at_T52 HR1_1.out (ji30) p358 q358
             have hw358_1 := hx358_1
             have hw358_0 := hx358_0
             obtain rfl : ad356 = ad358 := (by injection e358)
             try replace hx358_0 := Sh.cw hx358_0
             try replace hx358_1 := Sh.cw hx358_1
             have HR358_1 := am_ hi358_1
             have HC358_1 := am_ hl358_1
             clear hi358_1 hl358_1
             replace p358 := eq_true p358
             replace q358 := eq_true q358
             refine start_ (n := 36) (S := fun w' => w'.cell? ⟨gb357, 0, none⟩ = some (.int .i64 ((rd_T52 l1_1 x15_1).f0)) ∧ w'.cell? ⟨gb357, 1, none⟩ = some (.slice A356_1 ((rd_T52 l1_1 x15_1).f1).length c356_1) ∧ w'.cell? ⟨gb353, 0, none⟩ = some (.int .i64 a0_0) ∧ w'.cell? ⟨gb353, 1, none⟩ = some (.int .i64 a0_1) ∧ w'.cell? ⟨gb353, 2, none⟩ = some (.slice A0_2 l0_2.length c0_2) ∧ w'.cell? ⟨gb353, 3, none⟩ = some (.slice A0_3 l0_3.length c0_3) ∧ w'.cell? ⟨gb354, 0, none⟩ = some (.slice A1_0 l1_0.length c1_0) ∧ w'.cell? ⟨gb354, 1, none⟩ = some (.slice (some ad356) l1_1.length c1_1) ∧ w'.cell? (ad356.add (((ji30)).toNat * 2)) = some (.int .i64 ((rd_T52 l1_1 (ji30)).f0)) ∧ w'.cell? ⟨(ad356.add (((ji30)).toNat * 2)).block, (ad356.add (((ji30)).toNat * 2)).off + 1, none⟩ = some (.slice A358_1 ((rd_T52 l1_1 (ji30)).f1).length c358_1)) (ds := []) (Sh.nm 36 0) (by kernel_rfl) rfl rfl Sh.cs (fun hHeld => ?_); refine with_tabW impl_Program_isCommand.tab6 impl_Program_isCommand.bits6 (fun HT_ HW_ => ?_)
             generalize w38.drew = w39 at BK353 BK354 BK357 HB HR358_1 hx358_0 hx358_1 hHeld ⊢
             refine Sh.qA 0 ?_; refine Sh.qT 1 hHeld ?_; refine Sh.qA 2 ?_; refine Sh.qA 3 ?_; refine Sh.qA 4 ?_; refine Sh.qA 6 ?_; refine Sh.qT 5 hHeld ?_; refine Sh.qT 7 hHeld ?_; refine Sh.qA 8 ?_; refine Sh.qA 9 ?_; refine Sh.qA 10 ?_; refine Sh.qA 11 ?_; refine Sh.qA 12 ?_; refine Sh.qA 13 ?_; refine Sh.qA 14 ?_; refine Sh.qA 16 ?_; refine Sh.qA 17 ?_; refine Sh.qA 21 ?_; refine Sh.qT 15 hHeld ?_; refine Sh.qA 18 ?_; refine Sh.qA 19 ?_; refine Sh.qT 20 hHeld ?_; refine Sh.qT 22 hHeld ?_; refine Sh.qA 23 ?_; refine Sh.qA 24 ?_; refine Sh.qA 25 ?_; refine Sh.qA 26 ?_; refine Sh.qU 27 ?_; refine Sh.qU 28 ?_; refine Sh.qU 29 ?_; refine Sh.qU 30 ?_; refine Sh.qU 31 ?_; refine Sh.qU 32 ?_; refine Sh.qU 33 ?_; refine Sh.qU 34 ?_; refine Sh.qA 35 ?_
             refine done_ (done_of HT_.out (by kernel_rfl)) ?_
             try go_wp2
             go_ret
             exact ⟨by first | rfl | (simp [errW_none, errW_some] <;> rfl) | (simp only [← hj1]; first | rfl | (simp [errW_none, errW_some] <;> rfl)) | (simp [*, errW_none, errW_some] <;> rfl), Sh.bw⟩
            ·rw [if_neg c33] at H
             have c33b0 : decide (((rd_T52 l1_1 x15_1).f0) ≤ ((rd_T52 l1_1 (ji30)).f0)) = false := decide_eq_false c33
             clear c33
             obtain ⟨t359, A40, H⟩ := Sh.ba H
             by_cases c41 : t359 = true
             ·subst c41
              rw [if_pos rfl] at H
              have H' := am_ H
              clear H
              have p356 : 0 ≤ (x15_1 : Int) := Sh.od
              have q356 : x15_1 < (l1_1.length : Int) := Sh.od
              obtain ⟨ad356, A356_1, c356_1, e356, hx356_0, hx356_1, hl356_1, hi356_1⟩ := at_T52 HR1_1.out x15_1 p356 q356
              cases e356
              try replace hx356_0 := Sh.cw hx356_0
              try replace hx356_1 := Sh.cw hx356_1
              have HR356_1 := am_ hi356_1
              have HC356_1 := am_ hl356_1
              clear hi356_1 hl356_1
              replace p356 := eq_true p356
              replace q356 := eq_true q356
              try go_wp2_with (first | ((with_reducible refine Sh.d 6 ?_); refine Sh.bx (N := 6) (cs := #[.int .i64 0, .slice none 0 0]) (t := 52) (h := ?_); intro gb357 hg w42 hbox hb; have BK357 := am_ hbox; have GE357 := Sh.ag w hg; replace HB := Sh.hb hb; have NB353_357 := am_ (Sh.nl hg BK353.out); have NB357_353 := am_ (Sh.ng hg BK353.out); replace BK353 := Sh.ab BK353 hb; have NB354_357 := am_ (Sh.nl hg BK354.out); have NB357_354 := am_ (Sh.ng hg BK354.out); replace BK354 := Sh.ab BK354 hb; clear hb hbox hg; have hnb43 := NB357_353.out; have hnc43 := NB353_357.out; have hnb44 := NB357_354.out; have hnc44 := NB354_357.out; obtain ⟨hcz45_0, hcz45_1, hfz45_0, hfz45_1⟩ := Sh.b2 BK357.out))
              have n0_ : Aside0 (((w42.setCell ⟨gb357, 0, none⟩ (.int .i64 ((rd_T52 l1_1 x15_1).f0))).setCell ⟨gb357, 1, none⟩ (.slice A356_1 ((rd_T52 l1_1 x15_1).f1).length c356_1)).heap[gb353]? = some (.cells #[.int .i64 a0_0, .int .i64 a0_1, .slice A0_2 l0_2.length c0_2, .slice A0_3 l0_3.length c0_3] 33 (0, 0))) := ⟨by refine Sh.pl ?_; refine blk_far ?_ NB353_357.out _; refine Sh.pl ?_; refine blk_far ?_ NB353_357.out _; refine Sh.pl ?_; exact BK353.out⟩
              have n1_ : Aside0 (((w42.setCell ⟨gb357, 0, none⟩ (.int .i64 ((rd_T52 l1_1 x15_1).f0))).setCell ⟨gb357, 1, none⟩ (.slice A356_1 ((rd_T52 l1_1 x15_1).f1).length c356_1)).heap[gb354]? = some (.cells #[.slice A1_0 l1_0.length c1_0, .slice (some ad356) l1_1.length c1_1] 50 (0, 0))) := ⟨by refine Sh.pl ?_; refine blk_far ?_ NB354_357.out _; refine Sh.pl ?_; refine blk_far ?_ NB354_357.out _; refine Sh.pl ?_; exact BK354.out⟩
              have n2_ : Aside0 (((w42.setCell ⟨gb357, 0, none⟩ (.int .i64 ((rd_T52 l1_1 x15_1).f0))).setCell ⟨gb357, 1, none⟩ (.slice A356_1 ((rd_T52 l1_1 x15_1).f1).length c356_1)).heap[gb357]? = some (.cells #[.int .i64 ((rd_T52 l1_1 x15_1).f0), .slice A356_1 ((rd_T52 l1_1 x15_1).f1).length c356_1] 52 (0, 0))) := ⟨by refine Sh.pl ?_; refine blk_put (cs := #[.int .i64 ((rd_T52 l1_1 x15_1).f0), .slice none 0 0]) ?_ 1 _ rfl; refine Sh.pl ?_; refine blk_put (cs := #[.int .i64 0, .slice none 0 0]) ?_ 0 _ rfl; refine Sh.pl ?_; exact BK357.out⟩
              have n3_ : Aside0 (Below w.heap.size w ((w42.setCell ⟨gb357, 0, none⟩ (.int .i64 ((rd_T52 l1_1 x15_1).f0))).setCell ⟨gb357, 1, none⟩ (.slice A356_1 ((rd_T52 l1_1 x15_1).f1).length c356_1))) := ⟨Sh.bw⟩
              (try clear BK353)
              (try clear BK354)
              (try clear BK357)
              (try clear HB)
              generalize ((w42.setCell ⟨gb357, 0, none⟩ (.int .i64 ((rd_T52 l1_1 x15_1).f0))).setCell ⟨gb357, 1, none⟩ (.slice A356_1 ((rd_T52 l1_1 x15_1).f1).length c356_1)) = w46 at n0_ n1_ n2_ n3_ ⊢
              have BK353 := n0_
              have BK354 := n1_
              have BK357 := n2_
              have HB := n3_
              clear n0_ n1_ n2_ n3_
              replace BK353 := am_ (blk_drew BK353.out)
              replace BK354 := am_ (blk_drew BK354.out)
              replace BK357 := am_ (blk_drew BK357.out)
              replace HB := am_ (below_drew1 HB.out)
              have p358 : 0 ≤ ((ji30) : Int) := Sh.od
              have q358 : (ji30) < (l1_1.length : Int) := Sh.od
              obtain ⟨ad358, A358_1, c358_1, e358, hx358_0, hx358_1, hl358_1, hi358_1⟩ := at_T52 HR1_1.out (ji30) p358 q358
              have hw358_1 := hx358_1
              have hw358_0 := hx358_0
              obtain rfl : ad356 = ad358 := (by injection e358)
              try replace hx358_0 := Sh.cw hx358_0
              try replace hx358_1 := Sh.cw hx358_1
              have HR358_1 := am_ hi358_1
              have HC358_1 := am_ hl358_1
              clear hi358_1 hl358_1
              replace p358 := eq_true p358
              replace q358 := eq_true q358
              refine start_ (n := 36) (S := fun w' => w'.cell? ⟨gb357, 0, none⟩ = some (.int .i64 ((rd_T52 l1_1 x15_1).f0)) ∧ w'.cell? ⟨gb357, 1, none⟩ = some (.slice A356_1 ((rd_T52 l1_1 x15_1).f1).length c356_1) ∧ w'.cell? ⟨gb353, 0, none⟩ = some (.int .i64 a0_0) ∧ w'.cell? ⟨gb353, 1, none⟩ = some (.int .i64 a0_1) ∧ w'.cell? ⟨gb353, 2, none⟩ = some (.slice A0_2 l0_2.length c0_2) ∧ w'.cell? ⟨gb353, 3, none⟩ = some (.slice A0_3 l0_3.length c0_3) ∧ w'.cell? ⟨gb354, 0, none⟩ = some (.slice A1_0 l1_0.length c1_0) ∧ w'.cell? ⟨gb354, 1, none⟩ = some (.slice (some ad356) l1_1.length c1_1) ∧ w'.cell? (ad356.add (((ji30)).toNat * 2)) = some (.int .i64 ((rd_T52 l1_1 (ji30)).f0)) ∧ w'.cell? ⟨(ad356.add (((ji30)).toNat * 2)).block, (ad356.add (((ji30)).toNat * 2)).off + 1, none⟩ = some (.slice A358_1 ((rd_T52 l1_1 (ji30)).f1).length c358_1)) (ds := []) (Sh.nm 36 0) (by kernel_rfl) rfl rfl Sh.cs (fun hHeld => ?_); refine with_tabW impl_Program_isCommand.tab6 impl_Program_isCommand.bits6 (fun HT_ HW_ => ?_)
              generalize w46.drew = w47 at BK353 BK354 BK357 HB HR358_1 hx358_0 hx358_1 hHeld ⊢
              refine Sh.qA 0 ?_; refine Sh.qT 1 hHeld ?_; refine Sh.qA 2 ?_; refine Sh.qA 3 ?_; refine Sh.qA 4 ?_; refine Sh.qA 6 ?_; refine Sh.qT 5 hHeld ?_; refine Sh.qT 7 hHeld ?_; refine Sh.qA 8 ?_; refine Sh.qA 9 ?_; refine Sh.qA 10 ?_; refine Sh.qA 11 ?_; refine Sh.qA 12 ?_; refine Sh.qA 13 ?_; refine Sh.qA 14 ?_; refine Sh.qA 16 ?_; refine Sh.qA 17 ?_; refine Sh.qA 21 ?_; refine Sh.qT 15 hHeld ?_; refine Sh.qA 18 ?_; refine Sh.qA 19 ?_; refine Sh.qT 20 hHeld ?_; refine Sh.qT 22 hHeld ?_; refine Sh.qA 23 ?_; refine Sh.qA 24 ?_; refine Sh.qA 25 ?_; refine Sh.qA 26 ?_; refine Sh.qA 27 ?_; refine Sh.qA 29 ?_; refine Sh.qA 31 ?_; refine Sh.qT 28 hHeld ?_; refine Sh.qT 30 hHeld ?_; refine Sh.qT 32 hHeld ?_
              refine Sh.oC 33 Try.func60 #[.int .i64 a0_0, .int .i64 a0_1, .slice A356_1 ((rd_T52 l1_1 x15_1).f1).length c356_1, .int .i64 1] fun K hK => ?_
              with_reducible refine (impl_isTermOf.calls k1 a0_0 a0_1 _ _ ((rd_T52 l1_1 x15_1).f1) 1 true _ (Sh.cB HR356_1.out) HC356_1.out A40.out).mono ?_
              rintro e w48 ⟨rfl, hb⟩
              refine ⟨_, rfl, ?_⟩
              replace BK353 := Sh.ab BK353 hb
              replace BK354 := Sh.ab BK354 hb
              replace BK357 := Sh.ab BK357 hb
              replace HB := Sh.hb hb
              (try clear hb)
              (try clear hb2)
              (try clear hk)
              (try clear hi)
              refine Sh.kN hK Sh.cs fun hHeld => ?_
              clear hK K
              refine Sh.qA 34 ?_; refine Sh.qA 35 ?_
              refine done_ (done_of HT_.out (by kernel_rfl)) ?_
              try go_wp2
              go_roundg k1
              case measure => have := HK1.out; omega
              case rel => exact ⟨(wrap64 (x15_1 + 1)), (Sh.es), H', ⟨by have := HK1.out; omega⟩, ⟨by refine Sh.pl ?_; exact BK353.out⟩, ⟨by refine Sh.pl ?_; exact BK354.out⟩, ⟨Sh.bw⟩⟩
             ·replace c41 := Bool.eq_false_iff.mpr c41
              subst c41
              rw [Sh.nf] at H
              obtain rfl := Option.some.inj H
              have p356 : 0 ≤ (x15_1 : Int) := Sh.od
              have q356 : x15_1 < (l1_1.length : Int) := Sh.od
              obtain ⟨ad356, A356_1, c356_1, e356, hx356_0, hx356_1, hl356_1, hi356_1⟩ := at_T52 HR1_1.out x15_1 p356 q356
              cases e356
              try replace hx356_0 := Sh.cw hx356_0
              try replace hx356_1 := Sh.cw hx356_1
              have HR356_1 := am_ hi356_1
              have HC356_1 := am_ hl356_1
              clear hi356_1 hl356_1
              replace p356 := eq_true p356
              replace q356 := eq_true q356
              try go_wp2_with (first | ((with_reducible refine Sh.d 6 ?_); refine Sh.bx (N := 6) (cs := #[.int .i64 0, .slice none 0 0]) (t := 52) (h := ?_); intro gb357 hg w49 hbox hb; have BK357 := am_ hbox; have GE357 := Sh.ag w hg; replace HB := Sh.hb hb; have NB353_357 := am_ (Sh.nl hg BK353.out); have NB357_353 := am_ (Sh.ng hg BK353.out); replace BK353 := Sh.ab BK353 hb; have NB354_357 := am_ (Sh.nl hg BK354.out); have NB357_354 := am_ (Sh.ng hg BK354.out); replace BK354 := Sh.ab BK354 hb; clear hb hbox hg; have hnb50 := NB357_353.out; have hnc50 := NB353_357.out; have hnb51 := NB357_354.out; have hnc51 := NB354_357.out; obtain ⟨hcz52_0, hcz52_1, hfz52_0, hfz52_1⟩ := Sh.b2 BK357.out))
              have n0_ : Aside0 (((w49.setCell ⟨gb357, 0, none⟩ (.int .i64 ((rd_T52 l1_1 x15_1).f0))).setCell ⟨gb357, 1, none⟩ (.slice A356_1 ((rd_T52 l1_1 x15_1).f1).length c356_1)).heap[gb353]? = some (.cells #[.int .i64 a0_0, .int .i64 a0_1, .slice A0_2 l0_2.length c0_2, .slice A0_3 l0_3.length c0_3] 33 (0, 0))) := ⟨by refine Sh.pl ?_; refine blk_far ?_ NB353_357.out _; refine Sh.pl ?_; refine blk_far ?_ NB353_357.out _; refine Sh.pl ?_; exact BK353.out⟩
              have n1_ : Aside0 (((w49.setCell ⟨gb357, 0, none⟩ (.int .i64 ((rd_T52 l1_1 x15_1).f0))).setCell ⟨gb357, 1, none⟩ (.slice A356_1 ((rd_T52 l1_1 x15_1).f1).length c356_1)).heap[gb354]? = some (.cells #[.slice A1_0 l1_0.length c1_0, .slice (some ad356) l1_1.length c1_1] 50 (0, 0))) := ⟨by refine Sh.pl ?_; refine blk_far ?_ NB354_357.out _; refine Sh.pl ?_; refine blk_far ?_ NB354_357.out _; refine Sh.pl ?_; exact BK354.out⟩
              have n2_ : Aside0 (((w49.setCell ⟨gb357, 0, none⟩ (.int .i64 ((rd_T52 l1_1 x15_1).f0))).setCell ⟨gb357, 1, none⟩ (.slice A356_1 ((rd_T52 l1_1 x15_1).f1).length c356_1)).heap[gb357]? = some (.cells #[.int .i64 ((rd_T52 l1_1 x15_1).f0), .slice A356_1 ((rd_T52 l1_1 x15_1).f1).length c356_1] 52 (0, 0))) := ⟨by refine Sh.pl ?_; refine blk_put (cs := #[.int .i64 ((rd_T52 l1_1 x15_1).f0), .slice none 0 0]) ?_ 1 _ rfl; refine Sh.pl ?_; refine blk_put (cs := #[.int .i64 0, .slice none 0 0]) ?_ 0 _ rfl; refine Sh.pl ?_; exact BK357.out⟩
              have n3_ : Aside0 (Below w.heap.size w ((w49.setCell ⟨gb357, 0, none⟩ (.int .i64 ((rd_T52 l1_1 x15_1).f0))).setCell ⟨gb357, 1, none⟩ (.slice A356_1 ((rd_T52 l1_1 x15_1).f1).length c356_1))) := ⟨Sh.bw⟩
              (try clear BK353)
              (try clear BK354)
              (try clear BK357)
              (try clear HB)
              generalize ((w49.setCell ⟨gb357, 0, none⟩ (.int .i64 ((rd_T52 l1_1 x15_1).f0))).setCell ⟨gb357, 1, none⟩ (.slice A356_1 ((rd_T52 l1_1 x15_1).f1).length c356_1)) = w53 at n0_ n1_ n2_ n3_ ⊢
              have BK353 := n0_
              have BK354 := n1_
              have BK357 := n2_
              have HB := n3_
              clear n0_ n1_ n2_ n3_
              replace BK353 := am_ (blk_drew BK353.out)
              replace BK354 := am_ (blk_drew BK354.out)
              replace BK357 := am_ (blk_drew BK357.out)
              replace HB := am_ (below_drew1 HB.out)
              have p358 : 0 ≤ ((ji30) : Int) := Sh.od
              have q358 : (ji30) < (l1_1.length : Int) := Sh.od
              obtain ⟨ad358, A358_1, c358_1, e358, hx358_0, hx358_1, hl358_1, hi358_1⟩ := at_T52 HR1_1.out (ji30) p358 q358
              have hw358_1 := hx358_1
              have hw358_0 := hx358_0
              obtain rfl : ad356 = ad358 := (by injection e358)
              try replace hx358_0 := Sh.cw hx358_0
              try replace hx358_1 := Sh.cw hx358_1
              have HR358_1 := am_ hi358_1
              have HC358_1 := am_ hl358_1
              clear hi358_1 hl358_1
              replace p358 := eq_true p358
              replace q358 := eq_true q358
              refine start_ (n := 36) (S := fun w' => w'.cell? ⟨gb357, 0, none⟩ = some (.int .i64 ((rd_T52 l1_1 x15_1).f0)) ∧ w'.cell? ⟨gb357, 1, none⟩ = some (.slice A356_1 ((rd_T52 l1_1 x15_1).f1).length c356_1) ∧ w'.cell? ⟨gb353, 0, none⟩ = some (.int .i64 a0_0) ∧ w'.cell? ⟨gb353, 1, none⟩ = some (.int .i64 a0_1) ∧ w'.cell? ⟨gb353, 2, none⟩ = some (.slice A0_2 l0_2.length c0_2) ∧ w'.cell? ⟨gb353, 3, none⟩ = some (.slice A0_3 l0_3.length c0_3) ∧ w'.cell? ⟨gb354, 0, none⟩ = some (.slice A1_0 l1_0.length c1_0) ∧ w'.cell? ⟨gb354, 1, none⟩ = some (.slice (some ad356) l1_1.length c1_1) ∧ w'.cell? (ad356.add (((ji30)).toNat * 2)) = some (.int .i64 ((rd_T52 l1_1 (ji30)).f0)) ∧ w'.cell? ⟨(ad356.add (((ji30)).toNat * 2)).block, (ad356.add (((ji30)).toNat * 2)).off + 1, none⟩ = some (.slice A358_1 ((rd_T52 l1_1 (ji30)).f1).length c358_1)) (ds := []) (Sh.nm 36 0) (by kernel_rfl) rfl rfl Sh.cs (fun hHeld => ?_); refine with_tabW impl_Program_isCommand.tab6 impl_Program_isCommand.bits6 (fun HT_ HW_ => ?_)
              generalize w53.drew = w54 at BK353 BK354 BK357 HB HR358_1 hx358_0 hx358_1 hHeld ⊢
              refine Sh.qA 0 ?_; refine Sh.qT 1 hHeld ?_; refine Sh.qA 2 ?_; refine Sh.qA 3 ?_; refine Sh.qA 4 ?_; refine Sh.qA 6 ?_; refine Sh.qT 5 hHeld ?_; refine Sh.qT 7 hHeld ?_; refine Sh.qA 8 ?_; refine Sh.qA 9 ?_; refine Sh.qA 10 ?_; refine Sh.qA 11 ?_; refine Sh.qA 12 ?_; refine Sh.qA 13 ?_; refine Sh.qA 14 ?_; refine Sh.qA 16 ?_; refine Sh.qA 17 ?_; refine Sh.qA 21 ?_; refine Sh.qT 15 hHeld ?_; refine Sh.qA 18 ?_; refine Sh.qA 19 ?_; refine Sh.qT 20 hHeld ?_; refine Sh.qT 22 hHeld ?_; refine Sh.qA 23 ?_; refine Sh.qA 24 ?_; refine Sh.qA 25 ?_; refine Sh.qA 26 ?_; refine Sh.qA 27 ?_; refine Sh.qA 29 ?_; refine Sh.qA 31 ?_; refine Sh.qT 28 hHeld ?_; refine Sh.qT 30 hHeld ?_; refine Sh.qT 32 hHeld ?_
              refine Sh.oC 33 Try.func60 #[.int .i64 a0_0, .int .i64 a0_1, .slice A356_1 ((rd_T52 l1_1 x15_1).f1).length c356_1, .int .i64 1] fun K hK => ?_
              with_reducible refine (impl_isTermOf.calls k1 a0_0 a0_1 _ _ ((rd_T52 l1_1 x15_1).f1) 1 false _ (Sh.cB HR356_1.out) HC356_1.out A40.out).mono ?_
              rintro e w55 ⟨rfl, hb⟩
              refine ⟨_, rfl, ?_⟩
              replace BK353 := Sh.ab BK353 hb
              replace BK354 := Sh.ab BK354 hb
              replace BK357 := Sh.ab BK357 hb
              replace HB := Sh.hb hb
              (try clear hb)
              (try clear hb2)
              (try clear hk)
              (try clear hi)
              refine Sh.kN hK Sh.cs fun hHeld => ?_
              clear hK K
              refine Sh.qA 34 ?_; refine Sh.qA 35 ?_
              refine done_ (done_of HT_.out (by kernel_rfl)) ?_
              try go_wp2
              go_ret
              exact ⟨by first | rfl | (simp [errW_none, errW_some] <;> rfl) | (simp only [← hj1]; first | rfl | (simp [errW_none, errW_some] <;> rfl)) | (simp [*, errW_none, errW_some] <;> rfl), Sh.bw⟩
           ·rw [if_neg c32] at H
            exact absurd H (by simp)
          ·rw [if_neg c31] at H
           exact absurd H (by simp)
         ·rw [if_neg c29] at H
          have c29b0 : decide (0 < x15_1) = false := decide_eq_false c29
          clear c29
          obtain ⟨t360, A56, H⟩ := Sh.ba H
          by_cases c57 : t360 = true
          ·subst c57
           rw [if_pos rfl] at H
           have H' := am_ H
           clear H
           have p356 : 0 ≤ (x15_1 : Int) := Sh.od
           have q356 : x15_1 < (l1_1.length : Int) := Sh.od
           obtain ⟨ad356, A356_1, c356_1, e356, hx356_0, hx356_1, hl356_1, hi356_1⟩ := at_T52 HR1_1.out x15_1 p356 q356
           cases e356
           try replace hx356_0 := Sh.cw hx356_0
           try replace hx356_1 := Sh.cw hx356_1
           have HR356_1 := am_ hi356_1
           have HC356_1 := am_ hl356_1
           clear hi356_1 hl356_1
           replace p356 := eq_true p356
           replace q356 := eq_true q356
           try go_wp2_with (first | ((with_reducible refine Sh.d 6 ?_); refine Sh.bx (N := 6) (cs := #[.int .i64 0, .slice none 0 0]) (t := 52) (h := ?_); intro gb357 hg w58 hbox hb; have BK357 := am_ hbox; have GE357 := Sh.ag w hg; replace HB := Sh.hb hb; have NB353_357 := am_ (Sh.nl hg BK353.out); have NB357_353 := am_ (Sh.ng hg BK353.out); replace BK353 := Sh.ab BK353 hb; have NB354_357 := am_ (Sh.nl hg BK354.out); have NB357_354 := am_ (Sh.ng hg BK354.out); replace BK354 := Sh.ab BK354 hb; clear hb hbox hg; have hnb59 := NB357_353.out; have hnc59 := NB353_357.out; have hnb60 := NB357_354.out; have hnc60 := NB354_357.out; obtain ⟨hcz61_0, hcz61_1, hfz61_0, hfz61_1⟩ := Sh.b2 BK357.out))
           have n0_ : Aside0 (((w58.setCell ⟨gb357, 0, none⟩ (.int .i64 ((rd_T52 l1_1 x15_1).f0))).setCell ⟨gb357, 1, none⟩ (.slice A356_1 ((rd_T52 l1_1 x15_1).f1).length c356_1)).heap[gb353]? = some (.cells #[.int .i64 a0_0, .int .i64 a0_1, .slice A0_2 l0_2.length c0_2, .slice A0_3 l0_3.length c0_3] 33 (0, 0))) := ⟨by refine Sh.pl ?_; refine blk_far ?_ NB353_357.out _; refine Sh.pl ?_; refine blk_far ?_ NB353_357.out _; refine Sh.pl ?_; exact BK353.out⟩
           have n1_ : Aside0 (((w58.setCell ⟨gb357, 0, none⟩ (.int .i64 ((rd_T52 l1_1 x15_1).f0))).setCell ⟨gb357, 1, none⟩ (.slice A356_1 ((rd_T52 l1_1 x15_1).f1).length c356_1)).heap[gb354]? = some (.cells #[.slice A1_0 l1_0.length c1_0, .slice (some ad356) l1_1.length c1_1] 50 (0, 0))) := ⟨by refine Sh.pl ?_; refine blk_far ?_ NB354_357.out _; refine Sh.pl ?_; refine blk_far ?_ NB354_357.out _; refine Sh.pl ?_; exact BK354.out⟩
           have n2_ : Aside0 (((w58.setCell ⟨gb357, 0, none⟩ (.int .i64 ((rd_T52 l1_1 x15_1).f0))).setCell ⟨gb357, 1, none⟩ (.slice A356_1 ((rd_T52 l1_1 x15_1).f1).length c356_1)).heap[gb357]? = some (.cells #[.int .i64 ((rd_T52 l1_1 x15_1).f0), .slice A356_1 ((rd_T52 l1_1 x15_1).f1).length c356_1] 52 (0, 0))) := ⟨by refine Sh.pl ?_; refine blk_put (cs := #[.int .i64 ((rd_T52 l1_1 x15_1).f0), .slice none 0 0]) ?_ 1 _ rfl; refine Sh.pl ?_; refine blk_put (cs := #[.int .i64 0, .slice none 0 0]) ?_ 0 _ rfl; refine Sh.pl ?_; exact BK357.out⟩
           have n3_ : Aside0 (Below w.heap.size w ((w58.setCell ⟨gb357, 0, none⟩ (.int .i64 ((rd_T52 l1_1 x15_1).f0))).setCell ⟨gb357, 1, none⟩ (.slice A356_1 ((rd_T52 l1_1 x15_1).f1).length c356_1))) := ⟨Sh.bw⟩
           (try clear BK353)
           (try clear BK354)
           (try clear BK357)
           (try clear HB)
           generalize ((w58.setCell ⟨gb357, 0, none⟩ (.int .i64 ((rd_T52 l1_1 x15_1).f0))).setCell ⟨gb357, 1, none⟩ (.slice A356_1 ((rd_T52 l1_1 x15_1).f1).length c356_1)) = w62 at n0_ n1_ n2_ n3_ ⊢
           have BK353 := n0_
           have BK354 := n1_
           have BK357 := n2_
           have HB := n3_
           clear n0_ n1_ n2_ n3_
           replace BK353 := am_ (blk_drew BK353.out)
           replace BK354 := am_ (blk_drew BK354.out)
           replace BK357 := am_ (blk_drew BK357.out)
           replace HB := am_ (below_drew1 HB.out)
           refine start_ (n := 36) (S := fun w' => w'.cell? ⟨gb357, 0, none⟩ = some (.int .i64 ((rd_T52 l1_1 x15_1).f0)) ∧ w'.cell? ⟨gb357, 1, none⟩ = some (.slice A356_1 ((rd_T52 l1_1 x15_1).f1).length c356_1) ∧ w'.cell? ⟨gb353, 0, none⟩ = some (.int .i64 a0_0) ∧ w'.cell? ⟨gb353, 1, none⟩ = some (.int .i64 a0_1) ∧ w'.cell? ⟨gb353, 2, none⟩ = some (.slice A0_2 l0_2.length c0_2) ∧ w'.cell? ⟨gb353, 3, none⟩ = some (.slice A0_3 l0_3.length c0_3)) (ds := []) (Sh.nm 36 0) (by kernel_rfl) rfl rfl Sh.cs (fun hHeld => ?_); refine with_tabW impl_Program_isCommand.tab6 impl_Program_isCommand.bits6 (fun HT_ HW_ => ?_)
           generalize w62.drew = w63 at BK353 BK354 BK357 HB hHeld ⊢
           refine Sh.qA 0 ?_; refine Sh.qT 1 hHeld ?_; refine Sh.qA 2 ?_; refine Sh.qA 3 ?_; refine Sh.qA 4 ?_; refine Sh.qA 6 ?_; refine Sh.qT 5 hHeld ?_; refine Sh.qT 7 hHeld ?_; refine Sh.qA 8 ?_; refine Sh.qA 9 ?_; refine Sh.qA 10 ?_; refine Sh.qA 11 ?_; refine Sh.qA 12 ?_; refine Sh.qA 13 ?_; refine Sh.qU 14 ?_; refine Sh.qU 15 ?_; refine Sh.qU 16 ?_; refine Sh.qU 17 ?_; refine Sh.qU 18 ?_; refine Sh.qU 19 ?_; refine Sh.qU 20 ?_; refine Sh.qU 21 ?_; refine Sh.qU 22 ?_; refine Sh.qU 23 ?_; refine Sh.qA 24 ?_; refine Sh.qA 25 ?_; refine Sh.qA 26 ?_; refine Sh.qA 27 ?_; refine Sh.qA 29 ?_; refine Sh.qA 31 ?_; refine Sh.qT 28 hHeld ?_; refine Sh.qT 30 hHeld ?_; refine Sh.qT 32 hHeld ?_
           refine Sh.oC 33 Try.func60 #[.int .i64 a0_0, .int .i64 a0_1, .slice A356_1 ((rd_T52 l1_1 x15_1).f1).length c356_1, .int .i64 1] fun K hK => ?_
           with_reducible refine (impl_isTermOf.calls k1 a0_0 a0_1 _ _ ((rd_T52 l1_1 x15_1).f1) 1 true _ (Sh.cB HR356_1.out) HC356_1.out A56.out).mono ?_
           rintro e w64 ⟨rfl, hb⟩
           refine ⟨_, rfl, ?_⟩
           replace BK353 := Sh.ab BK353 hb
           replace BK354 := Sh.ab BK354 hb
           replace BK357 := Sh.ab BK357 hb
           replace HB := Sh.hb hb
           (try clear hb)
           (try clear hb2)
           (try clear hk)
           (try clear hi)
           refine Sh.kN hK Sh.cs fun hHeld => ?_
           clear hK K
           refine Sh.qA 34 ?_; refine Sh.qA 35 ?_
           refine done_ (done_of HT_.out (by kernel_rfl)) ?_
           try go_wp2
           go_roundg k1
           case measure => have := HK1.out; omega
           case rel => exact ⟨(wrap64 (x15_1 + 1)), (Sh.es), H', ⟨by have := HK1.out; omega⟩, ⟨by refine Sh.pl ?_; exact BK353.out⟩, ⟨by refine Sh.pl ?_; exact BK354.out⟩, ⟨Sh.bw⟩⟩
          ·replace c57 := Bool.eq_false_iff.mpr c57
           subst c57
           rw [Sh.nf] at H
           obtain rfl := Option.some.inj H
           have p356 : 0 ≤ (x15_1 : Int) := Sh.od
           have q356 : x15_1 < (l1_1.length : Int) := Sh.od
           obtain ⟨ad356, A356_1, c356_1, e356, hx356_0, hx356_1, hl356_1, hi356_1⟩ := at_T52 HR1_1.out x15_1 p356 q356
           cases e356
           try replace hx356_0 := Sh.cw hx356_0
           try replace hx356_1 := Sh.cw hx356_1
           have HR356_1 := am_ hi356_1
           have HC356_1 := am_ hl356_1
           clear hi356_1 hl356_1
           replace p356 := eq_true p356
           replace q356 := eq_true q356
           try go_wp2_with (first | ((with_reducible refine Sh.d 6 ?_); refine Sh.bx (N := 6) (cs := #[.int .i64 0, .slice none 0 0]) (t := 52) (h := ?_); intro gb357 hg w65 hbox hb; have BK357 := am_ hbox; have GE357 := Sh.ag w hg; replace HB := Sh.hb hb; have NB353_357 := am_ (Sh.nl hg BK353.out); have NB357_353 := am_ (Sh.ng hg BK353.out); replace BK353 := Sh.ab BK353 hb; have NB354_357 := am_ (Sh.nl hg BK354.out); have NB357_354 := am_ (Sh.ng hg BK354.out); replace BK354 := Sh.ab BK354 hb; clear hb hbox hg; have hnb66 := NB357_353.out; have hnc66 := NB353_357.out; have hnb67 := NB357_354.out; have hnc67 := NB354_357.out; obtain ⟨hcz68_0, hcz68_1, hfz68_0, hfz68_1⟩ := Sh.b2 BK357.out))
           have n0_ : Aside0 (((w65.setCell ⟨gb357, 0, none⟩ (.int .i64 ((rd_T52 l1_1 x15_1).f0))).setCell ⟨gb357, 1, none⟩ (.slice A356_1 ((rd_T52 l1_1 x15_1).f1).length c356_1)).heap[gb353]? = some (.cells #[.int .i64 a0_0, .int .i64 a0_1, .slice A0_2 l0_2.length c0_2, .slice A0_3 l0_3.length c0_3] 33 (0, 0))) := ⟨by refine Sh.pl ?_; refine blk_far ?_ NB353_357.out _; refine Sh.pl ?_; refine blk_far ?_ NB353_357.out _; refine Sh.pl ?_; exact BK353.out⟩
           have n1_ : Aside0 (((w65.setCell ⟨gb357, 0, none⟩ (.int .i64 ((rd_T52 l1_1 x15_1).f0))).setCell ⟨gb357, 1, none⟩ (.slice A356_1 ((rd_T52 l1_1 x15_1).f1).length c356_1)).heap[gb354]? = some (.cells #[.slice A1_0 l1_0.length c1_0, .slice (some ad356) l1_1.length c1_1] 50 (0, 0))) := ⟨by refine Sh.pl ?_; refine blk_far ?_ NB354_357.out _; refine Sh.pl ?_; refine blk_far ?_ NB354_357.out _; refine Sh.pl ?_; exact BK354.out⟩
           have n2_ : Aside0 (((w65.setCell ⟨gb357, 0, none⟩ (.int .i64 ((rd_T52 l1_1 x15_1).f0))).setCell ⟨gb357, 1, none⟩ (.slice A356_1 ((rd_T52 l1_1 x15_1).f1).length c356_1)).heap[gb357]? = some (.cells #[.int .i64 ((rd_T52 l1_1 x15_1).f0), .slice A356_1 ((rd_T52 l1_1 x15_1).f1).length c356_1] 52 (0, 0))) := ⟨by refine Sh.pl ?_; refine blk_put (cs := #[.int .i64 ((rd_T52 l1_1 x15_1).f0), .slice none 0 0]) ?_ 1 _ rfl; refine Sh.pl ?_; refine blk_put (cs := #[.int .i64 0, .slice none 0 0]) ?_ 0 _ rfl; refine Sh.pl ?_; exact BK357.out⟩
           have n3_ : Aside0 (Below w.heap.size w ((w65.setCell ⟨gb357, 0, none⟩ (.int .i64 ((rd_T52 l1_1 x15_1).f0))).setCell ⟨gb357, 1, none⟩ (.slice A356_1 ((rd_T52 l1_1 x15_1).f1).length c356_1))) := ⟨Sh.bw⟩
           (try clear BK353)
           (try clear BK354)
           (try clear BK357)
           (try clear HB)
           generalize ((w65.setCell ⟨gb357, 0, none⟩ (.int .i64 ((rd_T52 l1_1 x15_1).f0))).setCell ⟨gb357, 1, none⟩ (.slice A356_1 ((rd_T52 l1_1 x15_1).f1).length c356_1)) = w69 at n0_ n1_ n2_ n3_ ⊢
           have BK353 := n0_
           have BK354 := n1_
           have BK357 := n2_
           have HB := n3_
           clear n0_ n1_ n2_ n3_
           replace BK353 := am_ (blk_drew BK353.out)
           replace BK354 := am_ (blk_drew BK354.out)
           replace BK357 := am_ (blk_drew BK357.out)
           replace HB := am_ (below_drew1 HB.out)
           refine start_ (n := 36) (S := fun w' => w'.cell? ⟨gb357, 0, none⟩ = some (.int .i64 ((rd_T52 l1_1 x15_1).f0)) ∧ w'.cell? ⟨gb357, 1, none⟩ = some (.slice A356_1 ((rd_T52 l1_1 x15_1).f1).length c356_1) ∧ w'.cell? ⟨gb353, 0, none⟩ = some (.int .i64 a0_0) ∧ w'.cell? ⟨gb353, 1, none⟩ = some (.int .i64 a0_1) ∧ w'.cell? ⟨gb353, 2, none⟩ = some (.slice A0_2 l0_2.length c0_2) ∧ w'.cell? ⟨gb353, 3, none⟩ = some (.slice A0_3 l0_3.length c0_3)) (ds := []) (Sh.nm 36 0) (by kernel_rfl) rfl rfl Sh.cs (fun hHeld => ?_); refine with_tabW impl_Program_isCommand.tab6 impl_Program_isCommand.bits6 (fun HT_ HW_ => ?_)
           generalize w69.drew = w70 at BK353 BK354 BK357 HB hHeld ⊢
           refine Sh.qA 0 ?_; refine Sh.qT 1 hHeld ?_; refine Sh.qA 2 ?_; refine Sh.qA 3 ?_; refine Sh.qA 4 ?_; refine Sh.qA 6 ?_; refine Sh.qT 5 hHeld ?_; refine Sh.qT 7 hHeld ?_; refine Sh.qA 8 ?_; refine Sh.qA 9 ?_; refine Sh.qA 10 ?_; refine Sh.qA 11 ?_; refine Sh.qA 12 ?_; refine Sh.qA 13 ?_; refine Sh.qU 14 ?_; refine Sh.qU 15 ?_; refine Sh.qU 16 ?_; refine Sh.qU 17 ?_; refine Sh.qU 18 ?_; refine Sh.qU 19 ?_; refine Sh.qU 20 ?_; refine Sh.qU 21 ?_; refine Sh.qU 22 ?_; refine Sh.qU 23 ?_; refine Sh.qA 24 ?_; refine Sh.qA 25 ?_; refine Sh.qA 26 ?_; refine Sh.qA 27 ?_; refine Sh.qA 29 ?_; refine Sh.qA 31 ?_; refine Sh.qT 28 hHeld ?_; refine Sh.qT 30 hHeld ?_; refine Sh.qT 32 hHeld ?_
           refine Sh.oC 33 Try.func60 #[.int .i64 a0_0, .int .i64 a0_1, .slice A356_1 ((rd_T52 l1_1 x15_1).f1).length c356_1, .int .i64 1] fun K hK => ?_
           with_reducible refine (impl_isTermOf.calls k1 a0_0 a0_1 _ _ ((rd_T52 l1_1 x15_1).f1) 1 false _ (Sh.cB HR356_1.out) HC356_1.out A56.out).mono ?_
           rintro e w71 ⟨rfl, hb⟩
           refine ⟨_, rfl, ?_⟩
           replace BK353 := Sh.ab BK353 hb
           replace BK354 := Sh.ab BK354 hb
           replace BK357 := Sh.ab BK357 hb
           replace HB := Sh.hb hb
           (try clear hb)
           (try clear hb2)
           (try clear hk)
           (try clear hi)
           refine Sh.kN hK Sh.cs fun hHeld => ?_
           clear hK K
           refine Sh.qA 34 ?_; refine Sh.qA 35 ?_
           refine done_ (done_of HT_.out (by kernel_rfl)) ?_
           try go_wp2
           go_ret
           exact ⟨Sh.eR, Sh.bw⟩
      ·rw [if_neg c14] at H
       exact absurd H (by simp)
     ·rw [if_neg c13] at H
      exact absurd H (by simp)
    ·rw [if_neg c12] at H
     have c12b0 := decide_eq_false c12
     clear c12
     obtain rfl := Option.some.inj H
     go_wp2
     go_ret
     exact ⟨Sh.eR, Sh.bw⟩
 ·replace c4 := Bool.eq_false_iff.mpr c4
  subst c4
  rw [Sh.nf] at H
  obtain rfl := Option.some.inj H
  go_enter Try.func48, Try.ntmps48
  go_wp2_with (first | ((with_reducible refine Sh.d 2 ?_); refine Sh.bz w (N := 2) (cs := #[.int .i64 a0_0, .int .i64 a0_1, .slice A0_2 l0_2.length c0_2, .slice A0_3 l0_3.length c0_3]) (t := 33) (h := ?_); clear HB; intro gb353 w72 BK353 GE353 HB) | ((with_reducible refine Sh.d 3 ?_); refine Sh.bx (N := 3) (cs := #[.slice A1_0 l1_0.length c1_0, .slice A1_1 l1_1.length c1_1]) (t := 50) (h := ?_); intro gb354 hg w73 hbox hb; have BK354 := am_ hbox; have GE354 := Sh.ag w hg; replace HB := Sh.hb hb; have NB353_354 := am_ (Sh.nl hg BK353.out); have NB354_353 := am_ (Sh.ng hg BK353.out); replace BK353 := Sh.ab BK353 hb; clear hb hbox hg; have hnb74 := NB353_354.out; have hnc74 := NB354_353.out; obtain ⟨hcz75_0, hcz75_1, hcz75_2, hcz75_3, hfz75_0, hfz75_1, hfz75_2, hfz75_3⟩ := Sh.b4 BK353.out; obtain ⟨hcz76_0, hcz76_1, hfz76_0, hfz76_1⟩ := Sh.b2 BK354.out) | ((with_reducible refine Sh.k 45 ?_); refine Sh.gB (some 10) Try.func45 #[.agg #[.int .i64 a0_0, .int .i64 a0_1, .slice A0_2 l0_2.length c0_2, .slice A0_3 l0_3.length c0_3], .slice A1_0 l1_0.length c1_0] (impl_Program_isCondition.calls k a0_0 a0_1 _ _ l0_2 _ _ l0_3 _ _ l1_0 false _ (Sh.cB HR0_2.out) HC0_2.out (Sh.cB HR0_3.out) HC0_3.out (Sh.cB HR1_0.out) HC1_0.out A3.out) fun w77 hb => ?_; replace BK353 := Sh.ab BK353 hb; replace BK354 := Sh.ab BK354 hb; replace HB := Sh.hb hb; (try clear hb); (try clear hb2); (try clear hk); (try clear hi)))
  go_ret
  exact ⟨Sh.eR, Sh.bw⟩
end Go.Proofs.Ytjenmoopbmklfaa.P
