/- Go functions of this seat as Lean functions, and the proofs that the calls come to what these say; printed by a program of this session. No condition. -/
import Derived.Test.YtjenmoopbmklfaaP0
import Derived.Test.YtjenmoopbmklfaaMFnExactTouchedBy5
set_option linter.unusedVariables false
set_option linter.unusedSimpArgs false
set_option maxHeartbeats 40000000
set_option maxRecDepth 100000
namespace Go.Proofs.Ytjenmoopbmklfaa.P
open Go.RowKit Go.Proofs.YtjenmoopbmklfaaW.PrintWords Go.Proofs.YtjenmoopbmklfaaW.PrintLast Go.Proofs.YtjenmoopbmklfaaW.PrintMore Go.Proofs.Ytjenmoopbmklfaa.Hof
attribute [local go_sem] max2_int min2_int max_two min_two max_three min_three max_four min_four
mutual
def impl_TouchedBy.j0 : Nat → Int → Bool → Int → Int → List (S73) → List (S50) → Option (List Int × List Int × Bool)
 | 0, _, _, _, _, _, _ => none
 | k + 1, x1, x20, x504000, x504001, x504002, x504003 => if x20 = true then (some (([] : List Int), ([] : List Int), false)) else (if 0 ≤ x1 then (if x1 < (x504003.length : Int) then ((impl_varsIn.f k ((rd_T50 x504003 x1).f0)).bind fun t508 => (impl_TouchedBy.l0 k t508 (([] : List Int)) ((rd_T50 x504003 x1).f1) (((rd_T50 x504003 x1).f1).length : Int) 0)) else (none)) else (none))
def impl_TouchedBy.l0 : Nat → List Int → List Int → List (S52) → Int → Int → Option (List Int × List Int × Bool)
 | 0, _, _, _, _, _ => none
 | k + 1, x8, x9, x31, x32, x33 => if x33 < x32 then (if 0 ≤ x33 then (if x33 < (x31.length : Int) then ((impl_varsIn.f k ((rd_T52 x31 x33).f1)).bind fun t516 => (if x8.length + t516.length < 17592186044416 then ((some (([(rd_T52 x31 x33).f0] : List Int) : List Int)).bind fun y522 => (if x9.length + y522.length < 17592186044416 then (impl_TouchedBy.l0 k (x8 ++ t516) (x9 ++ y522) x31 x32 (wrap64 (x33 + 1))) else (none))) else (none))) else (none)) else (none)) else ((slices_Sort_int_int.f x8).bind fun t528 => ((slices_Compact_int_int.f t528).bind fun t529 => (some (t529, x9, true))))
end
def impl_TouchedBy.f (k : Nat) (a0_0 : Int) (a0_1 : Int) (l0_2 : List (S73)) (l0_3 : List (S50)) (a1 : Int) : Option (List Int × List Int × Bool) := (impl_GoodProgram.f k a0_0 a0_1 l0_2 l0_3).bind fun t504 => (if t504 = true then ((impl_Program_isCommandNo.f a0_0 a0_1 l0_2 l0_3 a1).bind fun t505 => (impl_TouchedBy.j0 k a1 (!t505) a0_0 a0_1 l0_2 l0_3)) else (impl_TouchedBy.j0 k a1 true a0_0 a0_1 l0_2 l0_3))
theorem impl_TouchedBy.mono_l : ∀ k, (∀ y0 y1 y2 y3 y4 y5, LeO (impl_TouchedBy.j0 k y0 y1 y2 y3 y4 y5) (impl_TouchedBy.j0 (k + 1) y0 y1 y2 y3 y4 y5)) ∧ (∀ y0 y1 y2 y3 y4, LeO (impl_TouchedBy.l0 k y0 y1 y2 y3 y4) (impl_TouchedBy.l0 (k + 1) y0 y1 y2 y3 y4))
 | 0 => ⟨fun _ _ _ _ _ _ r h => by simp [impl_TouchedBy.j0] at h, fun _ _ _ _ _ r h => by simp [impl_TouchedBy.l0] at h⟩
 | k + 1 => by
  obtain ⟨ih0, ih1⟩ := impl_TouchedBy.mono_l k
  and_intros <;> intros
  all_goals (first | unfold impl_TouchedBy.j0 | unfold impl_TouchedBy.l0)
  all_goals repeat' with_reducible first | apply ih0 | apply ih1 | apply impl_GoodProgram.mono | apply impl_varsIn.mono | exact LeO.refl _ | exact LeO.none _ | apply LeO.ite | refine LeO.bind ?_ fun _ => ?_
theorem impl_TouchedBy.mono : ∀ a0 a1 a2 a3 a4 k, LeO (impl_TouchedBy.f k a0 a1 a2 a3 a4) (impl_TouchedBy.f (k + 1) a0 a1 a2 a3 a4) := by
 intro a0 a1 a2 a3 a4 k
 obtain ⟨ih0, ih1⟩ := impl_TouchedBy.mono_l k
 unfold impl_TouchedBy.f
 repeat' with_reducible first | apply ih0 | apply ih1 | apply impl_GoodProgram.mono | apply impl_varsIn.mono | exact LeO.refl _ | exact LeO.none _ | apply LeO.ite | refine LeO.bind ?_ fun _ => ?_
def impl_TouchedBy.T8 : Bool × List (List Nat × List Nat) := (true, [([], []), ([], []), ([1], [1]), ([2], [2]), ([0, 3, 3], [0, 3]), ([], []), ([], []), ([6], [6]), ([7], [7]), ([5, 8, 4], [5, 8]), ([4, 9, 0, 1, 2, 3, 4], [0, 4]), ([9, 10, 0, 1, 2, 3, 4, 5, 6, 7, 8, 9, 10], [5, 9])])
def impl_TouchedBy.B8 : List Nat := [0, 0, 2, 6, 15, 0, 0, 64, 192, 511, 1023, 2047]
theorem impl_TouchedBy.tab8 : rtab .any (opsOf Try.f8 8) = impl_TouchedBy.T8 := by kernel_rfl
theorem impl_TouchedBy.bits8 : waitsOk impl_TouchedBy.T8.2 impl_TouchedBy.B8 = true := by kernel_rfl
theorem impl_TouchedBy.calls (k : Nat) (a0_0 : Int) (a0_1 : Int) (A0_2 : Option Addr) (c0_2 : Nat) (l0_2 : List (S73)) (A0_3 : Option Addr) (c0_3 : Nat) (l0_3 : List (S50)) (a1 : Int) (r1 : List Int) (r2 : List Int) (r3 : Bool) (w : World) (hr0_2 : Kd.C k73 w A0_2 l0_2.length l0_2) (hc0_2 : l0_2.length ≤ c0_2) (hr0_3 : Kd.C k50 w A0_3 l0_3.length l0_3) (hc0_3 : l0_3.length ≤ c0_3) (h : impl_TouchedBy.f k a0_0 a0_1 l0_2 l0_3 a1 = some (r1, r2, r3)) :
  Calls Try.prog 8 #[.agg #[.int .i64 a0_0, .int .i64 a0_1, .slice A0_2 l0_2.length c0_2, .slice A0_3 l0_3.length c0_3], .int .i64 a1] w fun e w' => ∃ v0_ v1_ : Value, e = .returned (.tuple #[v0_, v1_, .bool r3]) ∧ Kd.R (Kd.int .i64) 3 w' w.heap.size (fun k_ => some k_ ≠ (v1_ : Value).ownBlock) v0_ r1 ∧ Kd.R (Kd.int .i64) 3 w' w.heap.size (fun k_ => some k_ ≠ (v0_ : Value).ownBlock) v1_ r2 ∧ Below w.heap.size w w' := by
 have hu33 := Try.underlying33
 have hu50 := Try.underlying50
 have hu52 := Try.underlying52
 have HR0_2 := am_ hr0_2
 have HC0_2 := am_ hc0_2
 clear hr0_2 hc0_2
 have HR0_3 := am_ hr0_3
 have HC0_3 := am_ hc0_3
 clear hr0_3 hc0_3
 have HB := am_ (Below.refl w.heap.size w)
 have H := h
 clear h
 unfold impl_TouchedBy.f at H
 have HC3 := am_ H
 clear H
 go_enter Try.func8, Try.ntmps8
 go_upto_region 1 with (first | ((with_reducible refine Sh.d 2 ?_); refine Sh.bz w (N := 2) (cs := #[.int .i64 a0_0, .int .i64 a0_1, .slice A0_2 l0_2.length c0_2, .slice A0_3 l0_3.length c0_3]) (t := 33) (h := ?_); clear HB; intro gb503 w4 BK503 GE503 HB))
 (try simp only [Act.put, List.setIfInBounds_toArray, List.set_cons_zero, List.set_cons_succ])
 go_cut [20] (fun v20 wc => ∃ (kq : Nat) (x20_2 : Bool), v20 = .bool x20_2 ∧ Aside0 (impl_TouchedBy.j0 kq a1 x20_2 a0_0 a0_1 l0_2 l0_3 = some (r1, r2, r3)) ∧ Aside0 (kq ≤ k) ∧ Aside0 (wc.heap[gb503]? = some (.cells #[.int .i64 a0_0, .int .i64 a0_1, (.slice A0_2 l0_2.length c0_2), (.slice A0_3 l0_3.length c0_3)] 33 (0, 0))) ∧ Aside0 (Below w.heap.size w wc))
 case first =>
  have H := HC3.out
  clear HC3
  obtain ⟨t504, A5, H⟩ := Sh.ba H
  by_cases c6 : t504 = true
  ·subst c6
   rw [if_pos rfl] at H
   obtain ⟨t505, A7, H⟩ := Sh.ba H
   have H' := am_ H
   clear H
   have hcz8_0 := Sh.bc BK503.out 0
   have hcz8_1 := Sh.bc BK503.out 1
   have hcz8_2 := Sh.bc BK503.out 2
   have hcz8_3 := Sh.bc BK503.out 3
   have hfz8_0 := blk_frozen BK503.out 0
   have hfz8_1 := blk_frozen BK503.out 1
   have hfz8_2 := blk_frozen BK503.out 2
   have hfz8_3 := blk_frozen BK503.out 3
   go_wp2_with (first | ((with_reducible refine Sh.k 24 ?_); refine Sh.gB (some 13) Try.func24 #[.agg #[.int .i64 a0_0, .int .i64 a0_1, .slice A0_2 l0_2.length c0_2, .slice A0_3 l0_3.length c0_3]] (impl_GoodProgram.calls k a0_0 a0_1 _ _ l0_2 _ _ l0_3 true _ (Sh.cB HR0_2.out) HC0_2.out (Sh.cB HR0_3.out) HC0_3.out A5.out) fun w9 hb => ?_; replace BK503 := Sh.ab BK503 hb; replace HB := Sh.hb hb; (try clear hb); (try clear hb2); (try clear hk); (try clear hi); obtain ⟨hcz10_0, hcz10_1, hcz10_2, hcz10_3, hfz10_0, hfz10_1, hfz10_2, hfz10_3⟩ := Sh.b4 BK503.out) | (go_at_call 25; (with_reducible refine (impl_Program_isCommandNo.calls a0_0 a0_1 _ _ l0_2 _ _ l0_3 a1 t505 _ (Sh.cB HR0_2.out) HC0_2.out (Sh.cB HR0_3.out) HC0_3.out A7.out).mono ?_); rintro e w11 ⟨rfl, hb⟩; replace BK503 := Sh.ab BK503 hb; replace HB := Sh.hb hb; (try clear hb); (try clear hb2); (try clear hk); (try clear hi)))
   go_meet
   case rel => exact ⟨_, (!t505), (Sh.es), H', ⟨Sh.om⟩, ⟨by refine Sh.pl ?_; exact BK503.out⟩, ⟨Sh.bw⟩⟩
  ·replace c6 := Bool.eq_false_iff.mpr c6
   subst c6
   rw [Sh.nf] at H
   have H' := am_ H
   clear H
   have hcz12_0 := Sh.bc BK503.out 0
   have hcz12_1 := Sh.bc BK503.out 1
   have hcz12_2 := Sh.bc BK503.out 2
   have hcz12_3 := Sh.bc BK503.out 3
   have hfz12_0 := blk_frozen BK503.out 0
   have hfz12_1 := blk_frozen BK503.out 1
   have hfz12_2 := blk_frozen BK503.out 2
   have hfz12_3 := blk_frozen BK503.out 3
   go_wp2_with (first | ((with_reducible refine Sh.k 24 ?_); refine Sh.gB (some 13) Try.func24 #[.agg #[.int .i64 a0_0, .int .i64 a0_1, .slice A0_2 l0_2.length c0_2, .slice A0_3 l0_3.length c0_3]] (impl_GoodProgram.calls k a0_0 a0_1 _ _ l0_2 _ _ l0_3 false _ (Sh.cB HR0_2.out) HC0_2.out (Sh.cB HR0_3.out) HC0_3.out A5.out) fun w13 hb => ?_; replace BK503 := Sh.ab BK503 hb; replace HB := Sh.hb hb; (try clear hb); (try clear hb2); (try clear hk); (try clear hi)))
   go_meet
   case rel => exact ⟨_, (true), (Sh.es), H', ⟨Sh.om⟩, ⟨by refine Sh.pl ?_; exact BK503.out⟩, ⟨Sh.bw⟩⟩
 case rest =>
  clear HC3
  try clear hcz10_0
  try clear hcz10_1
  try clear hcz10_2
  try clear hcz10_3
  try clear hcz12_0
  try clear hcz12_1
  try clear hcz12_2
  try clear hcz12_3
  try clear hcz8_0
  try clear hcz8_1
  try clear hcz8_2
  try clear hcz8_3
  try clear hfz10_0
  try clear hfz10_1
  try clear hfz10_2
  try clear hfz10_3
  try clear hfz12_0
  try clear hfz12_1
  try clear hfz12_2
  try clear hfz12_3
  try clear hfz8_0
  try clear hfz8_1
  try clear hfz8_2
  try clear hfz8_3
  obtain ⟨kq, x20_2, rfl, HA, HJ2, BK503, HB⟩ := hcut
  cases kq with
  | zero => exact absurd HA.out (by simp [impl_TouchedBy.j0])
  | succ kj2 =>
   have H := HA.out
   clear HA
   simp only [impl_TouchedBy.j0] at H
   by_cases c14 : x20_2 = true
   ·subst c14
    rw [if_pos rfl] at H
    simp only [Option.some.injEq, Prod.mk.injEq] at H
    obtain ⟨rfl, rfl, rfl⟩ := H
    go_wp2
    go_ret3
    exact ⟨_, _, by first | rfl | (simp [errW_none, errW_some] <;> rfl) | (simp [*, errW_none, errW_some] <;> rfl), by first | exact Kd.R_nil _ _ _ _ _ | exact Kd.N_nil _ _ _ _ _ | exact Kd.V_nil _ _ _ _ _ | exact Kd.Q_nil _ _ _ _ _ | exact Kd.S_nil _ _ _ _ _, by first | exact Kd.R_nil _ _ _ _ _ | exact Kd.N_nil _ _ _ _ _ | exact Kd.V_nil _ _ _ _ _ | exact Kd.Q_nil _ _ _ _ _ | exact Kd.S_nil _ _ _ _ _, Sh.bw⟩
   ·replace c14 := Bool.eq_false_iff.mpr c14
    subst c14
    rw [Sh.nf] at H
    by_cases c15 : 0 ≤ a1
    ·rw [if_pos c15] at H
     have c15b0 := decide_eq_true c15
     clear c15
     by_cases c16 : a1 < (l0_3.length : Int)
     ·rw [if_pos c16] at H
      have c16b0 := decide_eq_true c16
      clear c16
      obtain ⟨t508, A17, H⟩ := Sh.ba H
      obtain ⟨y511, hy511⟩ : ∃ y_ : List Int, y_ = (([] : List Int)) := ⟨_, rfl⟩
      replace H : (impl_TouchedBy.l0 kj2 t508 y511 ((rd_T50 l0_3 a1).f1) (((rd_T50 l0_3 a1).f1).length : Int) 0) = some (r1, r2, r3) := by first | (rw [hy511]; with_reducible exact H) | (have H2_ := (Option.bind_some _ _).symm.trans H; rw [hy511]; with_reducible exact H2_) | (have H2_ := (Option.bind_some _ _).symm.trans H; with_reducible exact H2_) | with_reducible exact H | (rw [hy511]; exact H) | exact H
      have Ny511 := am_ hy511
      clear hy511
      have H' := am_ H
      clear H
      have hcz18_0 := Sh.bc BK503.out 0
      have hcz18_1 := Sh.bc BK503.out 1
      have hcz18_2 := Sh.bc BK503.out 2
      have hcz18_3 := Sh.bc BK503.out 3
      have hfz18_0 := blk_frozen BK503.out 0
      have hfz18_1 := blk_frozen BK503.out 1
      have hfz18_2 := blk_frozen BK503.out 2
      have hfz18_3 := blk_frozen BK503.out 3
      have p506 : 0 ≤ (a1 : Int) := Sh.od
      have q506 : a1 < (l0_3.length : Int) := Sh.od
      obtain ⟨ad506, A506_0, c506_0, A506_1, c506_1, e506, hx506_0, hx506_1, hl506_0, hi506_0, hl506_1, hi506_1⟩ := at_T50 HR0_3.out a1 p506 q506
      cases e506
      try replace hx506_0 := Sh.cw hx506_0
      try replace hx506_1 := Sh.cw hx506_1
      have HR506_0 := am_ hi506_0
      have HC506_0 := am_ hl506_0
      clear hi506_0 hl506_0
      have HR506_1 := am_ hi506_1
      have HC506_1 := am_ hl506_1
      clear hi506_1 hl506_1
      replace p506 := eq_true p506
      replace q506 := eq_true q506
      go_wp2_with (first | ((with_reducible refine Sh.d 7 ?_); refine Sh.bx (N := 7) (cs := #[.slice none 0 0, .slice none 0 0]) (t := 50) (h := ?_); intro gb507 hg w19 hbox hb; have BK507 := am_ hbox; have GE507 := Sh.ag w hg; replace HB := Sh.hb hb; have NB503_507 := am_ (Sh.nl hg BK503.out); have NB507_503 := am_ (Sh.ng hg BK503.out); replace BK503 := Sh.ab BK503 hb; clear hb hbox hg; have hnb20 := NB507_503.out; have hnc20 := NB503_507.out; obtain ⟨hcz21_0, hcz21_1, hfz21_0, hfz21_1⟩ := Sh.b2 BK507.out) | ((with_reducible refine Sh.k 26 ?_); refine Sh.gL (some 28) Try.func26 #[.slice A506_0 ((rd_T50 l0_3 a1).f0).length c506_0] (h := ?_); (with_reducible refine (impl_varsIn.calls kj2 _ _ ((rd_T50 l0_3 a1).f0) t508 _ (Sh.cB HR506_0.out) HC506_0.out A17.out).mono ?_); rintro e w22 ⟨v509, rfl, ho0, hb⟩; refine ⟨_, rfl, ?_⟩; have HO510 := am_ (Kd.R_lower ho0 (below_size Sh.bw)); replace BK503 := am_ (blk_below (g := gb503) (o := .cells #[.int .i64 a0_0, .int .i64 a0_1, .slice A0_2 l0_2.length c0_2, .slice (some ad506) l0_3.length c0_3] 33 (0, 0)) (by refine Sh.pl ?_; refine blk_far ?_ NB503_507.out _; refine Sh.pl ?_; refine blk_far ?_ NB503_507.out _; refine Sh.pl ?_; exact BK503.out) hb); replace BK507 := am_ (blk_below (g := gb507) (o := .cells #[.slice A506_0 ((rd_T50 l0_3 a1).f0).length c506_0, .slice A506_1 ((rd_T50 l0_3 a1).f1).length c506_1] 50 (0, 0)) (by refine Sh.pl ?_; refine blk_put (cs := #[.slice A506_0 ((rd_T50 l0_3 a1).f0).length c506_0, .slice none 0 0]) ?_ 1 _ rfl; refine Sh.pl ?_; refine blk_put (cs := #[.slice none 0 0, .slice none 0 0]) ?_ 0 _ rfl; refine Sh.pl ?_; exact BK507.out) hb); replace HB := Sh.hb hb; (try clear hb); (try clear hb2); (try clear hk); (try clear hi); (try clear ho0)) | ((with_reducible refine Sh.d 29 ?_); refine Kd.R_lit (Kd.int .i64) _ 3 ?hg (N := 29) ?hd (xs := ([] : List Int)) (inner := []) (ok := fun _ => True) (okp := fun _ => True) ?hr ?hp (fun _ hk => hk) trivial (Below.refl _ _) (Nat.le_refl _) (by simp) ?_; (case hd => rfl); (case hg => rfl); (case hr => first | (go_simp; done) | (go_simp; rfl)); (case hp => exact (Reps.none _ _)); intro v512 w23 ho24 hb hg_ hnew_; clear hg_ hnew_; (first | rw [← Ny511.out] at ho24 | (simp only [Int.reduceToNat] at ho24; rw [← Ny511.out] at ho24)); have HO513 := am_ (Kd.R_lower (Kd.R_new' ho24 (Kd.R_lt (Sh.rl HO510.out))) (below_size Sh.bw)); replace HO510 := am_ (Kd.R_elder' (Sh.rl HO510.out) (Kd.R_base ho24) hb); replace BK503 := Sh.ab BK503 hb; replace BK507 := Sh.ab BK507 hb; replace HB := Sh.hb hb; clear hb ho24; obtain ⟨hcz25_0, hcz25_1, hfz25_0, hfz25_1⟩ := Sh.b2 BK507.out))
      go_loopg [8, 9, 33] kj2 (fun kq v8 v9 v33 w' => ∃ (x8_2 : List Int) (x9_2 : List Int) (x33_2 : Int), v33 = .int .i64 x33_2 ∧ Aside0 (impl_TouchedBy.l0 kq x8_2 x9_2 ((rd_T50 l0_3 a1).f1) (((rd_T50 l0_3 a1).f1).length : Int) x33_2 = some (r1, r2, r3)) ∧ Aside0 (kq ≤ kj2) ∧ Aside0 (Kd.R (Kd.int .i64) 3 w' w.heap.size (fun k_ => some k_ ≠ (v9 : Value).ownBlock) v8 x8_2) ∧ Aside0 (Kd.R (Kd.int .i64) 3 w' w.heap.size (fun k_ => some k_ ≠ (v8 : Value).ownBlock) v9 x9_2) ∧ Aside0 (w'.heap[gb503]? = some (.cells #[.int .i64 a0_0, .int .i64 a0_1, (.slice A0_2 l0_2.length c0_2), (.slice (some ad506) l0_3.length c0_3)] 33 (0, 0))) ∧ Aside0 (w'.heap[gb507]? = some (.cells #[(.slice A506_0 ((rd_T50 l0_3 a1).f0).length c506_0), (.slice A506_1 ((rd_T50 l0_3 a1).f1).length c506_1)] 50 (0, 0))) ∧ Aside0 (Below w.heap.size w w'))
      case atStart => exact ⟨(t508), (y511), (0), (Sh.es), H', ⟨Nat.le_refl _⟩, ⟨Sh.rl (Kd.R_mono HO510.out (fun _ hk => hk.2))⟩, ⟨Sh.rl (Kd.R_mono HO513.out (fun _ hk => hk.2))⟩, ⟨by refine Sh.pl ?_; exact BK503.out⟩, ⟨by refine Sh.pl ?_; exact BK507.out⟩, ⟨Sh.bw⟩⟩
      case round =>
       clear H'
       try clear hx5
       try clear hcz10_0
       try clear hcz10_1
       try clear hcz10_2
       try clear hcz10_3
       try clear hcz12_0
       try clear hcz12_1
       try clear hcz12_2
       try clear hcz12_3
       try clear hcz18_0
       try clear hcz18_1
       try clear hcz18_2
       try clear hcz18_3
       try clear hcz21_0
       try clear hcz21_1
       try clear hcz25_0
       try clear hcz25_1
       try clear hcz8_0
       try clear hcz8_1
       try clear hcz8_2
       try clear hcz8_3
       try clear hfz10_0
       try clear hfz10_1
       try clear hfz10_2
       try clear hfz10_3
       try clear hfz12_0
       try clear hfz12_1
       try clear hfz12_2
       try clear hfz12_3
       try clear hfz18_0
       try clear hfz18_1
       try clear hfz18_2
       try clear hfz18_3
       try clear hfz21_0
       try clear hfz21_1
       try clear hfz25_0
       try clear hfz25_1
       try clear hfz8_0
       try clear hfz8_1
       try clear hfz8_2
       try clear hfz8_3
       try clear hx506_0
       try clear hx506_1
       obtain ⟨x8_2, x9_2, x33_2, rfl, HA, HK2, HO_8, HO_9, BK503, BK507, HB⟩ := hrel
       cases gk with
       | zero => exact absurd HA.out (by simp [impl_TouchedBy.l0])
       | succ k2 =>
        have H := HA.out
        clear HA
        simp only [impl_TouchedBy.l0] at H
        by_cases c26 : x33_2 < (((rd_T50 l0_3 a1).f1).length : Int)
        ·rw [if_pos c26] at H
         have c26b0 := decide_eq_true c26
         clear c26
         by_cases c27 : 0 ≤ x33_2
         ·rw [if_pos c27] at H
          have c27b0 := decide_eq_true c27
          clear c27
          by_cases c28 : x33_2 < (((rd_T50 l0_3 a1).f1).length : Int)
          ·rw [if_pos c28] at H
           have c28b0 := decide_eq_true c28
           clear c28
           obtain ⟨t516, A29, H⟩ := Sh.ba H
           by_cases c30 : x8_2.length + t516.length < 17592186044416
           ·rw [if_pos c30] at H
            have LMc30 := am_ c30
            clear c30
            obtain ⟨y519, hy519⟩ : ∃ y_ : List Int, y_ = (x8_2 ++ t516) := ⟨_, rfl⟩
            replace H : ((some (([(rd_T52 ((rd_T50 l0_3 a1).f1) x33_2).f0] : List Int) : List Int)).bind fun y522 => (if x9_2.length + y522.length < 17592186044416 then (impl_TouchedBy.l0 k2 y519 (x9_2 ++ y522) ((rd_T50 l0_3 a1).f1) (((rd_T50 l0_3 a1).f1).length : Int) (wrap64 (x33_2 + 1))) else (none))) = some (r1, r2, r3) := by first | (rw [hy519]; with_reducible exact H) | (have H2_ := (Option.bind_some _ _).symm.trans H; rw [hy519]; with_reducible exact H2_) | (have H2_ := (Option.bind_some _ _).symm.trans H; with_reducible exact H2_) | with_reducible exact H | (rw [hy519]; exact H) | exact H
            have Ny519 := am_ hy519
            clear hy519
            obtain ⟨y522, hy522⟩ : ∃ y_ : List Int, y_ = (([(rd_T52 ((rd_T50 l0_3 a1).f1) x33_2).f0] : List Int)) := ⟨_, rfl⟩
            replace H : (if x9_2.length + y522.length < 17592186044416 then (impl_TouchedBy.l0 k2 y519 (x9_2 ++ y522) ((rd_T50 l0_3 a1).f1) (((rd_T50 l0_3 a1).f1).length : Int) (wrap64 (x33_2 + 1))) else (none)) = some (r1, r2, r3) := by first | (rw [hy522]; with_reducible exact H) | (have H2_ := (Option.bind_some _ _).symm.trans H; rw [hy522]; with_reducible exact H2_) | (have H2_ := (Option.bind_some _ _).symm.trans H; with_reducible exact H2_) | with_reducible exact H | (rw [hy522]; exact H) | exact H
            have Ny522 := am_ hy522
            clear hy522
            by_cases c31 : x9_2.length + y522.length < 17592186044416
            ·rw [if_pos c31] at H
             have LMc31 := am_ c31
             clear c31
             obtain ⟨y525, hy525⟩ : ∃ y_ : List Int, y_ = (x9_2 ++ y522) := ⟨_, rfl⟩
             replace H : (impl_TouchedBy.l0 k2 y519 y525 ((rd_T50 l0_3 a1).f1) (((rd_T50 l0_3 a1).f1).length : Int) (wrap64 (x33_2 + 1))) = some (r1, r2, r3) := by first | (rw [hy525]; with_reducible exact H) | (have H2_ := (Option.bind_some _ _).symm.trans H; rw [hy525]; with_reducible exact H2_) | (have H2_ := (Option.bind_some _ _).symm.trans H; with_reducible exact H2_) | with_reducible exact H | (rw [hy525]; exact H) | exact H
             have Ny525 := am_ hy525
             clear hy525
             have H' := am_ H
             clear H
             have p514 : 0 ≤ (x33_2 : Int) := Sh.od
             have q514 : x33_2 < (((rd_T50 l0_3 a1).f1).length : Int) := Sh.od
             obtain ⟨ad514, A514_1, c514_1, e514, hx514_0, hx514_1, hl514_1, hi514_1⟩ := at_T52 HR506_1.out x33_2 p514 q514
             cases e514
             try replace hx514_0 := Sh.cw hx514_0
             try replace hx514_1 := Sh.cw hx514_1
             have HR514_1 := am_ hi514_1
             have HC514_1 := am_ hl514_1
             clear hi514_1 hl514_1
             replace p514 := eq_true p514
             replace q514 := eq_true q514
             try go_wp2_with (first | ((with_reducible refine Sh.d 11 ?_); refine Sh.bx (N := 11) (cs := #[.int .i64 0, .slice none 0 0]) (t := 52) (h := ?_); intro gb515 hg w32 hbox hb; replace HO_8 := am_ (Kd.R_below (Sh.rl HO_8.out) hb); replace HO_9 := am_ (Kd.R_below (Sh.rl HO_9.out) hb); have BK515 := am_ hbox; have GE515 := Sh.ag w hg; replace HB := Sh.hb hb; have NB503_515 := am_ (Sh.nl hg BK503.out); have NB515_503 := am_ (Sh.ng hg BK503.out); replace BK503 := Sh.ab BK503 hb; have NB507_515 := am_ (Sh.nl hg BK507.out); have NB515_507 := am_ (Sh.ng hg BK507.out); replace BK507 := Sh.ab BK507 hb; clear hb hbox hg; have hnb33 := NB515_503.out; have hnc33 := NB503_515.out; have hnb34 := NB515_507.out; have hnc34 := NB507_515.out; obtain ⟨hcz35_0, hcz35_1, hfz35_0, hfz35_1⟩ := Sh.b2 BK515.out; obtain ⟨Ao36, co36, eo36⟩ := Kd.R_slice HO_8.out; subst eo36; obtain ⟨Ao37, co37, eo37⟩ := Kd.R_slice HO_9.out; subst eo37))
             have n0_ : Aside0 (Kd.R (Kd.int .i64) 3 ((w32.setCell ⟨gb515, 0, none⟩ (.int .i64 ((rd_T52 ((rd_T50 l0_3 a1).f1) x33_2).f0))).setCell ⟨gb515, 1, none⟩ (.slice A514_1 ((rd_T52 ((rd_T50 l0_3 a1).f1) x33_2).f1).length c514_1)) w.heap.size (fun k_ => some k_ ≠ (.slice Ao37 x9_2.length co37 : Value).ownBlock) (.slice Ao36 x8_2.length co36) x8_2) := ⟨Sh.rl (Kd.R_mono (Kd.R_far (p := ⟨gb515, 1, none⟩) (Kd.R_far (p := ⟨gb515, 0, none⟩) (Kd.R_types HO_8.out BK515.out (by decide)) (fun _ hk => hk.2) (.int .i64 ((rd_T52 ((rd_T50 l0_3 a1).f1) x33_2).f0))) (fun _ hk => hk.2) (.slice A514_1 ((rd_T52 ((rd_T50 l0_3 a1).f1) x33_2).f1).length c514_1)) (fun _ hk => hk.1))⟩
             have n1_ : Aside0 (Kd.R (Kd.int .i64) 3 ((w32.setCell ⟨gb515, 0, none⟩ (.int .i64 ((rd_T52 ((rd_T50 l0_3 a1).f1) x33_2).f0))).setCell ⟨gb515, 1, none⟩ (.slice A514_1 ((rd_T52 ((rd_T50 l0_3 a1).f1) x33_2).f1).length c514_1)) w.heap.size (fun k_ => some k_ ≠ (.slice Ao36 x8_2.length co36 : Value).ownBlock) (.slice Ao37 x9_2.length co37) x9_2) := ⟨Sh.rl (Kd.R_mono (Kd.R_far (p := ⟨gb515, 1, none⟩) (Kd.R_far (p := ⟨gb515, 0, none⟩) (Kd.R_types HO_9.out BK515.out (by decide)) (fun _ hk => hk.2) (.int .i64 ((rd_T52 ((rd_T50 l0_3 a1).f1) x33_2).f0))) (fun _ hk => hk.2) (.slice A514_1 ((rd_T52 ((rd_T50 l0_3 a1).f1) x33_2).f1).length c514_1)) (fun _ hk => hk.1))⟩
             have n2_ : Aside0 (((w32.setCell ⟨gb515, 0, none⟩ (.int .i64 ((rd_T52 ((rd_T50 l0_3 a1).f1) x33_2).f0))).setCell ⟨gb515, 1, none⟩ (.slice A514_1 ((rd_T52 ((rd_T50 l0_3 a1).f1) x33_2).f1).length c514_1)).heap[gb503]? = some (.cells #[.int .i64 a0_0, .int .i64 a0_1, .slice A0_2 l0_2.length c0_2, .slice (some ad506) l0_3.length c0_3] 33 (0, 0))) := ⟨by refine Sh.pl ?_; refine blk_far ?_ NB503_515.out _; refine Sh.pl ?_; refine blk_far ?_ NB503_515.out _; refine Sh.pl ?_; exact BK503.out⟩
             have n3_ : Aside0 (((w32.setCell ⟨gb515, 0, none⟩ (.int .i64 ((rd_T52 ((rd_T50 l0_3 a1).f1) x33_2).f0))).setCell ⟨gb515, 1, none⟩ (.slice A514_1 ((rd_T52 ((rd_T50 l0_3 a1).f1) x33_2).f1).length c514_1)).heap[gb507]? = some (.cells #[.slice A506_0 ((rd_T50 l0_3 a1).f0).length c506_0, .slice (some ad514) ((rd_T50 l0_3 a1).f1).length c506_1] 50 (0, 0))) := ⟨by refine Sh.pl ?_; refine blk_far ?_ NB507_515.out _; refine Sh.pl ?_; refine blk_far ?_ NB507_515.out _; refine Sh.pl ?_; exact BK507.out⟩
             have n4_ : Aside0 (((w32.setCell ⟨gb515, 0, none⟩ (.int .i64 ((rd_T52 ((rd_T50 l0_3 a1).f1) x33_2).f0))).setCell ⟨gb515, 1, none⟩ (.slice A514_1 ((rd_T52 ((rd_T50 l0_3 a1).f1) x33_2).f1).length c514_1)).heap[gb515]? = some (.cells #[.int .i64 ((rd_T52 ((rd_T50 l0_3 a1).f1) x33_2).f0), .slice A514_1 ((rd_T52 ((rd_T50 l0_3 a1).f1) x33_2).f1).length c514_1] 52 (0, 0))) := ⟨by refine Sh.pl ?_; refine blk_put (cs := #[.int .i64 ((rd_T52 ((rd_T50 l0_3 a1).f1) x33_2).f0), .slice none 0 0]) ?_ 1 _ rfl; refine Sh.pl ?_; refine blk_put (cs := #[.int .i64 0, .slice none 0 0]) ?_ 0 _ rfl; refine Sh.pl ?_; exact BK515.out⟩
             have n5_ : Aside0 (Below w.heap.size w ((w32.setCell ⟨gb515, 0, none⟩ (.int .i64 ((rd_T52 ((rd_T50 l0_3 a1).f1) x33_2).f0))).setCell ⟨gb515, 1, none⟩ (.slice A514_1 ((rd_T52 ((rd_T50 l0_3 a1).f1) x33_2).f1).length c514_1))) := ⟨Sh.bw⟩
             (try clear HO_8)
             (try clear HO_9)
             (try clear BK503)
             (try clear BK507)
             (try clear BK515)
             (try clear HB)
             generalize ((w32.setCell ⟨gb515, 0, none⟩ (.int .i64 ((rd_T52 ((rd_T50 l0_3 a1).f1) x33_2).f0))).setCell ⟨gb515, 1, none⟩ (.slice A514_1 ((rd_T52 ((rd_T50 l0_3 a1).f1) x33_2).f1).length c514_1)) = w38 at n0_ n1_ n2_ n3_ n4_ n5_ ⊢
             have HO_8 := n0_
             have HO_9 := n1_
             have BK503 := n2_
             have BK507 := n3_
             have BK515 := n4_
             have HB := n5_
             clear n0_ n1_ n2_ n3_ n4_ n5_
             replace HO_8 := am_ (Kd.R_drew HO_8.out)
             replace HO_9 := am_ (Kd.R_drew HO_9.out)
             replace BK503 := am_ (blk_drew BK503.out)
             replace BK507 := am_ (blk_drew BK507.out)
             replace BK515 := am_ (blk_drew BK515.out)
             replace HB := am_ (below_drew1 HB.out)
             refine start_ (n := 12) (S := fun w' => w'.cell? ⟨gb515, 0, none⟩ = some (.int .i64 ((rd_T52 ((rd_T50 l0_3 a1).f1) x33_2).f0)) ∧ w'.cell? ⟨gb515, 1, none⟩ = some (.slice A514_1 ((rd_T52 ((rd_T50 l0_3 a1).f1) x33_2).f1).length c514_1)) (ds := []) (Sh.nm 12 0) (by kernel_rfl) rfl rfl Sh.cs (fun hHeld => ?_); refine with_tabW impl_TouchedBy.tab8 impl_TouchedBy.bits8 (fun HT_ HW_ => ?_)
             generalize w38.drew = w39 at HO_8 HO_9 BK503 BK507 BK515 HB hHeld ⊢
             refine Sh.qA 0 ?_; refine Sh.qA 1 ?_; refine Sh.qA 5 ?_; refine Sh.qA 6 ?_; refine Sh.qT 2 hHeld ?_; refine Sh.qT 7 hHeld ?_
             refine join_ (σ := Value × Value × Value) 3 (Sh.nm 12 511) (fun s_ => [(40, s_.1), (41, s_.2.1), (45, s_.2.2)]) (fun s_ w' => (w'.cell? ⟨gb515, 0, none⟩ = some (.int .i64 ((rd_T52 ((rd_T50 l0_3 a1).f1) x33_2).f0)) ∧ w'.cell? ⟨gb515, 1, none⟩ = some (.slice A514_1 ((rd_T52 ((rd_T50 l0_3 a1).f1) x33_2).f1).length c514_1)) ∧ (Kd.R (Kd.int .i64) 3 w' w.heap.size (fun k_ => some k_ ≠ (s_.2.1 : Value).ownBlock ∧ some k_ ≠ (s_.2.2 : Value).ownBlock ∧ some k_ ≠ (.slice Ao37 x9_2.length co37 : Value).ownBlock) s_.1 t516) ∧ (Kd.R (Kd.int .i64) 3 w' w.heap.size (fun k_ => some k_ ≠ (s_.1 : Value).ownBlock ∧ some k_ ≠ (s_.2.2 : Value).ownBlock ∧ some k_ ≠ (.slice Ao37 x9_2.length co37 : Value).ownBlock) s_.2.1 y519) ∧ (Kd.R (Kd.int .i64) 3 w' w.heap.size (fun k_ => some k_ ≠ (s_.1 : Value).ownBlock ∧ some k_ ≠ (s_.2.1 : Value).ownBlock ∧ some k_ ≠ (.slice Ao37 x9_2.length co37 : Value).ownBlock) s_.2.2 y522) ∧ (Kd.R (Kd.int .i64) 3 w' w.heap.size (fun k_ => some k_ ≠ (s_.1 : Value).ownBlock ∧ some k_ ≠ (s_.2.1 : Value).ownBlock ∧ some k_ ≠ (s_.2.2 : Value).ownBlock) (.slice Ao37 x9_2.length co37) x9_2) ∧ (w'.heap[gb503]? = some (.cells #[.int .i64 a0_0, .int .i64 a0_1, .slice A0_2 l0_2.length c0_2, .slice (some ad506) l0_3.length c0_3] 33 (0, 0))) ∧ (w'.heap[gb507]? = some (.cells #[.slice A506_0 ((rd_T50 l0_3 a1).f0).length c506_0, .slice (some ad514) ((rd_T50 l0_3 a1).f1).length c506_1] 50 (0, 0))) ∧ (w'.heap[gb515]? = some (.cells #[.int .i64 ((rd_T52 ((rd_T50 l0_3 a1).f1) x33_2).f0), .slice A514_1 ((rd_T52 ((rd_T50 l0_3 a1).f1) x33_2).f1).length c514_1] 52 (0, 0))) ∧ (Below w.heap.size w w')) ?_ ?_
             rotate_left
             ·intro hCont
              refine two_ (i := 3) (j := 8) (Ni := some 40) (Nj := some 45) (Sh.nm 12 239) (Sh.nm 12 487) rfl rfl rfl rfl (two_of HT_.out (by kernel_rfl)) (by decide) (by decide) (fun K hK => ?_) (fun K hK => ?_)
              ·skip
               refine goes_ Try.func26 (by kernel_rfl) rfl #[.slice A514_1 ((rd_T52 ((rd_T50 l0_3 a1).f1) x33_2).f1).length c514_1] (by rfl) rfl rfl (by (try simp only [List.map_toArray, List.map_cons, List.map_nil]); first | done | rfl | (simp only [List.length_drop, List.length_take]; rfl)) ?_
               with_reducible refine (impl_varsIn.calls k2 _ _ ((rd_T52 ((rd_T50 l0_3 a1).f1) x33_2).f1) t516 _ (Sh.cB HR514_1.out) HC514_1.out A29.out).mono ?_
               rintro e w40 ⟨v517, rfl, ho0, hb⟩
               refine ⟨_, rfl, ?_⟩
               have HO518 := am_ (Kd.R_lower (Kd.R_new' (Kd.R_new' ho0 (Kd.R_lt (Sh.rl HO_8.out))) (Kd.R_lt (Sh.rl HO_9.out))) (below_size Sh.bw))
               replace HO_8 := am_ (Kd.R_elder' (Sh.rl HO_8.out) (Kd.R_base ho0) hb)
               replace HO_9 := am_ (Kd.R_elder' (Sh.rl HO_9.out) (Kd.R_base ho0) hb)
               replace BK503 := Sh.ab BK503 hb
               replace BK507 := Sh.ab BK507 hb
               replace BK515 := Sh.ab BK515 hb
               replace HB := Sh.hb hb
               (try clear hb)
               (try clear hb2)
               (try clear hk)
               (try clear hi)
               (try clear ho0)
               refine Sh.kN hK Sh.cs fun hHeld => ?_
               clear hK K
               refine two_ (i := 4) (j := 8) (Ni := some 41) (Nj := some 45) (Sh.nm 12 255) (Sh.nm 12 495) rfl rfl rfl rfl (two_of HT_.out (by kernel_rfl)) (by decide) (by decide) (fun K hK => ?_) (fun K hK => ?_)
               ·skip
                obtain ⟨Ao42, co42, eo42⟩ := Kd.R_slice HO518.out
                (first | subst eo42 | (injection eo42 with f1_ f2_ f3_; have f4_ := f1_.symm; have f5_ := f3_.symm; clear f1_ f2_ f3_; subst f4_; subst f5_))
                refine Kd.R_append_rows_step (Kd.int .i64) (w0 := w) w.heap.size (by rfl) (.tmp 37) (.tmp 40) 27 3 (.int .i64 0) 8 rfl Try.underlying27 info3 rfl (by decide) (by omega) (.slice Ao36 x8_2.length co36) x8_2 t516 _ _ _ (fun k_ => some k_ ≠ (.slice Ao37 x9_2.length co37 : Value).ownBlock ∧ some k_ ≠ (.slice Ao42 t516.length co42 : Value).ownBlock) (fun _ => False) rfl rfl ?aO ?aR (fun _ _ h => h) (fun _ h => h.elim) ?aF ?aB ?aS ?aL ?_
                (case aR => repeat (first | exact (Kd.R_reads' HO518.out).2.2 | (with_reducible first | refine Kd.C_alloc ?_ _ | refine Kd.C_drewN ?_ _ | refine Kd.C_drew ?_)))
                (case aB => exact Sh.bw)
                (case aF => exact (fun k_ hk => ⟨Kd.fresh' (Kd.R_lt (Sh.rl HO_9.out)) k_ hk, Kd.fresh' (Kd.R_lt (Sh.rl HO518.out)) k_ hk⟩))
                (case aO => exact (Sh.rl HO_8.out))
                (case aS => exact (below_size Sh.bw))
                (case aL => have := LMc30.out; omega)
                intro v520 w41 ho hb hg hat
                rw [← Ny519.out] at ho
                have n0_ := am_ (Kd.R_after (ok := (fun k_ => some k_ ≠ (.slice Ao42 t516.length co42 : Value).ownBlock)) (Sh.rl (Kd.R_mono HO_9.out (fun _ h => ⟨h.2, h.1⟩))) hg hat)
                have n1_ := am_ (blk_grown (g := gb503) (o := .cells #[.int .i64 a0_0, .int .i64 a0_1, .slice A0_2 l0_2.length c0_2, .slice (some ad506) l0_3.length c0_3] 33 (0, 0)) (Sh.pl BK503.out) hg (Kd.R_ne HO_8.out BK503.out (by decide)))
                have n2_ := am_ (blk_grown (g := gb507) (o := .cells #[.slice A506_0 ((rd_T50 l0_3 a1).f0).length c506_0, .slice (some ad514) ((rd_T50 l0_3 a1).f1).length c506_1] 50 (0, 0)) (Sh.pl BK507.out) hg (Kd.R_ne HO_8.out BK507.out (by decide)))
                have n3_ := am_ (blk_grown (g := gb515) (o := .cells #[.int .i64 ((rd_T52 ((rd_T50 l0_3 a1).f1) x33_2).f0), .slice A514_1 ((rd_T52 ((rd_T50 l0_3 a1).f1) x33_2).f1).length c514_1] 52 (0, 0)) (Sh.pl BK515.out) hg (Kd.R_ne HO_8.out BK515.out (by decide)))
                have n4_ := am_ (Kd.R_after (ok := (fun k_ => some k_ ≠ (.slice Ao37 x9_2.length co37 : Value).ownBlock)) (Sh.rl (Kd.R_mono HO518.out (fun _ h => ⟨h.2, h.1.2⟩))) hg hat)
                have n5_ := am_ hb
                have n6_ := am_ ho
                clear HO_9
                clear BK503
                clear BK507
                clear BK515
                clear HO518
                clear HB
                clear HO_8
                have HO_9 := n0_
                have BK503 := n1_
                have BK507 := n2_
                have BK515 := n3_
                have HO518 := n4_
                have HB := n5_
                have HO521 := n6_
                clear n0_ n1_ n2_ n3_ n4_ n5_ n6_
                clear ho hb hg hat
                refine Sh.kN hK Sh.cs fun hHeld => ?_
                clear hK K
                refine one_ (i := 8) (N := some 45) (Sh.nm 12 511) rfl rfl (one_of HT_.out (by kernel_rfl)) (by decide) (fun K hK => ?_)
                refine Kd.R_lit_step (Kd.int .i64) _ 3 ?hg (N := 45) ?hd (xs := ([(rd_T52 ((rd_T50 l0_3 a1).f1) x33_2).f0] : List Int)) (inner := [.int .i64 ((rd_T52 ((rd_T50 l0_3 a1).f1) x33_2).f0)]) (ok := fun _ => True) (okp := fun _ => True) ?hr ?hp (fun _ hk => hk) trivial (Below.refl _ _) (Nat.le_refl _) (by simp) ?_; (case hd => rfl); (case hg => rfl); (case hr => first | (go_simp; done) | (go_simp; rfl)); (case hp => exact (Reps.one (show Kd.M (Kd.int .i64) _ _ _ ((rd_T52 ((rd_T50 l0_3 a1).f1) x33_2).f0) [.int .i64 ((rd_T52 ((rd_T50 l0_3 a1).f1) x33_2).f0)] from rfl) (Reps.none _ _)))
                intro v523 w43 ho44 hb hg_ hnew_
                clear hg_ hnew_
                (first | rw [← Ny522.out] at ho44 | (simp only [Int.reduceToNat] at ho44; rw [← Ny522.out] at ho44))
                have HO524 := am_ (Kd.R_lower (Kd.R_new' (Kd.R_new' (Kd.R_new' ho44 (Kd.R_lt (Sh.rl HO_9.out))) (Kd.R_lt (Sh.rl HO518.out))) (Kd.R_lt (Sh.rl HO521.out))) (below_size Sh.bw))
                replace HO_9 := am_ (Kd.R_elder' (Sh.rl HO_9.out) (Kd.R_base ho44) hb)
                replace HO518 := am_ (Kd.R_elder' (Sh.rl HO518.out) (Kd.R_base ho44) hb)
                replace HO521 := am_ (Kd.R_elder' (Sh.rl HO521.out) (Kd.R_base ho44) hb)
                replace BK503 := Sh.ab BK503 hb
                replace BK507 := Sh.ab BK507 hb
                replace BK515 := Sh.ab BK515 hb
                replace HB := Sh.hb hb
                clear hb ho44
                refine Sh.kN hK Sh.cs fun hHeld => ?_
                clear hK K
                exact norm_ (by simp only [putAll, Act.put, List.setIfInBounds_toArray, List.set_cons_zero, List.set_cons_succ]) (hCont (.slice Ao42 t516.length co42, v520, v523) _ ⟨hHeld, (Sh.rl (Kd.R_mono HO518.out (fun _ h => ⟨h.1.2, h.2, h.1.1⟩))), (Sh.rl (Kd.R_mono HO521.out (fun _ h => ⟨h.1.2, h.2, h.1.1⟩))), (Sh.rl (Kd.R_mono HO524.out (fun _ h => ⟨h.1.2, h.2, h.1.1.2⟩))), (Sh.rl (Kd.R_mono HO_9.out (fun _ h => ⟨h.1.1, h.1.2, h.2⟩))), (Sh.pl BK503.out), (Sh.pl BK507.out), (Sh.pl BK515.out), Sh.bw⟩)
               ·skip
                refine Kd.R_lit_step (Kd.int .i64) _ 3 ?hg (N := 45) ?hd (xs := ([(rd_T52 ((rd_T50 l0_3 a1).f1) x33_2).f0] : List Int)) (inner := [.int .i64 ((rd_T52 ((rd_T50 l0_3 a1).f1) x33_2).f0)]) (ok := fun _ => True) (okp := fun _ => True) ?hr ?hp (fun _ hk => hk) trivial (Below.refl _ _) (Nat.le_refl _) (by simp) ?_; (case hd => rfl); (case hg => rfl); (case hr => first | (go_simp; done) | (go_simp; rfl)); (case hp => exact (Reps.one (show Kd.M (Kd.int .i64) _ _ _ ((rd_T52 ((rd_T50 l0_3 a1).f1) x33_2).f0) [.int .i64 ((rd_T52 ((rd_T50 l0_3 a1).f1) x33_2).f0)] from rfl) (Reps.none _ _)))
                intro v523 w41 ho42 hb hg_ hnew_
                clear hg_ hnew_
                (first | rw [← Ny522.out] at ho42 | (simp only [Int.reduceToNat] at ho42; rw [← Ny522.out] at ho42))
                have HO524 := am_ (Kd.R_lower (Kd.R_new' (Kd.R_new' (Kd.R_new' ho42 (Kd.R_lt (Sh.rl HO_8.out))) (Kd.R_lt (Sh.rl HO_9.out))) (Kd.R_lt (Sh.rl HO518.out))) (below_size Sh.bw))
                replace HO_8 := am_ (Kd.R_elder' (Sh.rl HO_8.out) (Kd.R_base ho42) hb)
                replace HO_9 := am_ (Kd.R_elder' (Sh.rl HO_9.out) (Kd.R_base ho42) hb)
                replace HO518 := am_ (Kd.R_elder' (Sh.rl HO518.out) (Kd.R_base ho42) hb)
                replace BK503 := Sh.ab BK503 hb
                replace BK507 := Sh.ab BK507 hb
                replace BK515 := Sh.ab BK515 hb
                replace HB := Sh.hb hb
                clear hb ho42
                refine Sh.kN hK Sh.cs fun hHeld => ?_
                clear hK K
                refine one_ (i := 4) (N := some 41) (Sh.nm 12 511) rfl rfl (one_of HT_.out (by kernel_rfl)) (by decide) (fun K hK => ?_)
                obtain ⟨Ao44, co44, eo44⟩ := Kd.R_slice HO518.out
                (first | subst eo44 | (injection eo44 with f1_ f2_ f3_; have f4_ := f1_.symm; have f5_ := f3_.symm; clear f1_ f2_ f3_; subst f4_; subst f5_))
                refine Kd.R_append_rows_step (Kd.int .i64) (w0 := w) w.heap.size (by rfl) (.tmp 37) (.tmp 40) 27 3 (.int .i64 0) 8 rfl Try.underlying27 info3 rfl (by decide) (by omega) (.slice Ao36 x8_2.length co36) x8_2 t516 _ _ _ (fun k_ => some k_ ≠ (.slice Ao37 x9_2.length co37 : Value).ownBlock ∧ some k_ ≠ (.slice Ao44 t516.length co44 : Value).ownBlock ∧ some k_ ≠ (v523 : Value).ownBlock) (fun _ => False) rfl rfl ?aO ?aR (fun _ _ h => h) (fun _ h => h.elim) ?aF ?aB ?aS ?aL ?_
                (case aR => repeat (first | exact (Kd.R_reads' HO518.out).2.2 | (with_reducible first | refine Kd.C_alloc ?_ _ | refine Kd.C_drewN ?_ _ | refine Kd.C_drew ?_)))
                (case aB => exact Sh.bw)
                (case aF => exact (fun k_ hk => ⟨Kd.fresh' (Kd.R_lt (Sh.rl HO_9.out)) k_ hk, Kd.fresh' (Kd.R_lt (Sh.rl HO518.out)) k_ hk, Kd.fresh' (Kd.R_lt (Sh.rl HO524.out)) k_ hk⟩))
                (case aO => exact (Sh.rl (Kd.R_mono HO_8.out (fun _ h => ⟨h.1.1, h.1.2, h.2⟩))))
                (case aS => exact (below_size Sh.bw))
                (case aL => have := LMc30.out; omega)
                intro v520 w43 ho hb hg hat
                rw [← Ny519.out] at ho
                have n0_ := am_ (Kd.R_after (ok := (fun k_ => some k_ ≠ (.slice Ao44 t516.length co44 : Value).ownBlock ∧ some k_ ≠ (v523 : Value).ownBlock)) (Sh.rl (Kd.R_mono HO_9.out (fun _ h => ⟨⟨h.1.2, h.2⟩, h.1.1⟩))) hg hat)
                have n1_ := am_ (blk_grown (g := gb503) (o := .cells #[.int .i64 a0_0, .int .i64 a0_1, .slice A0_2 l0_2.length c0_2, .slice (some ad506) l0_3.length c0_3] 33 (0, 0)) (Sh.pl BK503.out) hg (Kd.R_ne HO_8.out BK503.out (by decide)))
                have n2_ := am_ (blk_grown (g := gb507) (o := .cells #[.slice A506_0 ((rd_T50 l0_3 a1).f0).length c506_0, .slice (some ad514) ((rd_T50 l0_3 a1).f1).length c506_1] 50 (0, 0)) (Sh.pl BK507.out) hg (Kd.R_ne HO_8.out BK507.out (by decide)))
                have n3_ := am_ (blk_grown (g := gb515) (o := .cells #[.int .i64 ((rd_T52 ((rd_T50 l0_3 a1).f1) x33_2).f0), .slice A514_1 ((rd_T52 ((rd_T50 l0_3 a1).f1) x33_2).f1).length c514_1] 52 (0, 0)) (Sh.pl BK515.out) hg (Kd.R_ne HO_8.out BK515.out (by decide)))
                have n4_ := am_ (Kd.R_after (ok := (fun k_ => some k_ ≠ (.slice Ao37 x9_2.length co37 : Value).ownBlock ∧ some k_ ≠ (v523 : Value).ownBlock)) (Sh.rl (Kd.R_mono HO518.out (fun _ h => ⟨⟨h.1.2, h.2⟩, h.1.1.2⟩))) hg hat)
                have n5_ := am_ (Kd.R_after (ok := (fun k_ => some k_ ≠ (.slice Ao37 x9_2.length co37 : Value).ownBlock ∧ some k_ ≠ (.slice Ao44 t516.length co44 : Value).ownBlock)) (Sh.rl (Kd.R_mono HO524.out (fun _ h => ⟨⟨h.1.2, h.2⟩, h.1.1.2⟩))) hg hat)
                have n6_ := am_ hb
                have n7_ := am_ ho
                clear HO_9
                clear BK503
                clear BK507
                clear BK515
                clear HO518
                clear HO524
                clear HB
                clear HO_8
                have HO_9 := n0_
                have BK503 := n1_
                have BK507 := n2_
                have BK515 := n3_
                have HO518 := n4_
                have HO524 := n5_
                have HB := n6_
                have HO521 := n7_
                clear n0_ n1_ n2_ n3_ n4_ n5_ n6_ n7_
                clear ho hb hg hat
                refine Sh.kN hK Sh.cs fun hHeld => ?_
                clear hK K
                exact norm_ (by simp only [putAll, Act.put, List.setIfInBounds_toArray, List.set_cons_zero, List.set_cons_succ]) (hCont (.slice Ao44 t516.length co44, v520, v523) _ ⟨hHeld, (Sh.rl (Kd.R_mono HO518.out (fun _ h => ⟨h.2, h.1.2, h.1.1⟩))), (Sh.rl (Kd.R_mono HO521.out (fun _ h => ⟨h.2.1, h.2.2, h.1⟩))), (Sh.rl (Kd.R_mono HO524.out (fun _ h => ⟨h.1.2, h.2, h.1.1⟩))), (Sh.rl (Kd.R_mono HO_9.out (fun _ h => ⟨h.1.1, h.2, h.1.2⟩))), (Sh.pl BK503.out), (Sh.pl BK507.out), (Sh.pl BK515.out), Sh.bw⟩)
              ·skip
               refine Kd.R_lit_step (Kd.int .i64) _ 3 ?hg (N := 45) ?hd (xs := ([(rd_T52 ((rd_T50 l0_3 a1).f1) x33_2).f0] : List Int)) (inner := [.int .i64 ((rd_T52 ((rd_T50 l0_3 a1).f1) x33_2).f0)]) (ok := fun _ => True) (okp := fun _ => True) ?hr ?hp (fun _ hk => hk) trivial (Below.refl _ _) (Nat.le_refl _) (by simp) ?_; (case hd => rfl); (case hg => rfl); (case hr => first | (go_simp; done) | (go_simp; rfl)); (case hp => exact (Reps.one (show Kd.M (Kd.int .i64) _ _ _ ((rd_T52 ((rd_T50 l0_3 a1).f1) x33_2).f0) [.int .i64 ((rd_T52 ((rd_T50 l0_3 a1).f1) x33_2).f0)] from rfl) (Reps.none _ _)))
               intro v523 w40 ho41 hb hg_ hnew_
               clear hg_ hnew_
               (first | rw [← Ny522.out] at ho41 | (simp only [Int.reduceToNat] at ho41; rw [← Ny522.out] at ho41))
               have HO524 := am_ (Kd.R_lower (Kd.R_new' (Kd.R_new' ho41 (Kd.R_lt (Sh.rl HO_8.out))) (Kd.R_lt (Sh.rl HO_9.out))) (below_size Sh.bw))
               replace HO_8 := am_ (Kd.R_elder' (Sh.rl HO_8.out) (Kd.R_base ho41) hb)
               replace HO_9 := am_ (Kd.R_elder' (Sh.rl HO_9.out) (Kd.R_base ho41) hb)
               replace BK503 := Sh.ab BK503 hb
               replace BK507 := Sh.ab BK507 hb
               replace BK515 := Sh.ab BK515 hb
               replace HB := Sh.hb hb
               clear hb ho41
               refine Sh.kN hK Sh.cs fun hHeld => ?_
               clear hK K
               refine Sh.oC 3 Try.func26 #[.slice A514_1 ((rd_T52 ((rd_T50 l0_3 a1).f1) x33_2).f1).length c514_1] fun K hK => ?_
               with_reducible refine (impl_varsIn.calls k2 _ _ ((rd_T52 ((rd_T50 l0_3 a1).f1) x33_2).f1) t516 _ (Sh.cB HR514_1.out) HC514_1.out A29.out).mono ?_
               rintro e w42 ⟨v517, rfl, ho0, hb⟩
               refine ⟨_, rfl, ?_⟩
               have HO518 := am_ (Kd.R_lower (Kd.R_new' (Kd.R_new' (Kd.R_new' ho0 (Kd.R_lt (Sh.rl HO_8.out))) (Kd.R_lt (Sh.rl HO_9.out))) (Kd.R_lt (Sh.rl HO524.out))) (below_size Sh.bw))
               replace HO_8 := am_ (Kd.R_elder' (Sh.rl HO_8.out) (Kd.R_base ho0) hb)
               replace HO_9 := am_ (Kd.R_elder' (Sh.rl HO_9.out) (Kd.R_base ho0) hb)
               replace HO524 := am_ (Kd.R_elder' (Sh.rl HO524.out) (Kd.R_base ho0) hb)
               replace BK503 := Sh.ab BK503 hb
               replace BK507 := Sh.ab BK507 hb
               replace BK515 := Sh.ab BK515 hb
               replace HB := Sh.hb hb
               (try clear hb)
               (try clear hb2)
               (try clear hk)
               (try clear hi)
               (try clear ho0)
               refine Sh.kN hK Sh.cs fun hHeld => ?_
               clear hK K
               refine one_ (i := 4) (N := some 41) (Sh.nm 12 511) rfl rfl (one_of HT_.out (by kernel_rfl)) (by decide) (fun K hK => ?_)
               obtain ⟨Ao44, co44, eo44⟩ := Kd.R_slice HO518.out
               (first | subst eo44 | (injection eo44 with f1_ f2_ f3_; have f4_ := f1_.symm; have f5_ := f3_.symm; clear f1_ f2_ f3_; subst f4_; subst f5_))
               refine Kd.R_append_rows_step (Kd.int .i64) (w0 := w) w.heap.size (by rfl) (.tmp 37) (.tmp 40) 27 3 (.int .i64 0) 8 rfl Try.underlying27 info3 rfl (by decide) (by omega) (.slice Ao36 x8_2.length co36) x8_2 t516 _ _ _ (fun k_ => some k_ ≠ (.slice Ao37 x9_2.length co37 : Value).ownBlock ∧ some k_ ≠ (v523 : Value).ownBlock ∧ some k_ ≠ (.slice Ao44 t516.length co44 : Value).ownBlock) (fun _ => False) rfl rfl ?aO ?aR (fun _ _ h => h) (fun _ h => h.elim) ?aF ?aB ?aS ?aL ?_
               (case aR => repeat (first | exact (Kd.R_reads' HO518.out).2.2 | (with_reducible first | refine Kd.C_alloc ?_ _ | refine Kd.C_drewN ?_ _ | refine Kd.C_drew ?_)))
               (case aB => exact Sh.bw)
               (case aF => exact (fun k_ hk => ⟨Kd.fresh' (Kd.R_lt (Sh.rl HO_9.out)) k_ hk, Kd.fresh' (Kd.R_lt (Sh.rl HO524.out)) k_ hk, Kd.fresh' (Kd.R_lt (Sh.rl HO518.out)) k_ hk⟩))
               (case aO => exact (Sh.rl (Kd.R_mono HO_8.out (fun _ h => ⟨h.1.1, h.1.2, h.2⟩))))
               (case aS => exact (below_size Sh.bw))
               (case aL => have := LMc30.out; omega)
               intro v520 w43 ho hb hg hat
               rw [← Ny519.out] at ho
               have n0_ := am_ (Kd.R_after (ok := (fun k_ => some k_ ≠ (v523 : Value).ownBlock ∧ some k_ ≠ (.slice Ao44 t516.length co44 : Value).ownBlock)) (Sh.rl (Kd.R_mono HO_9.out (fun _ h => ⟨⟨h.1.2, h.2⟩, h.1.1⟩))) hg hat)
               have n1_ := am_ (blk_grown (g := gb503) (o := .cells #[.int .i64 a0_0, .int .i64 a0_1, .slice A0_2 l0_2.length c0_2, .slice (some ad506) l0_3.length c0_3] 33 (0, 0)) (Sh.pl BK503.out) hg (Kd.R_ne HO_8.out BK503.out (by decide)))
               have n2_ := am_ (blk_grown (g := gb507) (o := .cells #[.slice A506_0 ((rd_T50 l0_3 a1).f0).length c506_0, .slice (some ad514) ((rd_T50 l0_3 a1).f1).length c506_1] 50 (0, 0)) (Sh.pl BK507.out) hg (Kd.R_ne HO_8.out BK507.out (by decide)))
               have n3_ := am_ (blk_grown (g := gb515) (o := .cells #[.int .i64 ((rd_T52 ((rd_T50 l0_3 a1).f1) x33_2).f0), .slice A514_1 ((rd_T52 ((rd_T50 l0_3 a1).f1) x33_2).f1).length c514_1] 52 (0, 0)) (Sh.pl BK515.out) hg (Kd.R_ne HO_8.out BK515.out (by decide)))
               have n4_ := am_ (Kd.R_after (ok := (fun k_ => some k_ ≠ (.slice Ao37 x9_2.length co37 : Value).ownBlock ∧ some k_ ≠ (.slice Ao44 t516.length co44 : Value).ownBlock)) (Sh.rl (Kd.R_mono HO524.out (fun _ h => ⟨⟨h.1.2, h.2⟩, h.1.1.2⟩))) hg hat)
               have n5_ := am_ (Kd.R_after (ok := (fun k_ => some k_ ≠ (.slice Ao37 x9_2.length co37 : Value).ownBlock ∧ some k_ ≠ (v523 : Value).ownBlock)) (Sh.rl (Kd.R_mono HO518.out (fun _ h => ⟨⟨h.1.2, h.2⟩, h.1.1.2⟩))) hg hat)
               have n6_ := am_ hb
               have n7_ := am_ ho
               clear HO_9
               clear BK503
               clear BK507
               clear BK515
               clear HO524
               clear HO518
               clear HB
               clear HO_8
               have HO_9 := n0_
               have BK503 := n1_
               have BK507 := n2_
               have BK515 := n3_
               have HO524 := n4_
               have HO518 := n5_
               have HB := n6_
               have HO521 := n7_
               clear n0_ n1_ n2_ n3_ n4_ n5_ n6_ n7_
               clear ho hb hg hat
               refine Sh.kN hK Sh.cs fun hHeld => ?_
               clear hK K
               exact norm_ (by simp only [putAll, Act.put, List.setIfInBounds_toArray, List.set_cons_zero, List.set_cons_succ]) (hCont (.slice Ao44 t516.length co44, v520, v523) _ ⟨hHeld, (Sh.rl (Kd.R_mono HO518.out (fun _ h => ⟨h.2, h.1.2, h.1.1⟩))), (Sh.rl (Kd.R_mono HO521.out (fun _ h => ⟨h.2.2, h.2.1, h.1⟩))), (Sh.rl (Kd.R_mono HO524.out (fun _ h => ⟨h.1.2, h.2, h.1.1⟩))), (Sh.rl (Kd.R_mono HO_9.out (fun _ h => ⟨h.1.2, h.2, h.1.1⟩))), (Sh.pl BK503.out), (Sh.pl BK507.out), (Sh.pl BK515.out), Sh.bw⟩)
             rintro ⟨v517, v520, v523⟩ w45 ⟨hS_, h0_, h1_, h2_, h3_, h4_, h5_, h6_, h7_⟩
             have n0_ : Aside0 (Kd.R (Kd.int .i64) 3 w45 w.heap.size (fun k_ => some k_ ≠ (v520 : Value).ownBlock ∧ some k_ ≠ (v523 : Value).ownBlock ∧ some k_ ≠ (.slice Ao37 x9_2.length co37 : Value).ownBlock) v517 t516) := ⟨h0_⟩
             have n1_ : Aside0 (Kd.R (Kd.int .i64) 3 w45 w.heap.size (fun k_ => some k_ ≠ (v517 : Value).ownBlock ∧ some k_ ≠ (v523 : Value).ownBlock ∧ some k_ ≠ (.slice Ao37 x9_2.length co37 : Value).ownBlock) v520 y519) := ⟨h1_⟩
             have n2_ : Aside0 (Kd.R (Kd.int .i64) 3 w45 w.heap.size (fun k_ => some k_ ≠ (v517 : Value).ownBlock ∧ some k_ ≠ (v520 : Value).ownBlock ∧ some k_ ≠ (.slice Ao37 x9_2.length co37 : Value).ownBlock) v523 y522) := ⟨h2_⟩
             have n3_ : Aside0 (Kd.R (Kd.int .i64) 3 w45 w.heap.size (fun k_ => some k_ ≠ (v517 : Value).ownBlock ∧ some k_ ≠ (v520 : Value).ownBlock ∧ some k_ ≠ (v523 : Value).ownBlock) (.slice Ao37 x9_2.length co37) x9_2) := ⟨h3_⟩
             have n4_ : Aside0 (w45.heap[gb503]? = some (.cells #[.int .i64 a0_0, .int .i64 a0_1, .slice A0_2 l0_2.length c0_2, .slice (some ad506) l0_3.length c0_3] 33 (0, 0))) := ⟨h4_⟩
             have n5_ : Aside0 (w45.heap[gb507]? = some (.cells #[.slice A506_0 ((rd_T50 l0_3 a1).f0).length c506_0, .slice (some ad514) ((rd_T50 l0_3 a1).f1).length c506_1] 50 (0, 0))) := ⟨h5_⟩
             have n6_ : Aside0 (w45.heap[gb515]? = some (.cells #[.int .i64 ((rd_T52 ((rd_T50 l0_3 a1).f1) x33_2).f0), .slice A514_1 ((rd_T52 ((rd_T50 l0_3 a1).f1) x33_2).f1).length c514_1] 52 (0, 0))) := ⟨h6_⟩
             have n7_ : Aside0 (Below w.heap.size w w45) := ⟨h7_⟩
             clear HO_8
             clear HO_9
             clear BK503
             clear BK507
             clear BK515
             clear HB
             clear h0_ h1_ h2_ h3_ h4_ h5_ h6_ h7_
             have HO518 := n0_
             have HO521 := n1_
             have HO524 := n2_
             have HO_9 := n3_
             have BK503 := n4_
             have BK507 := n5_
             have BK515 := n6_
             have HB := n7_
             clear n0_ n1_ n2_ n3_ n4_ n5_ n6_ n7_
             have hHeld : w45.cell? ⟨gb515, 0, none⟩ = some (.int .i64 ((rd_T52 ((rd_T50 l0_3 a1).f1) x33_2).f0)) ∧ w45.cell? ⟨gb515, 1, none⟩ = some (.slice A514_1 ((rd_T52 ((rd_T50 l0_3 a1).f1) x33_2).f1).length c514_1) := hS_
             obtain ⟨Ao47, co47, eo47⟩ := Kd.R_slice HO524.out
             (first | subst eo47 | (injection eo47 with f1_ f2_ f3_; have f4_ := f1_.symm; have f5_ := f3_.symm; clear f1_ f2_ f3_; subst f4_; subst f5_))
             refine norm_ (a' := ?_) ?_ ?_
             rotate_left
             ·simp only [putAll, Act.put, List.setIfInBounds_toArray, List.set_cons_zero, List.set_cons_succ]
              rfl
             refine one_ (i := 9) (N := some 46) (Sh.nm 12 1023) rfl rfl (one_of HT_.out (by kernel_rfl)) (by decide) (fun K hK => ?_)
             refine Kd.R_append_rows_step (Kd.int .i64) (w0 := w) w.heap.size (by rfl) (.tmp 42) (.tmp 45) 27 3 (.int .i64 0) 8 rfl Try.underlying27 info3 rfl (by decide) (by omega) (.slice Ao37 x9_2.length co37) x9_2 y522 _ _ _ (fun k_ => some k_ ≠ (v517 : Value).ownBlock ∧ some k_ ≠ (v520 : Value).ownBlock ∧ some k_ ≠ (.slice Ao47 y522.length co47 : Value).ownBlock) (fun _ => False) rfl rfl ?aO ?aR (fun _ _ h => h) (fun _ h => h.elim) ?aF ?aB ?aS ?aL ?_
             (case aR => repeat (first | exact (Kd.R_reads' HO524.out).2.2 | (with_reducible first | refine Kd.C_alloc ?_ _ | refine Kd.C_drewN ?_ _ | refine Kd.C_drew ?_)))
             (case aB => exact Sh.bw)
             (case aF => exact (fun k_ hk => ⟨Kd.fresh' (Kd.R_lt (Sh.rl HO518.out)) k_ hk, Kd.fresh' (Kd.R_lt (Sh.rl HO521.out)) k_ hk, Kd.fresh' (Kd.R_lt (Sh.rl HO524.out)) k_ hk⟩))
             (case aO => exact (Sh.rl HO_9.out))
             (case aS => exact (below_size Sh.bw))
             (case aL => have := LMc31.out; omega)
             intro v526 w46 ho hb hg hat
             rw [← Ny525.out] at ho
             have n0_ := am_ (blk_grown (g := gb503) (o := .cells #[.int .i64 a0_0, .int .i64 a0_1, .slice A0_2 l0_2.length c0_2, .slice (some ad506) l0_3.length c0_3] 33 (0, 0)) (Sh.pl BK503.out) hg (Kd.R_ne HO_9.out BK503.out (by decide)))
             have n1_ := am_ (blk_grown (g := gb507) (o := .cells #[.slice A506_0 ((rd_T50 l0_3 a1).f0).length c506_0, .slice (some ad514) ((rd_T50 l0_3 a1).f1).length c506_1] 50 (0, 0)) (Sh.pl BK507.out) hg (Kd.R_ne HO_9.out BK507.out (by decide)))
             have n2_ := am_ (blk_grown (g := gb515) (o := .cells #[.int .i64 ((rd_T52 ((rd_T50 l0_3 a1).f1) x33_2).f0), .slice A514_1 ((rd_T52 ((rd_T50 l0_3 a1).f1) x33_2).f1).length c514_1] 52 (0, 0)) (Sh.pl BK515.out) hg (Kd.R_ne HO_9.out BK515.out (by decide)))
             have n3_ := am_ (Kd.R_after (ok := (fun k_ => some k_ ≠ (v520 : Value).ownBlock ∧ some k_ ≠ (.slice Ao47 y522.length co47 : Value).ownBlock)) (Sh.rl (Kd.R_mono HO518.out (fun _ h => ⟨⟨h.1, h.2.1⟩, h.2.2⟩))) hg hat)
             have n4_ := am_ (Kd.R_after (ok := (fun k_ => some k_ ≠ (v517 : Value).ownBlock ∧ some k_ ≠ (.slice Ao47 y522.length co47 : Value).ownBlock)) (Sh.rl (Kd.R_mono HO521.out (fun _ h => ⟨⟨h.1, h.2.1⟩, h.2.2⟩))) hg hat)
             have n5_ := am_ (Kd.R_after (ok := (fun k_ => some k_ ≠ (v517 : Value).ownBlock ∧ some k_ ≠ (v520 : Value).ownBlock)) (Sh.rl (Kd.R_mono HO524.out (fun _ h => ⟨⟨h.1, h.2.1⟩, h.2.2⟩))) hg hat)
             have n6_ := am_ hb
             have n7_ := am_ ho
             clear BK503
             clear BK507
             clear BK515
             clear HO518
             clear HO521
             clear HO524
             clear HB
             clear HO_9
             have BK503 := n0_
             have BK507 := n1_
             have BK515 := n2_
             have HO518 := n3_
             have HO521 := n4_
             have HO524 := n5_
             have HB := n6_
             have HO527 := n7_
             clear n0_ n1_ n2_ n3_ n4_ n5_ n6_ n7_
             clear ho hb hg hat
             refine Sh.kN hK Sh.cs fun hHeld => ?_
             clear hK K
             refine Sh.qA 10 ?_; refine Sh.qA 11 ?_
             refine done_ (done_of HT_.out (by kernel_rfl)) ?_
             try go_wp2
             go_roundg k2
             case measure => have := HJ2.out; have := HK2.out; omega
             case rel => exact ⟨(y519), (y525), (wrap64 (x33_2 + 1)), (Sh.es), H', ⟨by have := HJ2.out; have := HK2.out; omega⟩, ⟨Sh.rl (Kd.R_mono HO521.out (fun _ hk => hk.2))⟩, ⟨Sh.rl (Kd.R_mono HO527.out (fun _ hk => hk.2.1))⟩, ⟨by refine Sh.pl ?_; exact BK503.out⟩, ⟨by refine Sh.pl ?_; exact BK507.out⟩, ⟨Sh.bw⟩⟩
            ·rw [if_neg c31] at H
             exact absurd H (by simp)
           ·rw [if_neg c30] at H
            exact absurd H (by simp)
          ·rw [if_neg c28] at H
           exact absurd H (by simp)
         ·rw [if_neg c27] at H
          exact absurd H (by simp)
        ·rw [if_neg c26] at H
         have c26b0 := decide_eq_false c26
         clear c26
         obtain ⟨t528, A48, H⟩ := Sh.ba H
         obtain ⟨t529, A49, H⟩ := Sh.ba H
         simp only [Option.some.injEq, Prod.mk.injEq] at H
         obtain ⟨rfl, rfl, rfl⟩ := H
         obtain ⟨Ao50, co50, eo50⟩ := Kd.R_slice HO_8.out
         subst eo50
         go_wp2_with (first | ((with_reducible refine Sh.k 27 ?_); refine Sh.gL (some 49) Try.func27 #[.slice Ao50 x8_2.length co50] (h := ?_); (with_reducible refine (slices_Sort_int_int.calls (fun k_ => some k_ = (.slice Ao50 x8_2.length co50 : Value).ownBlock) (.slice Ao50 x8_2.length co50) x8_2 t528 w _ ?side1 ?side2 A48.out).mono ?_); (case side1 => repeat (first | (with_reducible first | exact HB.out | apply below_alloc | apply pw_below_drewN | apply below_drew1 | refine below_set ?_ GE503.out | refine below_set ?_ GE507.out) | exact HB.out)); (case side2 => exact Kd.R_tight rfl HO_8.out); rintro e w51 ⟨rfl, hy0, hb, hkp⟩; refine ⟨_, rfl, ?_⟩; replace HO_9 := am_ (Kd.R_mono (ok' := fun k_ => some k_ ≠ (.slice Ao50 x8_2.length co50 : Value).ownBlock) (Kd.R_keptB (HO_9.out) hkp (fun k_ hk_ hs_ => (hk_) hs_)) (fun k_ hk_ => hk_.1)); replace BK503 := am_ (blk_kept (Sh.pl BK503.out) hkp (fun hs_ => (fun e_ => (Kd.R_ne HO_8.out BK503.out (by decide)) e_) hs_)); replace BK507 := am_ (blk_kept (Sh.pl BK507.out) hkp (fun hs_ => (fun e_ => (Kd.R_ne HO_8.out BK507.out (by decide)) e_) hs_)); replace HO_8 := am_ (Kd.R_reok rfl hy0 (fun k_ e_ => HO_8.out.1 k_ e_)); replace HB := am_ hb; (try clear hb); (try clear hkp); (try clear hy0)) | ((with_reducible refine Sh.k 28 ?_); refine Sh.gL (some 51) Try.func28 #[.slice Ao50 x8_2.length co50] (h := ?_); (with_reducible refine (slices_Compact_int_int.calls (fun k_ => some k_ = (.slice Ao50 x8_2.length co50 : Value).ownBlock) (.slice Ao50 x8_2.length co50) t528 t529 w _ ?side1 ?side2 A49.out).mono ?_); (case side1 => repeat (first | (with_reducible first | exact HB.out | apply below_alloc | apply pw_below_drewN | apply below_drew1 | refine below_set ?_ GE503.out | refine below_set ?_ GE507.out) | exact HB.out)); (case side2 => exact Kd.R_tight rfl HO_8.out); rintro e w52 ⟨v530, rfl, ho0, hb, hkp⟩; refine ⟨_, rfl, ?_⟩; have n0_ := am_ (Kd.R_mono (ok' := fun k_ => some k_ ≠ (v530 : Value).ownBlock) (Kd.R_keptB (HO_9.out) hkp (fun k_ hk_ hs_ => (hk_) hs_)) (fun k_ hk_ => fun e_ => Or.elim (ho0.1 k_ e_.symm) (fun hs_ => hk_.2.1 hs_) (fun hn_ => Nat.not_le.2 hk_.2.2 hn_))); have n1_ := am_ (blk_kept (Sh.pl BK503.out) hkp (fun hs_ => (fun e_ => (Kd.R_ne HO_8.out BK503.out (by decide)) e_) hs_)); have n2_ := am_ (blk_kept (Sh.pl BK507.out) hkp (fun hs_ => (fun e_ => (Kd.R_ne HO_8.out BK507.out (by decide)) e_) hs_)); have n3_ := am_ (Kd.R_mono (ok' := fun k_ => some k_ ≠ (u9 : Value).ownBlock) ho0 (fun k_ hk_ => Or.elim hk_ (fun hs_ => fun e_ => (((HO_9.out).1 k_ e_.symm)) hs_) (fun hn_ => (Kd.fresh' (Kd.R_lt (Sh.rl HO_9.out)) k_ hn_)))); have n4_ := am_ hb; clear HO_9; clear BK503; clear BK507; clear HB; clear HO_8; have HO_9 := n0_; have BK503 := n1_; have BK507 := n2_; have HO531 := n3_; have HB := n4_; clear n0_ n1_ n2_ n3_ n4_; (try clear hb); (try clear hkp); (try clear ho0)))
         go_ret3
         exact ⟨_, _, by first | rfl | (simp [errW_none, errW_some] <;> rfl) | (simp [*, errW_none, errW_some] <;> rfl), Sh.rl HO531.out, Sh.rl HO_9.out, Sh.bw⟩
     ·rw [if_neg c16] at H
      exact absurd H (by simp)
    ·rw [if_neg c15] at H
     exact absurd H (by simp)
def laws_eqIntS.l0 : Nat → List Int → List Int → Int → Option (Bool)
 | 0, _, _, _ => none
 | k + 1, x0, x1, x5 => if x5 < (x0.length : Int) then (if 0 ≤ x5 then (if x5 < (x1.length : Int) then (if (rd x0 x5) = (rd x1 x5) then (laws_eqIntS.l0 k x0 x1 (wrap64 (x5 + 1))) else (some false)) else (none)) else (none)) else (some true)
def laws_eqIntS.f (k : Nat) (l0 : List Int) (l1 : List Int) : Option (Bool) := if (l0.length : Int) = (l1.length : Int) then (laws_eqIntS.l0 k l0 l1 0) else (some false)
theorem laws_eqIntS.mono_l : ∀ k, (∀ y0 y1 y2, LeO (laws_eqIntS.l0 k y0 y1 y2) (laws_eqIntS.l0 (k + 1) y0 y1 y2))
 | 0 => fun _ _ _ r h => by simp [laws_eqIntS.l0] at h
 | k + 1 => by
  have ih0 := laws_eqIntS.mono_l k
  ·intro y0 y1 y2
   unfold laws_eqIntS.l0
   repeat' with_reducible first | apply ih0 | exact LeO.refl _ | exact LeO.none _ | apply LeO.ite | refine LeO.bind ?_ fun _ => ?_
theorem laws_eqIntS.mono : ∀ a0 a1 k, LeO (laws_eqIntS.f k a0 a1) (laws_eqIntS.f (k + 1) a0 a1) := by
 intro a0 a1 k
 have ih0 := laws_eqIntS.mono_l k
 unfold laws_eqIntS.f
 repeat' with_reducible first | apply ih0 | exact LeO.refl _ | exact LeO.none _ | apply LeO.ite | refine LeO.bind ?_ fun _ => ?_
theorem laws_eqIntS.calls (k : Nat) (A0 : Option Addr) (c0 : Nat) (l0 : List Int) (A1 : Option Addr) (c1 : Nat) (l1 : List Int) (r : Bool) (w : World) (hr0 : Kd.C (Kd.int .i64) w A0 l0.length l0) (hc0 : l0.length ≤ c0) (hr1 : Kd.C (Kd.int .i64) w A1 l1.length l1) (hc1 : l1.length ≤ c1) (h : laws_eqIntS.f k l0 l1 = some r) :
  Calls Try.prog 9 #[.slice A0 l0.length c0, .slice A1 l1.length c1] w fun e w' => e = .returned (.bool r) ∧ Drawn0 w w' := by
 have HR0 := am_ hr0
 have HC0 := am_ hc0
 clear hr0 hc0
 have HR1 := am_ hr1
 have HC1 := am_ hc1
 clear hr1 hc1
 have H := h
 clear h
 unfold laws_eqIntS.f at H
 by_cases c3 : (l0.length : Int) = (l1.length : Int)
 ·rw [if_pos c3] at H
  have c3b0 : ((l0.length : Int) == (l1.length : Int)) = true := beq_iff_eq.mpr c3
  have c3b1 : ((l0.length : Int) != (l1.length : Int)) = false := bne_eq_false_iff_eq.mpr c3
  have c3b2 : (l0.length == l1.length) = true := by first | simpa using c3 | (simp at c3 ⊢; omega)
  clear c3
  have H' := am_ H
  clear H
  go_enter Try.func9, Try.ntmps9
  go_wp2
  repeat (go_quiet (fail); try go_wp2)
  go_loopg [5] k (fun kq v5 w' => ∃ (x5_1 : Int), v5 = .int .i64 x5_1 ∧ Aside0 (laws_eqIntS.l0 kq l0 l1 x5_1 = some r) ∧ Aside0 (kq ≤ k) ∧ Drawn0 w w')
  case atStart => exact ⟨(0), (Sh.es), H', ⟨Nat.le_refl _⟩, Sh.dr⟩
  case round =>
   clear H'
   obtain ⟨x5_1, rfl, HA, HK1, ⟨m1, rfl⟩⟩ := hrel
   cases gk with
   | zero => exact absurd HA.out (by simp [laws_eqIntS.l0])
   | succ k1 =>
    have H := HA.out
    clear HA
    simp only [laws_eqIntS.l0] at H
    by_cases c4 : x5_1 < (l0.length : Int)
    ·rw [if_pos c4] at H
     have c4b0 := decide_eq_true c4
     clear c4
     by_cases c5 : 0 ≤ x5_1
     ·rw [if_pos c5] at H
      have c5b0 := decide_eq_true c5
      clear c5
      by_cases c6 : x5_1 < (l1.length : Int)
      ·rw [if_pos c6] at H
       have c6b0 := decide_eq_true c6
       clear c6
       by_cases c7 : (rd l0 x5_1) = (rd l1 x5_1)
       ·rw [if_pos c7] at H
        have c7b0 : ((rd l0 x5_1) == (rd l1 x5_1)) = true := beq_iff_eq.mpr c7
        have c7b1 : ((rd l0 x5_1) != (rd l1 x5_1)) = false := bne_eq_false_iff_eq.mpr c7
        clear c7
        have H' := am_ H
        clear H
        have p555 : 0 ≤ (x5_1 : Int) := Sh.od
        have q555 : x5_1 < (l0.length : Int) := Sh.od
        obtain ⟨ad555, e555, hx555_0⟩ := Kd.at_int HR0.out x5_1 p555 q555
        cases e555
        replace p555 := eq_true p555
        replace q555 := eq_true q555
        have p556 : 0 ≤ (x5_1 : Int) := Sh.od
        have q556 : x5_1 < (l1.length : Int) := Sh.od
        obtain ⟨ad556, e556, hx556_0⟩ := Kd.at_int HR1.out x5_1 p556 q556
        cases e556
        replace p556 := eq_true p556
        replace q556 := eq_true q556
        go_wp2
        repeat (go_quiet (fail); try go_wp2)
        go_roundg k1
        case measure => have := HK1.out; omega
        case rel => exact ⟨(wrap64 (x5_1 + 1)), (Sh.es), H', ⟨by have := HK1.out; omega⟩, Sh.dr⟩
       ·rw [if_neg c7] at H
        have c7b0 : ((rd l0 x5_1) == (rd l1 x5_1)) = false := beq_eq_false_iff_ne.mpr c7
        have c7b1 : ((rd l0 x5_1) != (rd l1 x5_1)) = true := bne_iff_ne.mpr c7
        obtain rfl := Option.some.inj H
        have p555 : 0 ≤ (x5_1 : Int) := Sh.od
        have q555 : x5_1 < (l0.length : Int) := Sh.od
        obtain ⟨ad555, e555, hx555_0⟩ := Kd.at_int HR0.out x5_1 p555 q555
        cases e555
        replace p555 := eq_true p555
        replace q555 := eq_true q555
        have p556 : 0 ≤ (x5_1 : Int) := Sh.od
        have q556 : x5_1 < (l1.length : Int) := Sh.od
        obtain ⟨ad556, e556, hx556_0⟩ := Kd.at_int HR1.out x5_1 p556 q556
        cases e556
        replace p556 := eq_true p556
        replace q556 := eq_true q556
        go_wp2
        repeat (go_quiet (fail); try go_wp2)
        go_ret
        exact ⟨Sh.es, Sh.dr⟩
      ·rw [if_neg c6] at H
       exact absurd H (by simp)
     ·rw [if_neg c5] at H
      exact absurd H (by simp)
    ·rw [if_neg c4] at H
     have c4b0 := decide_eq_false c4
     clear c4
     obtain rfl := Option.some.inj H
     go_wp2
     repeat (go_quiet (fail); try go_wp2)
     go_ret
     exact ⟨Sh.es, Sh.dr⟩
 ·rw [if_neg c3] at H
  have c3b0 : ((l0.length : Int) == (l1.length : Int)) = false := beq_eq_false_iff_ne.mpr c3
  have c3b1 : ((l0.length : Int) != (l1.length : Int)) = true := bne_iff_ne.mpr c3
  have c3b2 : (l0.length == l1.length) = false := by first | simpa using c3 | (simp at c3 ⊢; omega)
  obtain rfl := Option.some.inj H
  go_enter Try.func9, Try.ntmps9
  go_wp2
  repeat (go_quiet (fail); try go_wp2)
  go_ret
  exact ⟨Sh.es, Sh.dr⟩
/-- What marking may have written: no block beyond P; each block keeps its type and its size; the rows that lead to rows keep what leads there. -/
def MkRel (P : Nat → Prop) (w w' : World) : Prop :=
 Kept w w' P ∧ ∀ (k : Nat) (cur : Array Value) (e : TypeId) (fr : Nat × Nat), w.heap[k]? = some (.cells cur e fr) → ∃ cur' : Array Value, w'.heap[k]? = some (.cells cur' e fr) ∧ cur'.size = cur.size ∧ (e = 50 → cur' = cur) ∧ (e = 52 → ∀ j, cur'[2 * j + 1]? = cur[2 * j + 1]?)
theorem MkRel.refl (P : Nat → Prop) (w : World) : MkRel P w w := ⟨Kept.refl w P, fun k cur e fr h => ⟨cur, h, rfl, fun _ => rfl, fun _ _ => rfl⟩⟩
theorem MkRel.trans {P : Nat → Prop} {a b c : World} (h : MkRel P a b) (h' : MkRel P b c) : MkRel P a c :=
 ⟨h.1.then_ h'.1 (fun _ hk => .inl hk), fun k cur e fr hc => by
  obtain ⟨c1, h1, s1, t1, u1⟩ := h.2 k cur e fr hc
  obtain ⟨c2, h2, s2, t2, u2⟩ := h'.2 k c1 e fr h1
  exact ⟨c2, h2, s2.trans s1, fun he => (t2 he).trans (t1 he), fun he j => (u2 he j).trans (u1 he j)⟩⟩
theorem MkRel.set {P : Nat → Prop} {w : World} {g i : Nat} {cur : Array Value} {e : TypeId} (h : w.heap[g]? = some (.cells cur e (0, 0))) (hP : P g) (he : e ≠ 50) (hi : e = 52 → ∃ j, i = 2 * j) (u : Value) : MkRel P w (w.setCell ⟨g, i, none⟩ u) := by
 refine ⟨(Kept.refl w P).setCell (.inl hP) u, fun k c e' fr hc => ?_⟩
 by_cases hk : k = g
 ·subst hk
  rw [h] at hc
  injection hc with hc
  injection hc with h1 h2 h3
  subst h1; subst h2; subst h3
  refine ⟨_, blk_set h i u, by simp, fun h50 => absurd h50 he, fun h52 j => ?_⟩
  obtain ⟨q, rfl⟩ := hi h52
  rw [Array.getElem?_setIfInBounds]
  rw [if_neg (by omega)]
 ·exact ⟨c, (Below.heap_setCell w _ u k hk).trans hc, rfl, fun _ => rfl, fun _ _ => rfl⟩
theorem MkRel.of_below {P : Nat → Prop} {w w' : World} (h : Below w.heap.size w w') : MkRel P w w' :=
 ⟨Kept.of_below h P, fun k cur e fr hc => ⟨cur, (h.block k (blk_lt hc)).trans hc, rfl, fun _ => rfl, fun _ _ => rfl⟩⟩
def Blk (e : TypeId) (W : World) (P : Nat → Prop) (base : Nat) (v : Value) (n : Nat) (I : Array Value → Prop) : Prop :=
 n ≤ 9223372036854775807 ∧ ((n = 0 ∧ v = .slice none 0 0) ∨ ∃ g cap cur, v = .slice (some ⟨g, 0, none⟩) n cap ∧ P g ∧ base ≤ g ∧ W.heap[g]? = some (.cells cur e (0, 0)) ∧ n ≤ cap ∧ cur.size = cap * 2 ∧ I cur)
def Sh73 (W : World) (P : Nat → Prop) (base : Nat) (v : Value) (n : Nat) : Prop := Blk 73 W P base v n (fun _ => True)
def Sh52 (W : World) (P : Nat → Prop) (base : Nat) (v : Value) (ns : List Nat) : Prop := Blk 52 W P base v ns.length (fun cur => ∀ i, i < ns.length → ∃ u, cur[2 * i + 1]? = some u ∧ Sh73 W P base u (ns.getD i 0))
def Sh50 (W : World) (P : Nat → Prop) (base : Nat) (v : Value) (ms : List (Nat × List Nat)) : Prop :=
 Blk 50 W P base v ms.length (fun cur => ∀ i, i < ms.length → ∃ u1 u2, cur[2 * i]? = some u1 ∧ cur[2 * i + 1]? = some u2 ∧ Sh73 W P base u1 (ms.getD i (0, [])).1 ∧ Sh52 W P base u2 (ms.getD i (0, [])).2)
section
variable {P : Nat → Prop} {w w' : World} {base n : Nat} {v : Value}
theorem Blk.rel {e : TypeId} {I I' : Array Value → Prop} (hk : MkRel P w w') (h : Blk e w P base v n I) (hI : ∀ cur cur', (e = 50 → cur' = cur) → (e = 52 → ∀ j, cur'[2 * j + 1]? = cur[2 * j + 1]?) → I cur → I' cur') : Blk e w' P base v n I' := by
 obtain ⟨hn, h | ⟨g, cap, cur, rfl, hP, hb, hc, hl, hs, hI1⟩⟩ := h
 ·exact ⟨hn, .inl h⟩
 ·obtain ⟨c', h1, h2, h3, h4⟩ := hk.2 g cur e (0, 0) hc
  exact ⟨hn, .inr ⟨g, cap, c', rfl, hP, hb, h1, hl, h2.trans hs, hI cur c' h3 h4 hI1⟩⟩
theorem Sh73.rel (hk : MkRel P w w') (h : Sh73 w P base v n) : Sh73 w' P base v n := Blk.rel hk h (fun _ _ _ _ _ => trivial)
theorem Sh52.rel {ns : List Nat} (hk : MkRel P w w') (h : Sh52 w P base v ns) : Sh52 w' P base v ns :=
 Blk.rel hk h (fun cur cur' _ h2 hI i hi => by
  obtain ⟨u, h1, hs⟩ := hI i hi
  exact ⟨u, (h2 rfl i).trans h1, hs.rel hk⟩)
theorem Sh50.rel {ms : List (Nat × List Nat)} (hk : MkRel P w w') (h : Sh50 w P base v ms) : Sh50 w' P base v ms :=
 Blk.rel hk h (fun cur cur' h1 _ hI i hi => by
  rw [h1 rfl]
  obtain ⟨u1, u2, e1, e2, s1, s2⟩ := hI i hi
  exact ⟨u1, u2, e1, e2, s1.rel hk, s2.rel hk⟩)
theorem Blk.of {α : Type} {d : Kd α} {e : TypeId} {xs : List α} {I : Array Value → Prop} (hd : d.sz = 2) (h : d.R e w base P v xs)
  (hI : ∀ cur : Array Value, (∀ i, i < xs.length → ∃ c, c.length = 2 ∧ (∀ j, j < 2 → cur[2 * i + j]? = c[j]?) ∧ ∃ x, xs[i]? = some x ∧ d.M w base (fun k => P k ∧ some k ≠ v.ownBlock) x c) → I cur) : Blk e w P base v xs.length I := by
 obtain ⟨hok, inner, hown, hrep⟩ := h
 have hn : xs.length ≤ 9223372036854775807 := (Kd.R_reads ⟨hok, inner, hown, hrep⟩).choose_spec.choose_spec.2.2.2.1
 refine ⟨hn, ?_⟩
 obtain ⟨hl, ⟨e1, hz⟩ | ⟨g, cap, cur, e1, hbg, hcur, hcap, _, hsz, htake⟩⟩ := hown
 ·exact .inl ⟨hz, e1⟩
 ·refine .inr ⟨g, cap, cur, e1, hok g (by rw [e1]; simp [Value.ownBlock]), hbg, hcur, hcap, by rw [hsz, hd], hI cur (fun i hi => ?_)⟩
  have hM := hrep.2 i xs[i] (List.getElem?_eq_getElem hi)
  rw [hd] at hl htake hM
  refine ⟨_, ?_, fun j hj => ?_, xs[i], List.getElem?_eq_getElem hi, hM⟩
  ·simp; omega
  ·rw [List.getElem?_take, if_pos hj, List.getElem?_drop, ← htake, List.getElem?_take, if_pos (by omega), Array.getElem?_toList, Nat.mul_comm i 2]
theorem Sh73.of {l : List S73} (h : Kd.R k73 73 w base P v l) : Sh73 w P base v l.length := Blk.of rfl h (fun _ _ => trivial)
theorem Sh52.of {l : List S52} (h : Kd.R k52 52 w base P v l) : Sh52 w P base v (l.map (fun x => x.f1.length)) := by
 have := Blk.of (I := fun cur => ∀ i, i < (l.map (fun x => x.f1.length)).length → ∃ u, cur[2 * i + 1]? = some u ∧ Sh73 w P base u ((l.map (fun x => x.f1.length)).getD i 0)) rfl h (fun cur hc i hi => by
  simp only [List.length_map] at hi
  obtain ⟨c, h2, hj, x, hx, hM⟩ := hc i hi
  obtain ⟨v1, rfl, hr⟩ := k52_openM hM
  refine ⟨v1, hj 1 (by omega), ?_⟩
  rw [List.getD_eq_getElem?_getD, List.getElem?_map, hx]
  exact Sh73.of (Kd.R_mono hr (fun k hk => hk.1)))
 unfold Sh52
 rw [List.length_map] at this ⊢
 exact this
theorem Sh50.of {l : List S50} (h : Kd.R k50 50 w base P v l) : Sh50 w P base v (l.map (fun x => (x.f0.length, x.f1.map (fun y => y.f1.length)))) := by
 have := Blk.of (I := fun cur => ∀ i, i < (l.map (fun x => (x.f0.length, x.f1.map (fun y => y.f1.length)))).length → ∃ u1 u2, cur[2 * i]? = some u1 ∧ cur[2 * i + 1]? = some u2 ∧ Sh73 w P base u1 ((l.map (fun x => (x.f0.length, x.f1.map (fun y => y.f1.length)))).getD i (0, [])).1 ∧ Sh52 w P base u2 ((l.map (fun x => (x.f0.length, x.f1.map (fun y => y.f1.length)))).getD i (0, [])).2) rfl h (fun cur hc i hi => by
  simp only [List.length_map] at hi
  obtain ⟨c, h2, hj, x, hx, hM⟩ := hc i hi
  obtain ⟨v0, v1, rfl, hr0, hr1⟩ := k50_openM hM
  refine ⟨v0, v1, hj 0 (by omega), hj 1 (by omega), ?_⟩
  rw [List.getD_eq_getElem?_getD, List.getElem?_map, hx]
  exact ⟨Sh73.of (Kd.R_mono hr0 (fun k hk => hk.1)), Sh52.of (Kd.R_mono hr1 (fun k hk => hk.1))⟩)
 unfold Sh50
 rw [List.length_map] at this ⊢
 exact this
end
def mk52 : List Nat → Nat
 | [] => 0
 | n :: t => 1 + 2 * n + mk52 t
def mk50 : List (Nat × List Nat) → Nat
 | [] => 0
 | x :: t => 2 * x.1 + mk52 x.2 + mk50 t
theorem mk52_drop : ∀ (l : List Nat) (j : Nat), j < l.length → mk52 (l.drop j) = 1 + 2 * l.getD j 0 + mk52 (l.drop (j + 1)) := fun l j h => by
 rw [List.drop_eq_getElem_cons h, mk52]; simp [List.getD_eq_getElem?_getD, List.getElem?_eq_getElem h]
theorem mk50_drop : ∀ (l : List (Nat × List Nat)) (j : Nat), j < l.length → mk50 (l.drop j) = 2 * (l.getD j (0, [])).1 + mk52 (l.getD j (0, [])).2 + mk50 (l.drop (j + 1)) := fun l j h => by
 rw [List.drop_eq_getElem_cons h, mk50]; simp [List.getD_eq_getElem?_getD, List.getElem?_eq_getElem h]
theorem mkNodeS (P : Nat → Prop) (v : Value) (n : Nat) (a : Int) (w0 w : World) (hB : Below w0.heap.size w0 w) (hs : Sh73 w P w0.heap.size v n) (h0 : 0 ≤ a) (h1 : a + 2 * n ≤ 4611686018427387904) :
  Calls Try.prog 31 #[v, .int .i64 a] w fun e w' => e = .returned (.int .i64 (a + 2 * n)) ∧ Below w0.heap.size w0 w' ∧ MkRel P w w' := by
 obtain ⟨hn, ⟨rfl, rfl⟩ | ⟨g, cap, cur, rfl, hP, hb, hc, hl, hsz, _⟩⟩ := hs
 ·go_enter Try.func31, Try.ntmps31
  go_wp2
  go_loopg [1, 5] 0 (fun gg v1 v5 wr => v1 = .int .i64 a ∧ v5 = .int .i64 0 ∧ Aside0 (wr = w))
  case atStart => exact ⟨rfl, rfl, ⟨rfl⟩⟩
  case round =>
   obtain ⟨rfl, rfl, HW⟩ := hrel
   have hw := HW.out
   subst hw
   go_wp2
   go_ret
   exact ⟨by simp, hB, MkRel.refl P _⟩
 ·have HC := am_ hc
  have HPB := am_ (And.intro hP hb)
  have HB := am_ hB
  have HS := am_ hsz
  clear hc hP hb hB hsz
  go_enter Try.func31, Try.ntmps31
  go_wp2
  go_loopg [1, 5] n (fun gg v1 v5 wr => ∃ j : Nat, j ≤ n ∧ n - j ≤ gg ∧ v1 = .int .i64 (a + 2 * j) ∧ v5 = .int .i64 j ∧ Aside0 (Below w0.heap.size w0 wr) ∧ Aside0 (MkRel P w wr))
  case atStart => exact ⟨0, Nat.zero_le _, by omega, by simp, rfl, HB, ⟨MkRel.refl P w⟩⟩
  case round =>
   obtain ⟨j, hj, hg, rfl, rfl, HB2, HM⟩ := hrel
   by_cases hlt : j < n
   ·have hltz : (j : Int) < (n : Int) := by omega
    have h0z : 0 ≤ (j : Int) := by omega
    obtain ⟨c', hc1, hs1, _, _⟩ := HM.out.2 g cur 73 (0, 0) HC.out
    have hs2 := HS.out
    have hx : wr.cell? ⟨g, j * 2, none⟩ = some (c'[j * 2]'(by omega)) := (blk_cell hc1 (j * 2)).trans (Array.getElem?_eq_getElem _)
    have hf : wr.frozen? ⟨g, j * 2, none⟩ = false := blk_frozen hc1 _
    have HC1 := am_ hc1
    have HS1 := am_ hs1
    clear hc1
    go_wp2_with (first | ((with_reducible refine gate_store (t := 3) (p := 16) rfl ?_); refine store_event (t := 3) (p := 16) (v := ?vo) (w1 := (wr.setCell ⟨g, j * 2, none⟩ (.int .i64 (a + 2 * j)))) ?hg ?ho ?hn ?hr ?_; (case ho => rfl); (case hg => rfl); (case hn => rfl); (case hr => first | (go_simp; done) | (go_simp; rfl)); intro w9 hw; have n0_ := am_ (show Below w0.heap.size w0 w9 from by rw [hw]; exact below_set HB2.out HPB.out.2); have n1_ := am_ (show MkRel P w w9 from by rw [hw]; exact HM.out.trans (MkRel.set HC1.out HPB.out.1 (by decide) (fun h_ => absurd h_ (by decide)) _)); have hc2 := blk_set HC1.out (j * 2) (.int .i64 (a + 2 * j)); rw [← hw] at hc2; have hx9 : w9.cell? ⟨g, j * 2 + 1, none⟩ = some (c'[j * 2 + 1]'(by have := HS1.out; have := HS.out; omega)) := (blk_cell hc2 (j * 2 + 1)).trans (by rw [Array.getElem?_setIfInBounds, if_neg (by omega)]; exact Array.getElem?_eq_getElem _); have hf9 : w9.frozen? ⟨g, j * 2 + 1, none⟩ = false := blk_frozen hc2 _; have HC2 := am_ hc2; clear hc2 hw HB2 HM hx hf; have HB2 := n0_; have HM := n1_; clear n0_ n1_))
    go_roundg (n - (j + 1))
    case measure => omega
    case rel => exact ⟨j + 1, by omega, by omega, by go_num, by go_num, ⟨below_set HB2.out HPB.out.2⟩, ⟨HM.out.trans (MkRel.set HC2.out HPB.out.1 (by decide) (fun h_ => absurd h_ (by decide)) _)⟩⟩
   ·have hltz : ¬ (j : Int) < (n : Int) := by omega
    have hjn : j = n := by omega
    subst hjn
    go_wp2
    go_ret
    exact ⟨rfl, HB2.out, HM.out⟩
theorem mkChangeS (P : Nat → Prop) (v : Value) (ns : List Nat) (a : Int) (w0 w : World) (hB : Below w0.heap.size w0 w) (hs : Sh52 w P w0.heap.size v ns) (h0 : 0 ≤ a) (h1 : a + mk52 ns ≤ 4611686018427387904) :
  Calls Try.prog 53 #[v, .int .i64 a] w fun e w' => e = .returned (.int .i64 (a + mk52 ns)) ∧ Below w0.heap.size w0 w' ∧ MkRel P w w' := by
 have HSH := am_ hs
 obtain ⟨hn, ⟨hz, rfl⟩ | ⟨g, cap, cur, rfl, hP, hb, hc, hl, hsz, _⟩⟩ := hs
 ·have hns : ns = [] := List.length_eq_zero_iff.1 hz
  subst hns
  clear HSH hz hn
  go_enter Try.func53, Try.ntmps53
  go_wp2
  go_loopg [1, 5] 0 (fun gg v1 v5 wr => v1 = .int .i64 a ∧ v5 = .int .i64 0 ∧ Aside0 (wr = w))
  case atStart => exact ⟨rfl, rfl, ⟨rfl⟩⟩
  case round =>
   obtain ⟨rfl, rfl, HW⟩ := hrel
   have hw := HW.out
   subst hw
   go_wp2
   go_ret
   exact ⟨by simp [mk52], hB, MkRel.refl P _⟩
 ·have HPB := am_ (And.intro hP hb)
  have HB := am_ hB
  clear hc hP hb hB hsz
  go_enter Try.func53, Try.ntmps53
  go_wp2
  go_loopg [1, 5] ns.length (fun gg v1 v5 wr => ∃ (j : Nat) (q : Int), j ≤ ns.length ∧ ns.length - j ≤ gg ∧ v1 = .int .i64 q ∧ v5 = .int .i64 j ∧ Aside0 (q + mk52 (ns.drop j) = a + mk52 ns) ∧ Aside0 (0 ≤ q) ∧ Aside0 (Below w0.heap.size w0 wr) ∧ Aside0 (MkRel P w wr))
  case atStart => exact ⟨0, a, Nat.zero_le _, by omega, rfl, rfl, ⟨by simp⟩, ⟨h0⟩, HB, ⟨MkRel.refl P w⟩⟩
  case round =>
   obtain ⟨j, q, hj, hg, rfl, rfl, HQ, HQ0, HB2, HM⟩ := hrel
   by_cases hlt : j < ns.length
   ·have hltz : (j : Int) < (ns.length : Int) := by omega
    have h0z : 0 ≤ (j : Int) := by omega
    have hq := HQ.out
    have hq0 := HQ0.out
    rw [mk52_drop ns j hlt] at hq
    obtain ⟨_, ⟨hz2, _⟩ | ⟨g2, cap2, c', hv2, _, _, hc1, hl1, hs1, hI⟩⟩ := Sh52.rel HM.out HSH.out
    ·omega
    injection hv2 with hv2 _ hv3
    injection hv2 with hv2
    injection hv2 with hv2
    subst hv2
    subst hv3
    obtain ⟨u, hu, hsu⟩ := hI j hlt
    generalize ns.getD j 0 = m at hsu hq
    have hx : wr.cell? ⟨g, j * 2, none⟩ = some (c'[j * 2]'(by omega)) := (blk_cell hc1 (j * 2)).trans (Array.getElem?_eq_getElem _)
    have hf : wr.frozen? ⟨g, j * 2, none⟩ = false := blk_frozen hc1 _
    have HC1 := am_ hc1
    have HU := am_ hu
    have HSU := am_ hsu
    clear hc1 hu hsu hI
    go_wp2_with (first | ((with_reducible refine gate_store (t := 3) (p := 16) rfl ?_); refine store_event (t := 3) (p := 16) (v := ?vo) (w1 := (wr.setCell ⟨g, j * 2, none⟩ (.int .i64 q))) ?hg ?ho ?hn ?hr ?_; (case ho => rfl); (case hg => rfl); (case hn => rfl); (case hr => first | (go_simp; done) | (go_simp; rfl)); intro w9 hw; have hr9 : MkRel P wr w9 := (by rw [hw]; exact MkRel.set HC1.out HPB.out.1 (by decide) (fun _ => ⟨j, Nat.mul_comm j 2⟩) _); have n0_ := am_ (show Below w0.heap.size w0 w9 from by rw [hw]; exact below_set HB2.out HPB.out.2); have n1_ := am_ (HM.out.trans hr9); have hc2 := blk_set HC1.out (j * 2) (.int .i64 q); rw [← hw] at hc2; have hx9 : w9.cell? ⟨g, j * 2 + 1, none⟩ = some u := (blk_cell hc2 (j * 2 + 1)).trans (by rw [Array.getElem?_setIfInBounds, if_neg (by omega), Nat.mul_comm j 2]; exact HU.out); have HS9 := am_ (HSU.out.rel hr9); clear hc2 hw HB2 HM hx hf hr9 HSU; have HB2 := n0_; have HM := n1_; clear n0_ n1_) | (go_at_call 31; (refine (mkNodeS P u m (q + 1) w0 _ HB2.out HS9.out (by omega) (by omega)).mono ?_); rintro e w' ⟨rfl, hb, hm⟩; have n0_ := am_ hb; have n1_ := am_ (HM.out.trans hm); clear hb hm HB2 HM; have HB2 := n0_; have HM := n1_; clear n0_ n1_))
    go_roundg (ns.length - (j + 1))
    case measure => omega
    case rel => exact ⟨j + 1, q + 1 + 2 * (m : Int), by omega, by omega, rfl, by go_num, ⟨by omega⟩, ⟨by omega⟩, HB2, HM⟩
   ·have hltz : ¬ (j : Int) < (ns.length : Int) := by omega
    have hq := HQ.out
    rw [List.drop_of_length_le (by omega)] at hq
    simp only [mk52] at hq
    have hq2 : q = a + mk52 ns := by omega
    subst hq2
    go_wp2
    go_ret
    exact ⟨rfl, HB2.out, HM.out⟩
theorem mkCommandS (P : Nat → Prop) (v : Value) (ms : List (Nat × List Nat)) (a : Int) (w0 w : World) (hB : Below w0.heap.size w0 w) (hs : Sh50 w P w0.heap.size v ms) (h0 : 0 ≤ a) (h1 : a + mk50 ms ≤ 4611686018427387904) :
  Calls Try.prog 32 #[v, .int .i64 a] w fun e w' => e = .returned (.int .i64 (a + mk50 ms)) ∧ Below w0.heap.size w0 w' ∧ MkRel P w w' := by
 have HSH := am_ hs
 obtain ⟨hn, ⟨hz, rfl⟩ | ⟨g, cap, cur, rfl, hP, hb, hc, hl, hsz, _⟩⟩ := hs
 ·have hns : ms = [] := List.length_eq_zero_iff.1 hz
  subst hns
  clear HSH hz hn
  go_enter Try.func32, Try.ntmps32
  go_wp2
  go_loopg [1, 5] 0 (fun gg v1 v5 wr => v1 = .int .i64 a ∧ v5 = .int .i64 0 ∧ Aside0 (wr = w))
  case atStart => exact ⟨rfl, rfl, ⟨rfl⟩⟩
  case round =>
   obtain ⟨rfl, rfl, HW⟩ := hrel
   have hw := HW.out
   subst hw
   go_wp2
   go_ret
   exact ⟨by simp [mk50], hB, MkRel.refl P _⟩
 ·have HPB := am_ (And.intro hP hb)
  have HB := am_ hB
  clear hc hP hb hB hsz
  go_enter Try.func32, Try.ntmps32
  go_wp2
  go_loopg [1, 5] ms.length (fun gg v1 v5 wr => ∃ (j : Nat) (q : Int), j ≤ ms.length ∧ ms.length - j ≤ gg ∧ v1 = .int .i64 q ∧ v5 = .int .i64 j ∧ Aside0 (q + mk50 (ms.drop j) = a + mk50 ms) ∧ Aside0 (0 ≤ q) ∧ Aside0 (Below w0.heap.size w0 wr) ∧ Aside0 (MkRel P w wr))
  case atStart => exact ⟨0, a, Nat.zero_le _, by omega, rfl, rfl, ⟨by simp⟩, ⟨h0⟩, HB, ⟨MkRel.refl P w⟩⟩
  case round =>
   obtain ⟨j, q, hj, hg, rfl, rfl, HQ, HQ0, HB2, HM⟩ := hrel
   by_cases hlt : j < ms.length
   ·have hltz : (j : Int) < (ms.length : Int) := by omega
    have h0z : 0 ≤ (j : Int) := by omega
    have hq := HQ.out
    have hq0 := HQ0.out
    rw [mk50_drop ms j hlt] at hq
    obtain ⟨_, ⟨hz2, _⟩ | ⟨g2, cap2, c', hv2, _, _, hc1, hl1, hs1, hI⟩⟩ := Sh50.rel HM.out HSH.out
    ·omega
    injection hv2 with hv2 _ hv3
    injection hv2 with hv2
    injection hv2 with hv2
    subst hv2
    subst hv3
    obtain ⟨u1, u2, hu1, hu2, hsu1, hsu2⟩ := hI j hlt
    generalize ms.getD j (0, []) = m at hsu1 hsu2 hq
    obtain ⟨m1, m2⟩ := m
    simp only at hsu1 hsu2 hq
    have hx : wr.cell? ⟨g, j * 2, none⟩ = some u1 := (blk_cell hc1 (j * 2)).trans (by rw [Nat.mul_comm j 2]; exact hu1)
    have HC1 := am_ hc1
    have HU2 := am_ hu2
    have HS1 := am_ hsu1
    have HS2 := am_ hsu2
    clear hc1 hu1 hu2 hsu1 hsu2 hI
    go_wp2_with (first | (go_at_call 31; (refine (mkNodeS P u1 m1 q w0 _ HB2.out HS1.out (by omega) (by omega)).mono ?_); rintro e w9 ⟨rfl, hb, hm⟩; have n0_ := am_ hb; have n1_ := am_ (HM.out.trans hm); obtain ⟨c9, hc9, _, ht9, _⟩ := hm.2 _ _ _ _ HC1.out; have hx9 : w9.cell? ⟨g, j * 2 + 1, none⟩ = some u2 := (blk_cell hc9 (j * 2 + 1)).trans (by rw [ht9 rfl, Nat.mul_comm j 2]; exact HU2.out); have HS9 := am_ (HS2.out.rel hm); clear hb hm HB2 HM hx hc9 ht9 HS2; have HB2 := n0_; have HM := n1_; clear n0_ n1_) | (go_at_call 53; (refine (mkChangeS P u2 m2 (q + 2 * m1) w0 _ HB2.out HS9.out (by omega) (by omega)).mono ?_); rintro e w' ⟨rfl, hb, hm⟩; have n0_ := am_ hb; have n1_ := am_ (HM.out.trans hm); clear hb hm HB2 HM; have HB2 := n0_; have HM := n1_; clear n0_ n1_))
    go_roundg (ms.length - (j + 1))
    case measure => omega
    case rel => exact ⟨j + 1, q + 2 * m1 + mk52 m2, by omega, by omega, rfl, by go_num, ⟨by omega⟩, ⟨by omega⟩, HB2, HM⟩
   ·have hltz : ¬ (j : Int) < (ms.length : Int) := by omega
    have hq := HQ.out
    rw [List.drop_of_length_le (by omega)] at hq
    simp only [mk50] at hq
    have hq2 : q = a + mk50 ms := by omega
    subst hq2
    go_wp2
    go_ret
    exact ⟨rfl, HB2.out, HM.out⟩
/-- How far markProgram counts. -/
def mkTot (l0 : List S73) (l1 : List S50) : Nat := 2 * l0.length + mk50 (l1.map (fun x => (x.f0.length, x.f1.map (fun y => y.f1.length))))
def laws_markProgram.f (k : Nat) (a0_0 a0_1 : Int) (l0_2 : List S73) (l0_3 : List S50) (a1 : Int) : Option Int := if 0 ≤ a1 ∧ a1 + mkTot l0_2 l0_3 ≤ 4611686018427387904 then some (a1 + mkTot l0_2 l0_3) else none
theorem laws_markProgram.calls (k : Nat) (P0_2_ : Nat → Prop) (a0_0 : Int) (a0_1 : Int) (u9002_ : Value) (l0_2 : List S73) (u9003_ : Value) (l0_3 : List S50) (a1 : Int) (r : Int) (w0 w : World) (hB : Below w0.heap.size w0 w) (ho0_2 : Kd.R k73 73 w w0.heap.size P0_2_ u9002_ l0_2) (ho0_3 : Kd.R k50 50 w w0.heap.size P0_2_ u9003_ l0_3) (h : laws_markProgram.f k a0_0 a0_1 l0_2 l0_3 a1 = some r) :
  Calls Try.prog 11 #[.agg #[.int .i64 a0_0, .int .i64 a0_1, u9002_, u9003_], .int .i64 a1] w fun e w' => e = .returned (.int .i64 r) ∧ Below w0.heap.size w0 w' ∧ Kept w w' (fun k_ => P0_2_ k_) := by
 have hf : 0 ≤ a1 ∧ a1 + mkTot l0_2 l0_3 ≤ 4611686018427387904 := by
  rcases Decidable.em (0 ≤ a1 ∧ a1 + mkTot l0_2 l0_3 ≤ 4611686018427387904) with h1 | h1
  ·exact h1
  ·rw [laws_markProgram.f, if_neg h1] at h; cases h
 rw [laws_markProgram.f, if_pos hf] at h
 obtain rfl := Option.some.inj h
 have HS2 := am_ (Sh73.of (Kd.R_mono (Kd.R_bound ho0_2) (fun k hk => (⟨hk.1, hk.2.2.1⟩ : P0_2_ k ∧ k < w.heap.size))))
 have HS3 := am_ (Sh50.of (Kd.R_mono (Kd.R_bound ho0_3) (fun k hk => (⟨hk.1, hk.2.2.1⟩ : P0_2_ k ∧ k < w.heap.size))))
 have HB := am_ hB
 have hu33 := Try.underlying33
 unfold mkTot at hf ⊢
 clear h ho0_2 ho0_3 hB
 generalize l0_3.map (fun x => (x.f0.length, x.f1.map (fun y => y.f1.length))) = ms at HS3 hf ⊢
 generalize l0_2.length = n at HS2 hf ⊢
 obtain ⟨tot, htot⟩ : ∃ tot : Int, a1 + ((2 * n + mk50 ms : Nat) : Int) = tot := ⟨_, rfl⟩
 have ht2 : a1 + 2 * n + mk50 ms = tot := by omega
 rw [htot]
 have HT := am_ ht2
 clear htot ht2
 go_enter Try.func11, Try.ntmps11
 go_wp2_with (first | ((with_reducible refine Sh.d 2 ?_); refine Sh.bx (N := 2) (cs := #[.int .i64 a0_0, .int .i64 a0_1, u9002_, u9003_]) (t := 33) (h := ?_); intro g hg w1 hbox hb; have HBX := am_ hbox; have HG := am_ hg; have HB1 := am_ (below_step HB.out hb); have HM := am_ (show MkRel (fun k => P0_2_ k ∧ k < w.heap.size) w w1 from MkRel.of_below hb); have HS4 := am_ (HS2.out.rel HM.out); have hx := (blk_cell hbox 2).trans (show _ = some u9002_ from rfl); have hfz := blk_frozen hbox 2; clear hg hbox hb) | (go_at_call 31; (refine (mkNodeS (fun k => P0_2_ k ∧ k < w.heap.size) u9002_ n a1 w0 _ HB1.out HS4.out hf.1 (by omega)).mono ?_); rintro e w2 ⟨rfl, hb, hm⟩; have HB2 := am_ hb; have HM2 := am_ (HM.out.trans hm); have hbox2 := blk_kept HBX.out hm.1 (fun h_ => by have := HG.out; omega); have HS5 := am_ (HS3.out.rel HM2.out); have hx2 := (blk_cell hbox2 3).trans (show _ = some u9003_ from rfl); have hfz2 := blk_frozen hbox2 3; clear hb hm hbox2 HM hx hfz) | (go_at_call 32; (refine (mkCommandS (fun k => P0_2_ k ∧ k < w.heap.size) u9003_ ms (a1 + 2 * n) w0 _ HB2.out HS5.out (by omega) (by omega)).mono ?_); rintro e w3 ⟨rfl, hb, hm⟩; have HB3 := am_ hb; have HM3 := am_ (HM2.out.trans hm); clear hb hm))
 go_ret
 exact ⟨by rw [HT.out]; rfl, HB3.out, HM3.out.1.mono (fun k hk => hk.1)⟩
def laws_markIntS.l0 : Nat → List Int → Int → Int → Option (Int × List Int)
 | 0, _, _, _ => none
 | k + 1, x0, x1, x5 => if x5 < (x0.length : Int) then (if 0 ≤ x5 then (laws_markIntS.l0 k (x0.set (x5 : Int).toNat x1) (wrap64 (x1 + 1)) (wrap64 (x5 + 1))) else (none)) else (some (x1, x0))
def laws_markIntS.f (k : Nat) (l0 : List Int) (a1 : Int) : Option (Int × List Int) := laws_markIntS.l0 k l0 a1 0
theorem laws_markIntS.mono_l : ∀ k, (∀ y0 y1 y2, LeO (laws_markIntS.l0 k y0 y1 y2) (laws_markIntS.l0 (k + 1) y0 y1 y2))
 | 0 => fun _ _ _ r h => by simp [laws_markIntS.l0] at h
 | k + 1 => by
  have ih0 := laws_markIntS.mono_l k
  ·intro y0 y1 y2
   unfold laws_markIntS.l0
   repeat' with_reducible first | apply ih0 | exact LeO.refl _ | exact LeO.none _ | apply LeO.ite | refine LeO.bind ?_ fun _ => ?_
theorem laws_markIntS.mono : ∀ a0 a1 k, LeO (laws_markIntS.f k a0 a1) (laws_markIntS.f (k + 1) a0 a1) := by
 intro a0 a1 k
 have ih0 := laws_markIntS.mono_l k
 unfold laws_markIntS.f
 repeat' with_reducible first | apply ih0 | exact LeO.refl _ | exact LeO.none _ | apply LeO.ite | refine LeO.bind ?_ fun _ => ?_
theorem laws_markIntS.calls (k : Nat) (P0_ : Nat → Prop) (u9000_ : Value) (l0 : List Int) (a1 : Int) (r1 : Int) (r2 : List Int) (w0 w : World) (hB : Below w0.heap.size w0 w) (ho0 : Kd.R (Kd.int .i64) 3 w w0.heap.size P0_ u9000_ l0) (h : laws_markIntS.f k l0 a1 = some (r1, r2)) :
  Calls Try.prog 12 #[u9000_, .int .i64 a1] w fun e w' => e = .returned (.int .i64 r1) ∧ Kd.R (Kd.int .i64) 3 w' w0.heap.size (fun k_ => (P0_ k_ ∨ w.heap.size ≤ k_)) u9000_ r2 ∧ Below w0.heap.size w0 w' ∧ Kept w w' (fun k_ => P0_ k_) := by
 have HO0 := am_ (show Kd.R (Kd.int .i64) 3 w w0.heap.size (fun k_ => (P0_ k_ ∨ w.heap.size ≤ k_)) u9000_ l0 from Kd.R_mono ho0 (fun k_ hk => (.inl hk)))
 have HK := am_ (Kept.refl w (fun k_ => P0_ k_))
 have HW0 := am_ hB.size
 have HB := am_ hB
 clear hB
 have H := h
 clear h
 unfold laws_markIntS.f at H
 have H' := am_ H
 clear H
 go_enter Try.func12, Try.ntmps12
 go_wp2
 go_loopg [1, 5] k (fun kq v1 v5 w' => ∃ (x0_1 : List Int) (x1_1 : Int) (x5_1 : Int), v1 = .int .i64 x1_1 ∧ v5 = .int .i64 x5_1 ∧ Aside0 (laws_markIntS.l0 kq x0_1 x1_1 x5_1 = some (r1, r2)) ∧ Aside0 (kq ≤ k) ∧ Aside0 (Kd.R (Kd.int .i64) 3 w' w0.heap.size (fun k_ => (P0_ k_ ∨ w.heap.size ≤ k_)) u9000_ x0_1) ∧ Aside0 (Kept w w' (fun k_ => P0_ k_)) ∧ Aside0 (Below w0.heap.size w0 w'))
 case atStart => exact ⟨(l0), (a1), (0), (Sh.es), (Sh.es), H', ⟨Nat.le_refl _⟩, ⟨Sh.rl HO0.out⟩, ⟨by repeat (first | (with_reducible first | exact HK.out | apply Kept.alloc | apply Kept.drewN | apply Kept.drew) | exact HK.out)⟩, ⟨Sh.bw⟩⟩
 case round =>
  clear H'
  obtain ⟨x0_1, x1_1, x5_1, rfl, rfl, HA, HK1, HO_0, HK, HB⟩ := hrel
  cases gk with
  | zero => exact absurd HA.out (by simp [laws_markIntS.l0])
  | succ k1 =>
   have H := HA.out
   clear HA
   simp only [laws_markIntS.l0] at H
   by_cases c3 : x5_1 < (x0_1.length : Int)
   ·rw [if_pos c3] at H
    have c3b0 := decide_eq_true c3
    clear c3
    by_cases c4 : 0 ≤ x5_1
    ·rw [if_pos c4] at H
     have c4b0 := decide_eq_true c4
     clear c4
     obtain ⟨y560, hy560⟩ : ∃ y_ : List Int, y_ = (x0_1.set (x5_1 : Int).toNat x1_1) := ⟨_, rfl⟩
     replace H : (laws_markIntS.l0 k1 y560 (wrap64 (x1_1 + 1)) (wrap64 (x5_1 + 1))) = some (r1, r2) := by first | (rw [hy560]; with_reducible exact H) | (have H2_ := (Option.bind_some _ _).symm.trans H; rw [hy560]; with_reducible exact H2_) | (have H2_ := (Option.bind_some _ _).symm.trans H; with_reducible exact H2_) | with_reducible exact H | (rw [hy560]; exact H) | exact H
     have Ny560 := am_ hy560
     clear hy560
     have H' := am_ H
     clear H
     obtain ⟨Ao6, co6, eo6⟩ := Kd.R_slice HO_0.out
     subst eo6
     have p5 : 0 ≤ (x5_1 : Int) := Sh.od
     have q5 : (x5_1 : Int) < ((x0_1.length : Int) : Int) := Sh.od
     obtain ⟨go5, co5, eo5, gb5, gl5, cl5, HG5⟩ := Kd.R_form HO_0.out (by omega)
     (first | cases eo5 | (injection eo5 with ea_ en_ ec_; (first | subst ea_ | (injection ea_ with ea_; subst ea_)); subst ec_; clear en_))
     have GB5 := am_ gb5
     have GG5 := am_ HG5
     clear gb5 gl5 HG5
     have HMgo5 := am_ (show (P0_ go5 ∨ w.heap.size ≤ go5) from (HO_0.out.1 _ rfl))
     obtain ⟨hx5_0, hf5_0⟩ := Kd.R_celln 0 HO_0.out (x5_1 : Int) p5 q5
     replace p5 := eq_true p5
     replace q5 := eq_true q5
     have HP7 := Kd.R_putg HO_0.out (x5_1 : Int) x1_1
     go_wp2_with (first | ((with_reducible refine gate_store (t := 3) (p := 15) rfl ?_); refine store_event (t := 3) (p := 15) (v := ?vo_w8) (w1 := (wr.setCell ⟨go5, (x5_1 : Int).toNat, none⟩ (.int .i64 x1_1))) ?hg ?ho ?hn ?hr ?_; (case ho => rfl); (case hg => rfl); (case hn => rfl); (case hr => first | (go_simp; done) | (go_simp; rfl)); intro w8 hw; have hg : wr.grownBy w8 (some go5) := (by rw [hw]; exact HP7.2); have hp_ : Kd.R (Kd.int .i64) 3 w8 w0.heap.size (fun k_ => (P0_ k_ ∨ w.heap.size ≤ k_)) (.slice (some ⟨go5, 0, none⟩) x0_1.length co6) y560 := (by rw [hw, Ny560.out]; exact HP7.1); clear HP7; replace HB := am_ ((by rw [hw]; exact below_set (HB.out) GB5.out : Below w0.heap.size w0 w8)); replace HK := am_ (Kept.of_grown (S := (fun k_ => P0_ k_)) hg (by repeat (first | (with_reducible first | exact HK.out | apply Kept.alloc | apply Kept.drewN | apply Kept.drew) | exact HK.out)) (fun k_ e_ => (HO_0.out.1 k_ e_))); replace HO_0 := am_ hp_; clear hg hw hp_))
     go_roundg k1
     case measure => have := HK1.out; omega
     case rel => exact ⟨(y560), (wrap64 (x1_1 + 1)), (wrap64 (x5_1 + 1)), (Sh.es), (Sh.es), H', ⟨by have := HK1.out; omega⟩, ⟨Sh.rl HO_0.out⟩, ⟨by repeat (first | (with_reducible first | exact HK.out | apply Kept.alloc | apply Kept.drewN | apply Kept.drew) | exact HK.out)⟩, ⟨Sh.bw⟩⟩
    ·rw [if_neg c4] at H
     exact absurd H (by simp)
   ·rw [if_neg c3] at H
    have c3b0 := decide_eq_false c3
    clear c3
    simp only [Option.some.injEq, Prod.mk.injEq] at H
    obtain ⟨rfl, rfl⟩ := H
    obtain ⟨Ao9, co9, eo9⟩ := Kd.R_slice HO_0.out
    subst eo9
    go_wp2
    go_ret
    exact ⟨Sh.eR, Sh.rl HO_0.out, Sh.bw, by repeat (first | (with_reducible first | exact HK.out | apply Kept.alloc | apply Kept.drewN | apply Kept.drew) | exact HK.out)⟩
def laws_heldIntS.l0 : Nat → List Int → Int → Int → Option (Int)
 | 0, _, _, _ => none
 | k + 1, x0, x1, x5 => if x5 < (x0.length : Int) then (if 0 ≤ x5 then (if (rd x0 x5) = x1 then (laws_heldIntS.l0 k x0 (wrap64 (x1 + 1)) (wrap64 (x5 + 1))) else (some (-1))) else (none)) else (some x1)
def laws_heldIntS.f (k : Nat) (l0 : List Int) (a1 : Int) : Option (Int) := laws_heldIntS.l0 k l0 a1 0
theorem laws_heldIntS.mono_l : ∀ k, (∀ y0 y1 y2, LeO (laws_heldIntS.l0 k y0 y1 y2) (laws_heldIntS.l0 (k + 1) y0 y1 y2))
 | 0 => fun _ _ _ r h => by simp [laws_heldIntS.l0] at h
 | k + 1 => by
  have ih0 := laws_heldIntS.mono_l k
  ·intro y0 y1 y2
   unfold laws_heldIntS.l0
   repeat' with_reducible first | apply ih0 | exact LeO.refl _ | exact LeO.none _ | apply LeO.ite | refine LeO.bind ?_ fun _ => ?_
theorem laws_heldIntS.mono : ∀ a0 a1 k, LeO (laws_heldIntS.f k a0 a1) (laws_heldIntS.f (k + 1) a0 a1) := by
 intro a0 a1 k
 have ih0 := laws_heldIntS.mono_l k
 unfold laws_heldIntS.f
 repeat' with_reducible first | apply ih0 | exact LeO.refl _ | exact LeO.none _ | apply LeO.ite | refine LeO.bind ?_ fun _ => ?_
theorem laws_heldIntS.calls (k : Nat) (A0 : Option Addr) (c0 : Nat) (l0 : List Int) (a1 : Int) (r : Int) (w : World) (hr0 : Kd.C (Kd.int .i64) w A0 l0.length l0) (hc0 : l0.length ≤ c0) (h : laws_heldIntS.f k l0 a1 = some r) :
  Calls Try.prog 13 #[.slice A0 l0.length c0, .int .i64 a1] w fun e w' => e = .returned (.int .i64 r) ∧ Drawn0 w w' := by
 have HR0 := am_ hr0
 have HC0 := am_ hc0
 clear hr0 hc0
 have H := h
 clear h
 unfold laws_heldIntS.f at H
 have H' := am_ H
 clear H
 go_enter Try.func13, Try.ntmps13
 go_wp2
 go_loopg [1, 5] k (fun kq v1 v5 w' => ∃ (x1_1 : Int) (x5_1 : Int), v1 = .int .i64 x1_1 ∧ v5 = .int .i64 x5_1 ∧ Aside0 (laws_heldIntS.l0 kq l0 x1_1 x5_1 = some r) ∧ Aside0 (kq ≤ k) ∧ Drawn0 w w')
 case atStart => exact ⟨(a1), (0), (Sh.es), (Sh.es), H', ⟨Nat.le_refl _⟩, Sh.dr⟩
 case round =>
  clear H'
  obtain ⟨x1_1, x5_1, rfl, rfl, HA, HK1, ⟨m1, rfl⟩⟩ := hrel
  cases gk with
  | zero => exact absurd HA.out (by simp [laws_heldIntS.l0])
  | succ k1 =>
   have H := HA.out
   clear HA
   simp only [laws_heldIntS.l0] at H
   by_cases c3 : x5_1 < (l0.length : Int)
   ·rw [if_pos c3] at H
    have c3b0 := decide_eq_true c3
    clear c3
    by_cases c4 : 0 ≤ x5_1
    ·rw [if_pos c4] at H
     have c4b0 := decide_eq_true c4
     clear c4
     by_cases c5 : (rd l0 x5_1) = x1_1
     ·rw [if_pos c5] at H
      have c5b0 : ((rd l0 x5_1) == x1_1) = true := beq_iff_eq.mpr c5
      have c5b1 : ((rd l0 x5_1) != x1_1) = false := bne_eq_false_iff_eq.mpr c5
      clear c5
      have H' := am_ H
      clear H
      have p561 : 0 ≤ (x5_1 : Int) := Sh.od
      have q561 : x5_1 < (l0.length : Int) := Sh.od
      obtain ⟨ad561, e561, hx561_0⟩ := Kd.at_int HR0.out x5_1 p561 q561
      cases e561
      replace p561 := eq_true p561
      replace q561 := eq_true q561
      go_wp2
      go_roundg k1
      case measure => have := HK1.out; omega
      case rel => exact ⟨(wrap64 (x1_1 + 1)), (wrap64 (x5_1 + 1)), (Sh.es), (Sh.es), H', ⟨by have := HK1.out; omega⟩, Sh.dr⟩
     ·rw [if_neg c5] at H
      have c5b0 : ((rd l0 x5_1) == x1_1) = false := beq_eq_false_iff_ne.mpr c5
      have c5b1 : ((rd l0 x5_1) != x1_1) = true := bne_iff_ne.mpr c5
      obtain rfl := Option.some.inj H
      have p561 : 0 ≤ (x5_1 : Int) := Sh.od
      have q561 : x5_1 < (l0.length : Int) := Sh.od
      obtain ⟨ad561, e561, hx561_0⟩ := Kd.at_int HR0.out x5_1 p561 q561
      cases e561
      replace p561 := eq_true p561
      replace q561 := eq_true q561
      go_wp2
      go_ret
      exact ⟨Sh.es, Sh.dr⟩
    ·rw [if_neg c4] at H
     exact absurd H (by simp)
   ·rw [if_neg c3] at H
    have c3b0 := decide_eq_false c3
    clear c3
    obtain rfl := Option.some.inj H
    go_wp2
    go_ret
    exact ⟨Sh.es, Sh.dr⟩
end Go.Proofs.Ytjenmoopbmklfaa.P
