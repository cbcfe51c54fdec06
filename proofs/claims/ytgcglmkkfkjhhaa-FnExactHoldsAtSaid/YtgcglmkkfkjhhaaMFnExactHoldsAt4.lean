/- Go functions of this seat as Lean functions, and the proofs that the calls come to what these say; printed by a program of this session. No condition. -/
import Derived.Test.YtgcglmkkfkjhhaaP0
import Derived.Test.YtgcglmkkfkjhhaaMFnExactHoldsAt3
import Derived.Test.YtgcglmkkfkjhhaaMFnExactHoldsAt1
import Derived.Test.YtgcglmkkfkjhhaaP21
set_option linter.unusedVariables false
set_option linter.unusedSimpArgs false
set_option maxHeartbeats 40000000
set_option maxRecDepth 100000
namespace Go.Proofs.Ytgcglmkkfkjhhaa.P
open Go.RowKit Go.Proofs.YtgcglmkkfkjhhaaW.PrintWords Go.Proofs.YtgcglmkkfkjhhaaW.PrintLast Go.Proofs.YtgcglmkkfkjhhaaW.PrintMore Go.Proofs.Ytgcglmkkfkjhhaa.Hof
attribute [local go_sem] max2_int min2_int max_two min_two max_three min_three max_four min_four
def spec_l10At.f (k : Nat) (l0 : List (S43)) (l1_0 : List Int) (l1_1 : List Int) (a2 : Int) : Option (Bool) := (spec_l10Table.f k l0 l1_0 l1_1).bind fun t155 => (if 0 ≤ (wrap64 ((l0.length : Int) - 1)) then (if (wrap64 ((l0.length : Int) - 1)) < (t155.length : Int) then ((spec_l10Fold.f l1_0 l1_1 a2).bind fun t159 => (if 0 ≤ t159 then (if t159 < ((rd_L4 t155 (wrap64 ((l0.length : Int) - 1))).length : Int) then (some (rdOf false (rd_L4 t155 (wrap64 ((l0.length : Int) - 1))) t159)) else (none)) else (none))) else (none)) else (none))
theorem spec_l10At.mono : ∀ a0 a1 a2 a3 k, LeO (spec_l10At.f k a0 a1 a2 a3) (spec_l10At.f (k + 1) a0 a1 a2 a3) := by
 intro a0 a1 a2 a3 k
 unfold spec_l10At.f
 repeat' with_reducible first | apply spec_l10Table.mono | exact LeO.refl _ | exact LeO.none _ | apply LeO.ite | refine LeO.bind ?_ fun _ => ?_
def spec_l10At.T1 : Bool × List (List Nat × List Nat) := (true, [([], []), ([], []), ([0, 1], [0, 1]), ([], []), ([3], [3]), ([4], [4]), ([2, 5], [2, 5]), ([6], [6]), ([], []), ([], []), ([8, 9, 2], [8, 9]), ([7, 10], [7, 10]), ([11], [11]), ([12, 10, 0, 1, 2, 3, 4, 5, 6, 7, 8, 9, 10, 11, 12], [12])])
def spec_l10At.B1 : List Nat := [0, 0, 3, 0, 8, 24, 63, 127, 0, 0, 775, 2047, 4095, 8191]
theorem spec_l10At.tab1 : rtab .any (opsOf Try.f16 1) = spec_l10At.T1 := by kernel_rfl
theorem spec_l10At.bits1 : waitsOk spec_l10At.T1.2 spec_l10At.B1 = true := by kernel_rfl
theorem spec_l10At.calls (k : Nat) (A0 : Option Addr) (c0 : Nat) (l0 : List (S43)) (A1_0 : Option Addr) (c1_0 : Nat) (l1_0 : List Int) (A1_1 : Option Addr) (c1_1 : Nat) (l1_1 : List Int) (a2 : Int) (r : Bool) (w : World) (hr0 : Kd.C k43 w A0 l0.length l0) (hc0 : l0.length ≤ c0) (hr1_0 : Kd.C (Kd.int .i64) w A1_0 l1_0.length l1_0) (hc1_0 : l1_0.length ≤ c1_0) (hr1_1 : Kd.C (Kd.int .i64) w A1_1 l1_1.length l1_1) (hc1_1 : l1_1.length ≤ c1_1) (h : spec_l10At.f k l0 l1_0 l1_1 a2 = some r) :
  Calls Try.prog 16 #[.slice A0 l0.length c0, .agg #[.slice A1_0 l1_0.length c1_0, .slice A1_1 l1_1.length c1_1], .int .i64 a2] w fun e w' => e = .returned (.bool r) ∧ Below w.heap.size w w' := by
 have hu32 := Try.underlying32
 have HR0 := am_ hr0
 have HC0 := am_ hc0
 clear hr0 hc0
 have HR1_0 := am_ hr1_0
 have HC1_0 := am_ hc1_0
 clear hr1_0 hc1_0
 have HR1_1 := am_ hr1_1
 have HC1_1 := am_ hc1_1
 clear hr1_1 hc1_1
 have HB := am_ (Below.refl w.heap.size w)
 have H := h
 clear h
 unfold spec_l10At.f at H
 obtain ⟨t155, A4, H⟩ := Sh.ba H
 obtain ⟨ji5, hj1⟩ : ∃ j_ : Int, (wrap64 ((l0.length : Int) - 1)) = j_ := ⟨_, rfl⟩
 replace H : (if 0 ≤ (ji5) then (if (ji5) < (t155.length : Int) then ((spec_l10Fold.f l1_0 l1_1 a2).bind fun t159 => (if 0 ≤ t159 then (if t159 < ((rd_L4 t155 (ji5)).length : Int) then (some (rdOf false (rd_L4 t155 (ji5)) t159)) else (none)) else (none))) else (none)) else (none)) = some r := by first | (rw [hj1] at H; exact H) | (simp only [hj1] at H ⊢; exact H)
 (try rw [hj1] at A4)
 have hji5w : (IntKind.i64.wrap ((l0.length : Int) - 1)) = ji5 := (i64_w _).trans hj1
 by_cases c6 : 0 ≤ (ji5)
 ·rw [if_pos c6] at H
  have c6b0 := decide_eq_true c6
  clear c6
  by_cases c7 : (ji5) < (t155.length : Int)
  ·rw [if_pos c7] at H
   have c7b0 := decide_eq_true c7
   clear c7
   obtain ⟨t159, A8, H⟩ := Sh.ba H
   by_cases c9 : 0 ≤ t159
   ·rw [if_pos c9] at H
    have c9b0 := decide_eq_true c9
    clear c9
    by_cases c10 : t159 < ((rd_L4 t155 (ji5)).length : Int)
    ·rw [if_pos c10] at H
     have c10b0 := decide_eq_true c10
     clear c10
     obtain rfl := Option.some.inj H
     go_enter Try.func16, Try.ntmps16
     try go_wp2_with (first | ((with_reducible refine Sh.d 4 ?_); refine Sh.bz w (N := 4) (cs := #[.slice A1_0 l1_0.length c1_0, .slice A1_1 l1_1.length c1_1]) (t := 32) (h := ?_); clear HB; intro gb154 w11 BK154 GE154 HB))
     replace BK154 := am_ (blk_drew BK154.out)
     replace HB := am_ (below_drew1 HB.out)
     refine start_ (n := 14) (S := fun w' => w'.cell? ⟨gb154, 0, none⟩ = some (.slice A1_0 l1_0.length c1_0) ∧ w'.cell? ⟨gb154, 1, none⟩ = some (.slice A1_1 l1_1.length c1_1)) (ds := []) (Sh.nm 14 0) (by kernel_rfl) rfl rfl ⟨(blk_cell BK154.out 0).trans rfl, (blk_cell BK154.out 1).trans rfl⟩ (fun hHeld => ?_); refine with_tabW spec_l10At.tab1 spec_l10At.bits1 (fun HT_ HW_ => ?_)
     generalize w11.drew = w12 at BK154 HB hHeld ⊢
     refine Sh.qA 0 ?_; refine Sh.qA 3 ?_; refine Sh.qA 4 ?_; refine Sh.qA 5 ?_; refine Sh.qA 9 ?_; refine Sh.qT 1 hHeld ?_; refine Sh.qT 8 hHeld ?_
     refine Sh.oC 2 Try.func28 #[.slice A0 l0.length c0, .agg #[.slice A1_0 l1_0.length c1_0, .slice A1_1 l1_1.length c1_1]] fun K hK => ?_
     with_reducible refine (spec_l10Table.calls k _ _ l0 _ _ l1_0 _ _ l1_1 t155 _ (Sh.cB HR0.out) HC0.out (Sh.cB HR1_0.out) HC1_0.out (Sh.cB HR1_1.out) HC1_1.out A4.out).mono ?_
     rintro e w13 ⟨v156, rfl, ho0, hb⟩
     refine ⟨_, rfl, ?_⟩
     obtain ⟨Ao14, co14, eo14⟩ := Kd.S_slice ho0
     subst eo14
     have p158 : 0 ≤ ((ji5) : Int) := Sh.od
     have q158 : (ji5) < (t155.length : Int) := Sh.od
     obtain ⟨ad158, A158_0, c158_0, e158, hx158_0, hl158_0, hi158_0⟩ := at_L4 (Kd.S_reads' ho0).2.2 (ji5) p158 q158
     cases e158
     have p160 : 0 ≤ (t159 : Int) := Sh.od
     have q160 : t159 < ((rd_L4 t155 (ji5)).length : Int) := Sh.od
     obtain ⟨ad160, e160, hx160_0⟩ := Kd.at_bool hi158_0 t159 p160 q160
     cases e160
     replace BK154 := Sh.ab BK154 hb
     replace HB := Sh.hb hb
     have HS2 := am_ hx158_0
     have HS3 := am_ hx160_0
     clear hb ho0 hi158_0 hl158_0 hx158_0 hx160_0
     replace p158 := eq_true p158
     replace q158 := eq_true q158
     replace p160 := eq_true p160
     replace q160 := eq_true q160
     refine Sh.kN hK ⟨(blk_cell BK154.out 0).trans rfl, (blk_cell BK154.out 1).trans rfl⟩ fun hHeld => ?_
     clear hK K
     refine Sh.qA 6 ?_
     refine two_ (i := 7) (j := 10) (Ni := some 14) (Nj := some 17) (Sh.nm 14 1023) (Sh.nm 14 1919) rfl rfl rfl rfl (two_of HT_.out (by kernel_rfl)) (by decide) (by decide) (fun K hK => ?_) (fun K hK => ?_)
     · have hx158_0 := HS2.out
       refine value_ (w1 := ?_) (v := ?_) (by rfl) rfl ?_ ?_
       rotate_left 2
       · go_simp
         constructor
         · rfl
         · rfl
       refine hK.out _ _ hHeld (fun hHeld => ?_)
       clear hK K
       refine norm_ (a' := ?_) ?_ ?_
       rotate_left
       · show Act.put _ (some 14) _ = _
         simp only [Act.put, List.setIfInBounds_toArray, List.set_cons_zero, List.set_cons_succ, i64_w, i32_w]
         rfl
       refine Sh.oC 10 Try.func29 #[.agg #[.slice A1_0 l1_0.length c1_0, .slice A1_1 l1_1.length c1_1], .int .i64 a2] fun K hK => ?_
       with_reducible refine (spec_l10Fold.calls _ _ l1_0 _ _ l1_1 a2 t159 _ (Sh.cB HR1_0.out) HC1_0.out (Sh.cB HR1_1.out) HC1_1.out A8.out).mono ?_
       rintro e w15 ⟨rfl, hb⟩
       refine ⟨_, rfl, ?_⟩
       have hx160_0 := (hb.cell (World.block_lt_of_cell? _ _ HS3.out)).trans HS3.out
       replace BK154 := Sh.ab BK154 hb
       replace HB := Sh.hb hb
       clear hb hx158_0
       refine Sh.kN hK ⟨(blk_cell BK154.out 0).trans rfl, (blk_cell BK154.out 1).trans rfl⟩ fun hHeld => ?_
       clear hK K
       refine Sh.qA 11 ?_
       refine one_ (i := 12) (N := some 19) (Sh.nm 14 8191) rfl rfl (one_of HT_.out (by kernel_rfl)) (by decide) (fun K hK => ?_)
       refine value_ (w1 := ?_) (v := ?_) (by rfl) rfl ?_ ?_
       rotate_left 2
       · go_simp
         constructor
         · rfl
         · rfl
       refine hK.out _ _ hHeld (fun hHeld => ?_)
       clear hK K
       refine norm_ (a' := ?_) ?_ ?_
       rotate_left
       · show Act.put _ (some 19) _ = _
         simp only [Act.put, List.setIfInBounds_toArray, List.set_cons_zero, List.set_cons_succ, i64_w, i32_w]
         rfl
       refine Sh.qA 13 ?_
       refine done_ (done_of HT_.out (by kernel_rfl)) ?_
       try go_wp2
       go_ret
       exact ⟨by first | rfl | (simp only [← hj1]; first | rfl | simp), Sh.bw⟩
     · refine goes_ Try.func29 (by kernel_rfl) rfl #[.agg #[.slice A1_0 l1_0.length c1_0, .slice A1_1 l1_1.length c1_1], .int .i64 a2] (by rfl) rfl rfl (by simp only [List.map_toArray, List.map_cons, List.map_nil]; rfl) ?_
       with_reducible refine (spec_l10Fold.calls _ _ l1_0 _ _ l1_1 a2 t159 _ (Sh.cB HR1_0.out) HC1_0.out (Sh.cB HR1_1.out) HC1_1.out A8.out).mono ?_
       rintro e w15 ⟨rfl, hb⟩
       refine ⟨_, rfl, ?_⟩
       have hx158_0 := (hb.cell (World.block_lt_of_cell? _ _ HS2.out)).trans HS2.out
       have hx160_0 := (hb.cell (World.block_lt_of_cell? _ _ HS3.out)).trans HS3.out
       replace BK154 := Sh.ab BK154 hb
       replace HB := Sh.hb hb
       clear hb
       refine hK.out _ _ ⟨(blk_cell BK154.out 0).trans rfl, (blk_cell BK154.out 1).trans rfl⟩ (fun hHeld => ?_)
       clear hK K
       refine norm_ (a' := ?_) ?_ ?_
       rotate_left
       · show Act.put _ (some 17) _ = _
         simp only [Act.put, List.setIfInBounds_toArray, List.set_cons_zero, List.set_cons_succ, i64_w, i32_w]
         rfl
       refine one_ (i := 7) (N := some 14) (Sh.nm 14 2047) rfl rfl (one_of HT_.out (by kernel_rfl)) (by decide) (fun K hK => ?_)
       refine value_ (w1 := ?_) (v := ?_) (by rfl) rfl ?_ ?_
       rotate_left 2
       · go_simp
         constructor
         · rfl
         · rfl
       refine hK.out _ _ hHeld (fun hHeld => ?_)
       clear hK K
       refine norm_ (a' := ?_) ?_ ?_
       rotate_left
       · show Act.put _ (some 14) _ = _
         simp only [Act.put, List.setIfInBounds_toArray, List.set_cons_zero, List.set_cons_succ, i64_w, i32_w]
         rfl
       refine Sh.qA 11 ?_
       refine one_ (i := 12) (N := some 19) (Sh.nm 14 8191) rfl rfl (one_of HT_.out (by kernel_rfl)) (by decide) (fun K hK => ?_)
       refine value_ (w1 := ?_) (v := ?_) (by rfl) rfl ?_ ?_
       rotate_left 2
       · go_simp
         constructor
         · rfl
         · rfl
       refine hK.out _ _ hHeld (fun hHeld => ?_)
       clear hK K
       refine norm_ (a' := ?_) ?_ ?_
       rotate_left
       · show Act.put _ (some 19) _ = _
         simp only [Act.put, List.setIfInBounds_toArray, List.set_cons_zero, List.set_cons_succ, i64_w, i32_w]
         rfl
       refine Sh.qA 13 ?_
       refine done_ (done_of HT_.out (by kernel_rfl)) ?_
       try go_wp2
       go_ret
       exact ⟨by first | rfl | (simp only [← hj1]; first | rfl | simp), Sh.bw⟩
    ·rw [if_neg c10] at H
     exact absurd H (by simp)
   ·rw [if_neg c9] at H
    exact absurd H (by simp)
  ·rw [if_neg c7] at H
   exact absurd H (by simp)
 ·rw [if_neg c6] at H
  exact absurd H (by simp)
def spec_HoldsAt.f (k : Nat) (l0 : List (S43)) (l1_0 : List Int) (l1_1 : List Int) (a2 : Int) : Option (Bool × Bool) := (spec_GoodSaid.f k l0).bind fun t162 => (if t162 = true then ((spec_GoodLasso.f k l1_0 l1_1).bind fun t163 => (if t163 = true then ((spec_l1In.f a2 0 1000).bind fun t164 => (if t164 = true then ((spec_l10At.f k l0 l1_0 l1_1 a2).bind fun t165 => (some (t165, true))) else (some (false, false)))) else (some (false, false)))) else (some (false, false)))
theorem spec_HoldsAt.mono : ∀ a0 a1 a2 a3 k, LeO (spec_HoldsAt.f k a0 a1 a2 a3) (spec_HoldsAt.f (k + 1) a0 a1 a2 a3) := by
 intro a0 a1 a2 a3 k
 unfold spec_HoldsAt.f
 repeat' with_reducible first | apply spec_GoodLasso.mono | apply spec_GoodSaid.mono | apply spec_l10At.mono | exact LeO.refl _ | exact LeO.none _ | apply LeO.ite | refine LeO.bind ?_ fun _ => ?_
theorem spec_HoldsAt.calls (k : Nat) (A0 : Option Addr) (c0 : Nat) (l0 : List (S43)) (A1_0 : Option Addr) (c1_0 : Nat) (l1_0 : List Int) (A1_1 : Option Addr) (c1_1 : Nat) (l1_1 : List Int) (a2 : Int) (r1 : Bool) (r2 : Bool) (w : World) (hr0 : Kd.C k43 w A0 l0.length l0) (hc0 : l0.length ≤ c0) (hr1_0 : Kd.C (Kd.int .i64) w A1_0 l1_0.length l1_0) (hc1_0 : l1_0.length ≤ c1_0) (hr1_1 : Kd.C (Kd.int .i64) w A1_1 l1_1.length l1_1) (hc1_1 : l1_1.length ≤ c1_1) (h : spec_HoldsAt.f k l0 l1_0 l1_1 a2 = some (r1, r2)) :
  Calls Try.prog 6 #[.slice A0 l0.length c0, .agg #[.slice A1_0 l1_0.length c1_0, .slice A1_1 l1_1.length c1_1], .int .i64 a2] w fun e w' => e = .returned (.tuple #[.bool r1, .bool r2]) ∧ Below w.heap.size w w' := by
 have hu32 := Try.underlying32
 have HR0 := am_ hr0
 have HC0 := am_ hc0
 clear hr0 hc0
 have HR1_0 := am_ hr1_0
 have HC1_0 := am_ hc1_0
 clear hr1_0 hc1_0
 have HR1_1 := am_ hr1_1
 have HC1_1 := am_ hc1_1
 clear hr1_1 hc1_1
 have HB := am_ (Below.refl w.heap.size w)
 have H := h
 clear h
 unfold spec_HoldsAt.f at H
 obtain ⟨t162, A4, H⟩ := Sh.ba H
 by_cases c5 : t162 = true
 ·subst c5
  rw [if_pos rfl] at H
  obtain ⟨t163, A6, H⟩ := Sh.ba H
  by_cases c7 : t163 = true
  ·subst c7
   rw [if_pos rfl] at H
   obtain ⟨t164, A8, H⟩ := Sh.ba H
   by_cases c9 : t164 = true
   ·subst c9
    rw [if_pos rfl] at H
    obtain ⟨t165, A10, H⟩ := Sh.ba H
    simp only [Option.some.injEq, Prod.mk.injEq] at H
    obtain ⟨rfl, rfl⟩ := H
    go_enter Try.func6, Try.ntmps6
    go_wp2_with (first | ((with_reducible refine Sh.d 4 ?_); refine Sh.bz w (N := 4) (cs := #[.slice A1_0 l1_0.length c1_0, .slice A1_1 l1_1.length c1_1]) (t := 32) (h := ?_); clear HB; intro gb161 w11 BK161 GE161 HB) | ((with_reducible refine Sh.k 13 ?_); refine Sh.gB (some 9) Try.func13 #[.slice A0 l0.length c0] (spec_GoodSaid.calls k _ _ l0 true _ (Sh.cB HR0.out) HC0.out A4.out) fun w12 hb => ?_; replace BK161 := Sh.ab BK161 hb; replace HB := Sh.hb hb; (try clear hb); (try clear hb2); (try clear hk); (try clear hi); obtain ⟨hcz13_0, hcz13_1, hfz13_0, hfz13_1⟩ := Sh.b2 BK161.out) | (go_at_call 14; (with_reducible refine (spec_GoodLasso.calls k _ _ l1_0 _ _ l1_1 true _ (Sh.cB HR1_0.out) HC1_0.out (Sh.cB HR1_1.out) HC1_1.out A6.out).mono ?_); rintro e w14 ⟨rfl, hb⟩; replace BK161 := Sh.ab BK161 hb; replace HB := Sh.hb hb; (try clear hb); (try clear hb2); (try clear hk); (try clear hi)) | (go_at_call 15; (with_reducible refine (spec_l1In.calls a2 0 1000 true _ A8.out).mono ?_); rintro e w' ⟨rfl, ⟨nd, rfl⟩⟩; obtain ⟨hcz15_0, hcz15_1, hfz15_0, hfz15_1⟩ := Sh.b2 BK161.out) | ((with_reducible refine Sh.k 16 ?_); refine Sh.gB (some 24) Try.func16 #[.slice A0 l0.length c0, .agg #[.slice A1_0 l1_0.length c1_0, .slice A1_1 l1_1.length c1_1], .int .i64 a2] (spec_l10At.calls k _ _ l0 _ _ l1_0 _ _ l1_1 a2 t165 _ (Sh.cB HR0.out) HC0.out (Sh.cB HR1_0.out) HC1_0.out (Sh.cB HR1_1.out) HC1_1.out A10.out) fun w16 hb => ?_; replace BK161 := Sh.ab BK161 hb; replace HB := Sh.hb hb; (try clear hb); (try clear hb2); (try clear hk); (try clear hi)))
    go_ret2
    exact ⟨Sh.eR, Sh.bw⟩
   ·replace c9 := Bool.eq_false_iff.mpr c9
    subst c9
    rw [Sh.nf] at H
    simp only [Option.some.injEq, Prod.mk.injEq] at H
    obtain ⟨rfl, rfl⟩ := H
    go_enter Try.func6, Try.ntmps6
    go_wp2_with (first | ((with_reducible refine Sh.d 4 ?_); refine Sh.bz w (N := 4) (cs := #[.slice A1_0 l1_0.length c1_0, .slice A1_1 l1_1.length c1_1]) (t := 32) (h := ?_); clear HB; intro gb161 w17 BK161 GE161 HB) | ((with_reducible refine Sh.k 13 ?_); refine Sh.gB (some 9) Try.func13 #[.slice A0 l0.length c0] (spec_GoodSaid.calls k _ _ l0 true _ (Sh.cB HR0.out) HC0.out A4.out) fun w18 hb => ?_; replace BK161 := Sh.ab BK161 hb; replace HB := Sh.hb hb; (try clear hb); (try clear hb2); (try clear hk); (try clear hi); obtain ⟨hcz19_0, hcz19_1, hfz19_0, hfz19_1⟩ := Sh.b2 BK161.out) | (go_at_call 14; (with_reducible refine (spec_GoodLasso.calls k _ _ l1_0 _ _ l1_1 true _ (Sh.cB HR1_0.out) HC1_0.out (Sh.cB HR1_1.out) HC1_1.out A6.out).mono ?_); rintro e w20 ⟨rfl, hb⟩; replace BK161 := Sh.ab BK161 hb; replace HB := Sh.hb hb; (try clear hb); (try clear hb2); (try clear hk); (try clear hi)) | (go_at_call 15; (with_reducible refine (spec_l1In.calls a2 0 1000 false _ A8.out).mono ?_); rintro e w' ⟨rfl, ⟨nd, rfl⟩⟩))
    go_ret2
    exact ⟨Sh.eR, Sh.bw⟩
  ·replace c7 := Bool.eq_false_iff.mpr c7
   subst c7
   rw [Sh.nf] at H
   simp only [Option.some.injEq, Prod.mk.injEq] at H
   obtain ⟨rfl, rfl⟩ := H
   go_enter Try.func6, Try.ntmps6
   go_wp2_with (first | ((with_reducible refine Sh.d 4 ?_); refine Sh.bz w (N := 4) (cs := #[.slice A1_0 l1_0.length c1_0, .slice A1_1 l1_1.length c1_1]) (t := 32) (h := ?_); clear HB; intro gb161 w21 BK161 GE161 HB) | ((with_reducible refine Sh.k 13 ?_); refine Sh.gB (some 9) Try.func13 #[.slice A0 l0.length c0] (spec_GoodSaid.calls k _ _ l0 true _ (Sh.cB HR0.out) HC0.out A4.out) fun w22 hb => ?_; replace BK161 := Sh.ab BK161 hb; replace HB := Sh.hb hb; (try clear hb); (try clear hb2); (try clear hk); (try clear hi); obtain ⟨hcz23_0, hcz23_1, hfz23_0, hfz23_1⟩ := Sh.b2 BK161.out) | (go_at_call 14; (with_reducible refine (spec_GoodLasso.calls k _ _ l1_0 _ _ l1_1 false _ (Sh.cB HR1_0.out) HC1_0.out (Sh.cB HR1_1.out) HC1_1.out A6.out).mono ?_); rintro e w24 ⟨rfl, hb⟩; replace BK161 := Sh.ab BK161 hb; replace HB := Sh.hb hb; (try clear hb); (try clear hb2); (try clear hk); (try clear hi)))
   go_ret2
   exact ⟨Sh.eR, Sh.bw⟩
 ·replace c5 := Bool.eq_false_iff.mpr c5
  subst c5
  rw [Sh.nf] at H
  simp only [Option.some.injEq, Prod.mk.injEq] at H
  obtain ⟨rfl, rfl⟩ := H
  go_enter Try.func6, Try.ntmps6
  go_wp2_with (first | ((with_reducible refine Sh.d 4 ?_); refine Sh.bz w (N := 4) (cs := #[.slice A1_0 l1_0.length c1_0, .slice A1_1 l1_1.length c1_1]) (t := 32) (h := ?_); clear HB; intro gb161 w25 BK161 GE161 HB) | ((with_reducible refine Sh.k 13 ?_); refine Sh.gB (some 9) Try.func13 #[.slice A0 l0.length c0] (spec_GoodSaid.calls k _ _ l0 false _ (Sh.cB HR0.out) HC0.out A4.out) fun w26 hb => ?_; replace BK161 := Sh.ab BK161 hb; replace HB := Sh.hb hb; (try clear hb); (try clear hb2); (try clear hk); (try clear hi)))
  go_ret2
  exact ⟨Sh.eR, Sh.bw⟩
def laws_toSaid.f (a0_0 : Int) (a0_1 : Int) : Option (Int × Int) := some (a0_0, a0_1)
theorem laws_toSaid.calls (a0_0 : Int) (a0_1 : Int) (r1 : Int) (r2 : Int) (w : World) (h : laws_toSaid.f a0_0 a0_1 = some (r1, r2)) :
  Calls Try.prog 17 #[.agg #[.int .i64 a0_0, .int .i64 a0_1]] w fun e w' => e = .returned (.agg #[.int .i64 r1, .int .i64 r2]) ∧ Below w.heap.size w w' := by
 have hu45 := Try.underlying45
 have hu43 := Try.underlying43
 have HB := am_ (Below.refl w.heap.size w)
 have H := h
 clear h
 unfold laws_toSaid.f at H
 simp only [Option.some.injEq, Prod.mk.injEq] at H
 obtain ⟨rfl, rfl⟩ := H
 go_enter Try.func17, Try.ntmps17
 go_wp2_with (first | ((with_reducible refine Sh.d 1 ?_); refine Sh.bz w (N := 1) (cs := #[.int .i64 a0_0, .int .i64 a0_1]) (t := 45) (h := ?_); clear HB; intro gb166 w2 BK166 GE166 HB) | ((with_reducible refine Sh.d 2 ?_); refine Sh.bx (N := 2) (cs := #[.int .i64 0, .int .i64 0]) (t := 43) (h := ?_); intro gb167 hg w3 hbox hb; have BK167 := am_ hbox; have GE167 := Sh.ag w hg; replace HB := Sh.hb hb; have NB166_167 := am_ (Sh.nl hg BK166.out); have NB167_166 := am_ (Sh.ng hg BK166.out); replace BK166 := Sh.ab BK166 hb; clear hb hbox hg) | ((with_reducible refine Sh.d 3 ?_); refine Sh.bx (N := 3) (cs := #[.int .i64 0, .int .i64 0]) (t := 43) (h := ?_); intro gb168 hg w4 hbox hb; have BK168 := am_ hbox; have GE168 := Sh.ag w hg; replace HB := Sh.hb hb; have NB166_168 := am_ (Sh.nl hg BK166.out); have NB168_166 := am_ (Sh.ng hg BK166.out); replace BK166 := Sh.ab BK166 hb; have NB167_168 := am_ (Sh.nl hg BK167.out); have NB168_167 := am_ (Sh.ng hg BK167.out); replace BK167 := Sh.ab BK167 hb; clear hb hbox hg; have hnb5 := NB166_167.out; have hnc5 := NB167_166.out; have hnb6 := NB166_168.out; have hnc6 := NB168_166.out; obtain ⟨hcz7_0, hcz7_1, hfz7_0, hfz7_1⟩ := Sh.b2 BK166.out; have hnb8 := NB168_167.out; have hnc8 := NB167_168.out; obtain ⟨hcz9_0, hcz9_1, hfz9_0, hfz9_1⟩ := Sh.b2 BK168.out; obtain ⟨hcz10_0, hcz10_1, hfz10_0, hfz10_1⟩ := Sh.b2 BK167.out))
 refine bodyPost_ret (results_cell_row rfl _ _ gb167 43 #[.int .i64 a0_0, .int .i64 a0_1] (0, 0) _ rfl (by refine Sh.pl ?_; refine blk_put (cs := #[.int .i64 a0_0, .int .i64 0]) ?_ 1 _ rfl; refine Sh.pl ?_; refine blk_put (cs := #[.int .i64 0, .int .i64 0]) ?_ 0 _ rfl; refine Sh.pl ?_; refine blk_far ?_ NB167_168.out _; refine Sh.pl ?_; refine blk_far ?_ NB167_168.out _; refine Sh.pl ?_; exact BK167.out) Try.underlying43 rfl (by kernel_rfl)) rfl ?_
 exact ⟨Sh.eR, Sh.bw⟩
def laws_toSaidS.l0 : Nat → List (S45) → List (S43) → Int → Option ((List (S43)))
 | 0, _, _, _ => none
 | k + 1, x0, x3, x4 => if x4 < (x0.length : Int) then (if 0 ≤ x4 then ((laws_toSaid.f ((rd_T45 x0 x4).f0) ((rd_T45 x0 x4).f1)).bind fun bt173 => (if x4 < (x3.length : Int) then (laws_toSaidS.l0 k x0 (x3.set (x4 : Int).toNat (⟨bt173.1, bt173.2⟩ : S43)) (wrap64 (x4 + 1))) else (none))) else (none)) else (some x3)
def laws_toSaidS.f (k : Nat) (l0 : List (S45)) : Option ((List (S43))) := if 0 ≤ (l0.length : Int) then (if ((l0.length : Int) : Int).toNat ≤ 17592186044416 then (laws_toSaidS.l0 k l0 (List.replicate ((l0.length : Int) : Int).toNat z43) 0) else (none)) else (none)
theorem laws_toSaidS.mono_l : ∀ k, (∀ y0 y1 y2, LeO (laws_toSaidS.l0 k y0 y1 y2) (laws_toSaidS.l0 (k + 1) y0 y1 y2))
 | 0 => fun _ _ _ r h => by simp [laws_toSaidS.l0] at h
 | k + 1 => by
  have ih0 := laws_toSaidS.mono_l k
  ·intro y0 y1 y2
   unfold laws_toSaidS.l0
   repeat' with_reducible first | apply ih0 | exact LeO.refl _ | exact LeO.none _ | apply LeO.ite | refine LeO.bind ?_ fun _ => ?_
theorem laws_toSaidS.mono : ∀ a0 k, LeO (laws_toSaidS.f k a0) (laws_toSaidS.f (k + 1) a0) := by
 intro a0 k
 have ih0 := laws_toSaidS.mono_l k
 unfold laws_toSaidS.f
 repeat' with_reducible first | apply ih0 | exact LeO.refl _ | exact LeO.none _ | apply LeO.ite | refine LeO.bind ?_ fun _ => ?_
theorem laws_toSaidS.calls (k : Nat) (A0 : Option Addr) (c0 : Nat) (l0 : List (S45)) (r : List (S43)) (w : World) (hr0 : Kd.C k45 w A0 l0.length l0) (hc0 : l0.length ≤ c0) (h : laws_toSaidS.f k l0 = some r) :
  Calls Try.prog 7 #[.slice A0 l0.length c0] w fun e w' => ∃ v0_ : Value, e = .returned (v0_) ∧ Kd.R k43 43 w' w.heap.size (fun _ => True) v0_ r ∧ Below w.heap.size w w' := by
 have hu45 := Try.underlying45
 have hu43 := Try.underlying43
 have HR0 := am_ hr0
 have HC0 := am_ hc0
 clear hr0 hc0
 have HB := am_ (Below.refl w.heap.size w)
 have H := h
 clear h
 unfold laws_toSaidS.f at H
 by_cases c2 : 0 ≤ (l0.length : Int)
 ·rw [if_pos c2] at H
  have c2b0 := eq_true c2
  have c2b1 := decide_eq_true c2
  clear c2
  by_cases c3 : ((l0.length : Int) : Int).toNat ≤ 17592186044416
  ·rw [if_pos c3] at H
   have c3b0 := eq_true c3
   have c3b1 := decide_eq_true c3
   clear c3
   obtain ⟨y169, hy169⟩ : ∃ y_ : List (S43), y_ = (List.replicate ((l0.length : Int) : Int).toNat z43) := ⟨_, rfl⟩
   replace H : (laws_toSaidS.l0 k l0 y169 0) = some r := by first | (rw [hy169]; with_reducible exact H) | (have H2_ := (Option.bind_some _ _).symm.trans H; rw [hy169]; with_reducible exact H2_) | (have H2_ := (Option.bind_some _ _).symm.trans H; with_reducible exact H2_) | with_reducible exact H | (rw [hy169]; exact H) | exact H
   have Ny169 := am_ hy169
   clear hy169
   have H' := am_ H
   clear H
   go_enter Try.func7, Try.ntmps7
   go_wp2_with (first | ((with_reducible refine Sh.d 7 ?_); refine Kd.R_make k43 _ 43 rfl (N := 7) rfl 30 _ _ rfl (l0.length : Int) rfl rfl Try.underlying30 (.agg #[(.int .i64 0), (.int .i64 0)]) 16 info43 rfl (by decide) (by omega) z43 (ok := fun _ => True) (okp := fun _ => True) (k43_mkM _ _ _ z43 ) (fun _ hk => hk) trivial (of_decide_eq_true (by first | (with_reducible assumption) | assumption)) (Nat.le_trans (Nat.mul_le_mul_right _ (of_decide_eq_true (by first | (with_reducible assumption) | assumption) : (l0.length : Int).toNat ≤ 17592186044416)) (by omega)) (Below.refl _ _) (Nat.le_refl _) ?_; intro v170 w4 ho5 hb hg_ hnew_; clear hg_ hnew_; (first | rw [← Ny169.out] at ho5 | (simp only [Int.reduceToNat] at ho5; rw [← Ny169.out] at ho5)); have HO171 := am_ (Kd.R_lower ho5 (below_size Sh.bw)); replace HB := Sh.hb hb; clear hb ho5))
   go_loopg [4] k (fun kq v4 w' => ∃ (x3_1 : List (S43)) (x4_1 : Int), v4 = .int .i64 x4_1 ∧ Aside0 (laws_toSaidS.l0 kq l0 x3_1 x4_1 = some r) ∧ Aside0 (kq ≤ k) ∧ Aside0 (Kd.R k43 43 w' w.heap.size (fun _ => True) v170 x3_1) ∧ Aside0 (Below w.heap.size w w'))
   case atStart => exact ⟨(y169), (0), (Sh.es), H', ⟨Nat.le_refl _⟩, ⟨Sh.rl HO171.out⟩, ⟨Sh.bw⟩⟩
   case round =>
    clear H'
    obtain ⟨x3_1, x4_1, rfl, HA, HK1, HO_3, HB⟩ := hrel
    cases gk with
    | zero => exact absurd HA.out (by simp [laws_toSaidS.l0])
    | succ k1 =>
     have H := HA.out
     clear HA
     simp only [laws_toSaidS.l0] at H
     by_cases c6 : x4_1 < (l0.length : Int)
     ·rw [if_pos c6] at H
      have c6b0 := decide_eq_true c6
      clear c6
      by_cases c7 : 0 ≤ x4_1
      ·rw [if_pos c7] at H
       have c7b0 := decide_eq_true c7
       clear c7
       obtain ⟨⟨t173, t174⟩, A80, H⟩ := Sh.bd H
       have A8 := am_ A80
       clear A80
       by_cases c9 : x4_1 < (x3_1.length : Int)
       ·rw [if_pos c9] at H
        have c9b0 := decide_eq_true c9
        clear c9
        obtain ⟨y175, hy175⟩ : ∃ y_ : List (S43), y_ = (x3_1.set (x4_1 : Int).toNat (⟨t173, t174⟩ : S43)) := ⟨_, rfl⟩
        replace H : (laws_toSaidS.l0 k1 l0 y175 (wrap64 (x4_1 + 1))) = some r := by first | (rw [hy175]; with_reducible exact H) | (have H2_ := (Option.bind_some _ _).symm.trans H; rw [hy175]; with_reducible exact H2_) | (have H2_ := (Option.bind_some _ _).symm.trans H; with_reducible exact H2_) | with_reducible exact H | (rw [hy175]; exact H) | exact H
        have Ny175 := am_ hy175
        clear hy175
        have H' := am_ H
        clear H
        have p172 : 0 ≤ (x4_1 : Int) := Sh.od
        have q172 : x4_1 < (l0.length : Int) := Sh.od
        obtain ⟨ad172, e172, hx172_0, hx172_1⟩ := at_T45 HR0.out x4_1 p172 q172
        cases e172
        try replace hx172_0 := Sh.cw hx172_0
        try replace hx172_1 := Sh.cw hx172_1
        replace p172 := eq_true p172
        replace q172 := eq_true q172
        go_wp2_with (first | ((with_reducible refine Sh.k 17 ?_); refine Sh.gB (some 20) Try.func17 #[.agg #[.int .i64 ((rd_T45 l0 x4_1).f0), .int .i64 ((rd_T45 l0 x4_1).f1)]] (laws_toSaid.calls ((rd_T45 l0 x4_1).f0) ((rd_T45 l0 x4_1).f1) t173 t174 _ A8.out) fun w11 hb => ?_; replace HO_3 := am_ (Kd.R_below (Sh.rl HO_3.out) hb); replace HB := Sh.hb hb; (try clear hb); (try clear hb2); (try clear hk); (try clear hi); have p10 : 0 ≤ (x4_1 : Int) := Sh.od; have q10 : (x4_1 : Int) < ((x3_1.length : Int) : Int) := Sh.od; obtain ⟨go10, co10, eo10, gb10, gl10, cl10, HG10⟩ := Kd.R_form HO_3.out (by omega); (first | cases eo10 | (injection eo10 with ea_ en_ ec_; (first | subst ea_ | (injection ea_ with ea_; subst ea_)); subst ec_; clear en_)); have GB10 := am_ gb10; have GG10 := am_ HG10; clear gb10 gl10 HG10; obtain ⟨ce10, hcl10, hM10, hcc10, hfr10⟩ := Kd.R_elem HO_3.out z43 (x4_1 : Int) p10 q10; obtain rfl := k43_openM hM10; have hx10_0 : w11.cell? ⟨go10, (x4_1 : Int).toNat * 2, none⟩ = some (.int .i64 ((rd_T43 x3_1 x4_1).f0)) := hcc10 0 _ rfl; have hx10_1 : w11.cell? ⟨go10, (x4_1 : Int).toNat * 2 + 1, none⟩ = some (.int .i64 ((rd_T43 x3_1 x4_1).f1)) := hcc10 1 _ rfl; have hf10_0 : w11.frozen? ⟨go10, (x4_1 : Int).toNat * 2, none⟩ = false := hfr10 0; have hf10_1 : w11.frozen? ⟨go10, (x4_1 : Int).toNat * 2 + 1, none⟩ = false := hfr10 1; clear hcl10 hcc10 hfr10; (try clear hM10); replace p10 := eq_true p10; replace q10 := eq_true q10; have HX12 := am_ (show Kd.R k43 43 w11 w.heap.size (fun _ => True) (.slice (some ⟨go10, 0, none⟩) x3_1.length co10) x3_1 from (Sh.rl HO_3.out)); obtain ⟨ce12, hcl12, hM12, hcc12, hfr12⟩ := Kd.R_elem HX12.out z43 (x4_1 : Int) (of_decide_eq_true (by first | (with_reducible assumption) | assumption)) (by have h_ : (x4_1 : Int) < ((x3_1.length : Int) : Int) := Sh.od; first | exact h_ | (have e_ := (Kd.R_reads' HO_3.out).1; omega) | simpa using h_); obtain rfl := k43_openM hM12; have HP12 := Kd.R_seg HX12.out (x4_1 : Int) (of_decide_eq_true (by first | (with_reducible assumption) | assumption)) (by have h_ : (x4_1 : Int) < ((x3_1.length : Int) : Int) := Sh.od; first | exact h_ | (have e_ := (Kd.R_reads' HO_3.out).1; omega) | simpa using h_) (seg := [.int .i64 t173, .int .i64 t174]) (j := 0) hcl12 hcc12 (show 2 ≤ 2 from by decide) (x' := (⟨t173, t174⟩ : S43)) (k43_mkM _ _ _ (⟨t173, t174⟩ : S43) ) (fun _ hk => hk); have hx12_0 := hcc12 0 _ rfl; (try simp only [show (k43).sz = 2 from rfl, Nat.mul_one, Nat.add_zero] at hx12_0); have hf12_0 := hfr12 0; (try simp only [show (k43).sz = 2 from rfl, Nat.mul_one, Nat.add_zero] at hf12_0); have hx12_1 := hcc12 1 _ rfl; (try simp only [show (k43).sz = 2 from rfl, Nat.mul_one, Nat.add_zero] at hx12_1); have hf12_1 := hfr12 1; (try simp only [show (k43).sz = 2 from rfl, Nat.mul_one, Nat.add_zero] at hf12_1); clear hcl12 hcc12 hfr12; (try clear hM12)) | ((with_reducible refine gate_store (t := 43) (p := 21) rfl ?_); refine store_event (t := 43) (p := 21) (v := ?vo_w13) (w1 := ((w11.setCell ⟨go10, (x4_1 : Int).toNat * 2, none⟩ (.int .i64 t173)).setCell ⟨go10, (x4_1 : Int).toNat * 2 + 1, none⟩ (.int .i64 t174))) ?hg ?ho ?hn ?hr ?_; (case ho => rfl); (case hg => rfl); (case hn => rfl); (case hr => first | (go_simp; done) | (go_simp; rfl)); intro w13 hw; have hg : w11.grownBy w13 (some go10) := (by rw [hw]; exact HP12.2); have hp_ : Kd.R k43 43 w13 w.heap.size (fun _ => True) (.slice (some ⟨go10, 0, none⟩) x3_1.length co10) y175 := (by rw [hw, Ny175.out]; exact HP12.1); clear HP12; replace HO_3 := am_ hp_; replace HB := am_ ((by rw [hw]; exact below_set (below_set (HB.out) GB10.out) GB10.out : Below w.heap.size w w13)); clear hg hw hp_))
        go_roundg k1
        case measure => have := HK1.out; omega
        case rel => exact ⟨(y175), (wrap64 (x4_1 + 1)), (Sh.es), H', ⟨by have := HK1.out; omega⟩, ⟨Sh.rl HO_3.out⟩, ⟨Sh.bw⟩⟩
       ·rw [if_neg c9] at H
        exact absurd H (by simp)
      ·rw [if_neg c7] at H
       exact absurd H (by simp)
     ·rw [if_neg c6] at H
      have c6b0 := decide_eq_false c6
      clear c6
      obtain rfl := Option.some.inj H
      go_wp2
      go_ret
      exact ⟨_, Sh.eR, Sh.rl HO_3.out, Sh.bw⟩
  ·rw [if_neg c3] at H
   exact absurd H (by simp)
 ·rw [if_neg c2] at H
  exact absurd H (by simp)
def laws_toIntS.l0 : Nat → List Int → List Int → Int → Option (List Int)
 | 0, _, _, _ => none
 | k + 1, x0, x3, x4 => if x4 < (x0.length : Int) then (if 0 ≤ x4 then (if x4 < (x3.length : Int) then (laws_toIntS.l0 k x0 (x3.set (x4 : Int).toNat (rd x0 x4)) (wrap64 (x4 + 1))) else (none)) else (none)) else (some x3)
def laws_toIntS.f (k : Nat) (l0 : List Int) : Option (List Int) := if 0 ≤ (l0.length : Int) then (if ((l0.length : Int) : Int).toNat ≤ 35184372088832 then (laws_toIntS.l0 k l0 (List.replicate ((l0.length : Int) : Int).toNat 0) 0) else (none)) else (none)
theorem laws_toIntS.mono_l : ∀ k, (∀ y0 y1 y2, LeO (laws_toIntS.l0 k y0 y1 y2) (laws_toIntS.l0 (k + 1) y0 y1 y2))
 | 0 => fun _ _ _ r h => by simp [laws_toIntS.l0] at h
 | k + 1 => by
  have ih0 := laws_toIntS.mono_l k
  ·intro y0 y1 y2
   unfold laws_toIntS.l0
   repeat' with_reducible first | apply ih0 | exact LeO.refl _ | exact LeO.none _ | apply LeO.ite | refine LeO.bind ?_ fun _ => ?_
theorem laws_toIntS.mono : ∀ a0 k, LeO (laws_toIntS.f k a0) (laws_toIntS.f (k + 1) a0) := by
 intro a0 k
 have ih0 := laws_toIntS.mono_l k
 unfold laws_toIntS.f
 repeat' with_reducible first | apply ih0 | exact LeO.refl _ | exact LeO.none _ | apply LeO.ite | refine LeO.bind ?_ fun _ => ?_
theorem laws_toIntS.calls (k : Nat) (A0 : Option Addr) (c0 : Nat) (l0 : List Int) (r : List Int) (w : World) (hr0 : Kd.C (Kd.int .i64) w A0 l0.length l0) (hc0 : l0.length ≤ c0) (h : laws_toIntS.f k l0 = some r) :
  Calls Try.prog 18 #[.slice A0 l0.length c0] w fun e w' => ∃ v0_ : Value, e = .returned (v0_) ∧ Kd.R (Kd.int .i64) 3 w' w.heap.size (fun _ => True) v0_ r ∧ Below w.heap.size w w' := by
 have HR0 := am_ hr0
 have HC0 := am_ hc0
 clear hr0 hc0
 have HB := am_ (Below.refl w.heap.size w)
 have H := h
 clear h
 unfold laws_toIntS.f at H
 by_cases c2 : 0 ≤ (l0.length : Int)
 ·rw [if_pos c2] at H
  have c2b0 := eq_true c2
  have c2b1 := decide_eq_true c2
  clear c2
  by_cases c3 : ((l0.length : Int) : Int).toNat ≤ 35184372088832
  ·rw [if_pos c3] at H
   have c3b0 := eq_true c3
   have c3b1 := decide_eq_true c3
   clear c3
   obtain ⟨y176, hy176⟩ : ∃ y_ : List Int, y_ = (List.replicate ((l0.length : Int) : Int).toNat 0) := ⟨_, rfl⟩
   replace H : (laws_toIntS.l0 k l0 y176 0) = some r := by first | (rw [hy176]; with_reducible exact H) | (have H2_ := (Option.bind_some _ _).symm.trans H; rw [hy176]; with_reducible exact H2_) | (have H2_ := (Option.bind_some _ _).symm.trans H; with_reducible exact H2_) | with_reducible exact H | (rw [hy176]; exact H) | exact H
   have Ny176 := am_ hy176
   clear hy176
   have H' := am_ H
   clear H
   go_enter Try.func18, Try.ntmps18
   go_wp2_with (first | ((with_reducible refine Sh.d 7 ?_); refine Kd.R_make (Kd.int .i64) _ 3 rfl (N := 7) rfl 23 _ _ rfl (l0.length : Int) rfl rfl Try.underlying23 (.int .i64 0) 8 info3 rfl (by decide) (by omega) 0 (ok := fun _ => True) (okp := fun _ => True) rfl (fun _ hk => hk) trivial (of_decide_eq_true (by first | (with_reducible assumption) | assumption)) (Nat.le_trans (Nat.mul_le_mul_right _ (of_decide_eq_true (by first | (with_reducible assumption) | assumption) : (l0.length : Int).toNat ≤ 35184372088832)) (by omega)) (Below.refl _ _) (Nat.le_refl _) ?_; intro v177 w4 ho5 hb hg_ hnew_; clear hg_ hnew_; (first | rw [← Ny176.out] at ho5 | (simp only [Int.reduceToNat] at ho5; rw [← Ny176.out] at ho5)); have HO178 := am_ (Kd.R_lower ho5 (below_size Sh.bw)); replace HB := Sh.hb hb; clear hb ho5))
   go_loopg [4] k (fun kq v4 w' => ∃ (x3_1 : List Int) (x4_1 : Int), v4 = .int .i64 x4_1 ∧ Aside0 (laws_toIntS.l0 kq l0 x3_1 x4_1 = some r) ∧ Aside0 (kq ≤ k) ∧ Aside0 (Kd.R (Kd.int .i64) 3 w' w.heap.size (fun _ => True) v177 x3_1) ∧ Aside0 (Below w.heap.size w w'))
   case atStart => exact ⟨(y176), (0), (Sh.es), H', ⟨Nat.le_refl _⟩, ⟨Sh.rl HO178.out⟩, ⟨Sh.bw⟩⟩
   case round =>
    clear H'
    obtain ⟨x3_1, x4_1, rfl, HA, HK1, HO_3, HB⟩ := hrel
    cases gk with
    | zero => exact absurd HA.out (by simp [laws_toIntS.l0])
    | succ k1 =>
     have H := HA.out
     clear HA
     simp only [laws_toIntS.l0] at H
     by_cases c6 : x4_1 < (l0.length : Int)
     ·rw [if_pos c6] at H
      have c6b0 := decide_eq_true c6
      clear c6
      by_cases c7 : 0 ≤ x4_1
      ·rw [if_pos c7] at H
       have c7b0 := decide_eq_true c7
       clear c7
       by_cases c8 : x4_1 < (x3_1.length : Int)
       ·rw [if_pos c8] at H
        have c8b0 := decide_eq_true c8
        clear c8
        obtain ⟨y180, hy180⟩ : ∃ y_ : List Int, y_ = (x3_1.set (x4_1 : Int).toNat (rd l0 x4_1)) := ⟨_, rfl⟩
        replace H : (laws_toIntS.l0 k1 l0 y180 (wrap64 (x4_1 + 1))) = some r := by first | (rw [hy180]; with_reducible exact H) | (have H2_ := (Option.bind_some _ _).symm.trans H; rw [hy180]; with_reducible exact H2_) | (have H2_ := (Option.bind_some _ _).symm.trans H; with_reducible exact H2_) | with_reducible exact H | (rw [hy180]; exact H) | exact H
        have Ny180 := am_ hy180
        clear hy180
        have H' := am_ H
        clear H
        have p179 : 0 ≤ (x4_1 : Int) := Sh.od
        have q179 : x4_1 < (l0.length : Int) := Sh.od
        obtain ⟨ad179, e179, hx179_0⟩ := Kd.at_int HR0.out x4_1 p179 q179
        cases e179
        try replace hx179_0 := Sh.cw hx179_0
        replace p179 := eq_true p179
        replace q179 := eq_true q179
        have p9 : 0 ≤ (x4_1 : Int) := Sh.od
        have q9 : (x4_1 : Int) < ((x3_1.length : Int) : Int) := Sh.od
        obtain ⟨go9, co9, eo9, gb9, gl9, cl9, HG9⟩ := Kd.R_form HO_3.out (by omega)
        (first | cases eo9 | (injection eo9 with ea_ en_ ec_; (first | subst ea_ | (injection ea_ with ea_; subst ea_)); subst ec_; clear en_))
        have GB9 := am_ gb9
        have GG9 := am_ HG9
        clear gb9 gl9 HG9
        obtain ⟨hx9_0, hf9_0⟩ := Kd.R_celln 0 HO_3.out (x4_1 : Int) p9 q9
        replace p9 := eq_true p9
        replace q9 := eq_true q9
        have HP10 := Kd.R_putg HO_3.out (x4_1 : Int) (rd l0 x4_1)
        go_wp2_with (first | ((with_reducible refine gate_store (t := 3) (p := 20) rfl ?_); refine store_event (t := 3) (p := 20) (v := ?vo_w11) (w1 := (wr.setCell ⟨go9, (x4_1 : Int).toNat, none⟩ (.int .i64 (rd l0 x4_1)))) ?hg ?ho ?hn ?hr ?_; (case ho => rfl); (case hg => rfl); (case hn => rfl); (case hr => first | (go_simp; done) | (go_simp; rfl)); intro w11 hw; have hg : wr.grownBy w11 (some go9) := (by rw [hw]; exact HP10.2); have hp_ : Kd.R (Kd.int .i64) 3 w11 w.heap.size (fun _ => True) (.slice (some ⟨go9, 0, none⟩) x3_1.length co9) y180 := (by rw [hw, Ny180.out]; exact HP10.1); clear HP10; replace HO_3 := am_ hp_; replace HB := am_ ((by rw [hw]; exact below_set (HB.out) GB9.out : Below w.heap.size w w11)); clear hg hw hp_))
        go_roundg k1
        case measure => have := HK1.out; omega
        case rel => exact ⟨(y180), (wrap64 (x4_1 + 1)), (Sh.es), H', ⟨by have := HK1.out; omega⟩, ⟨Sh.rl HO_3.out⟩, ⟨Sh.bw⟩⟩
       ·rw [if_neg c8] at H
        exact absurd H (by simp)
      ·rw [if_neg c7] at H
       exact absurd H (by simp)
     ·rw [if_neg c6] at H
      have c6b0 := decide_eq_false c6
      clear c6
      obtain rfl := Option.some.inj H
      go_wp2
      go_ret
      exact ⟨_, Sh.eR, Sh.rl HO_3.out, Sh.bw⟩
  ·rw [if_neg c3] at H
   exact absurd H (by simp)
 ·rw [if_neg c2] at H
  exact absurd H (by simp)
def laws_toLasso.f (k : Nat) (l0_0 : List Int) (l0_1 : List Int) : Option (List Int × List Int) := (laws_toIntS.f k l0_0).bind fun t184 => ((laws_toIntS.f k l0_1).bind fun t187 => (some (t184, t187)))
theorem laws_toLasso.mono : ∀ a0 a1 k, LeO (laws_toLasso.f k a0 a1) (laws_toLasso.f (k + 1) a0 a1) := by
 intro a0 a1 k
 unfold laws_toLasso.f
 repeat' with_reducible first | apply laws_toIntS.mono | exact LeO.refl _ | exact LeO.none _ | apply LeO.ite | refine LeO.bind ?_ fun _ => ?_
theorem laws_toLasso.calls (k : Nat) (A0_0 : Option Addr) (c0_0 : Nat) (l0_0 : List Int) (A0_1 : Option Addr) (c0_1 : Nat) (l0_1 : List Int) (r1 : List Int) (r2 : List Int) (w : World) (hr0_0 : Kd.C (Kd.int .i64) w A0_0 l0_0.length l0_0) (hc0_0 : l0_0.length ≤ c0_0) (hr0_1 : Kd.C (Kd.int .i64) w A0_1 l0_1.length l0_1) (hc0_1 : l0_1.length ≤ c0_1) (h : laws_toLasso.f k l0_0 l0_1 = some (r1, r2)) :
  Calls Try.prog 8 #[.agg #[.slice A0_0 l0_0.length c0_0, .slice A0_1 l0_1.length c0_1]] w fun e w' => ∃ v0_ v1_ : Value, e = .returned (.agg #[v0_, v1_]) ∧ Kd.R (Kd.int .i64) 3 w' w.heap.size (fun k_ => some k_ ≠ (v1_ : Value).ownBlock) v0_ r1 ∧ Kd.R (Kd.int .i64) 3 w' w.heap.size (fun k_ => some k_ ≠ (v0_ : Value).ownBlock) v1_ r2 ∧ Below w.heap.size w w' := by
 have hu25 := Try.underlying25
 have hu32 := Try.underlying32
 have HR0_0 := am_ hr0_0
 have HC0_0 := am_ hc0_0
 clear hr0_0 hc0_0
 have HR0_1 := am_ hr0_1
 have HC0_1 := am_ hc0_1
 clear hr0_1 hc0_1
 have HB := am_ (Below.refl w.heap.size w)
 have H := h
 clear h
 unfold laws_toLasso.f at H
 obtain ⟨t184, A2, H⟩ := Sh.ba H
 obtain ⟨t187, A3, H⟩ := Sh.ba H
 simp only [Option.some.injEq, Prod.mk.injEq] at H
 obtain ⟨rfl, rfl⟩ := H
 go_enter Try.func8, Try.ntmps8
 go_wp2_with (first | ((with_reducible refine Sh.d 1 ?_); refine Sh.bz w (N := 1) (cs := #[.slice A0_0 l0_0.length c0_0, .slice A0_1 l0_1.length c0_1]) (t := 25) (h := ?_); clear HB; intro gb181 w4 BK181 GE181 HB) | ((with_reducible refine Sh.d 2 ?_); refine Sh.bx (N := 2) (cs := #[.slice none 0 0, .slice none 0 0]) (t := 32) (h := ?_); intro gb182 hg w5 hbox hb; have BK182 := am_ hbox; have GE182 := Sh.ag w hg; replace HB := Sh.hb hb; have NB181_182 := am_ (Sh.nl hg BK181.out); have NB182_181 := am_ (Sh.ng hg BK181.out); replace BK181 := Sh.ab BK181 hb; clear hb hbox hg) | ((with_reducible refine Sh.d 3 ?_); refine Sh.bx (N := 3) (cs := #[.slice none 0 0, .slice none 0 0]) (t := 32) (h := ?_); intro gb183 hg w6 hbox hb; have BK183 := am_ hbox; have GE183 := Sh.ag w hg; replace HB := Sh.hb hb; have NB181_183 := am_ (Sh.nl hg BK181.out); have NB183_181 := am_ (Sh.ng hg BK181.out); replace BK181 := Sh.ab BK181 hb; have NB182_183 := am_ (Sh.nl hg BK182.out); have NB183_182 := am_ (Sh.ng hg BK182.out); replace BK182 := Sh.ab BK182 hb; clear hb hbox hg; have hnb7 := NB181_182.out; have hnc7 := NB182_181.out; have hnb8 := NB181_183.out; have hnc8 := NB183_181.out; obtain ⟨hcz9_0, hcz9_1, hfz9_0, hfz9_1⟩ := Sh.b2 BK181.out) | ((with_reducible refine Sh.k 18 ?_); refine Sh.gL (some 6) Try.func18 #[.slice A0_0 l0_0.length c0_0] (h := ?_); (with_reducible refine (laws_toIntS.calls k _ _ l0_0 t184 _ (Sh.cB HR0_0.out) HC0_0.out A2.out).mono ?_); rintro e w10 ⟨v185, rfl, ho0, hb⟩; refine ⟨_, rfl, ?_⟩; have HO186 := am_ (Kd.R_lower ho0 (below_size Sh.bw)); replace BK181 := Sh.ab BK181 hb; replace BK182 := Sh.ab BK182 hb; replace BK183 := Sh.ab BK183 hb; replace HB := Sh.hb hb; (try clear hb); (try clear hb2); (try clear hk); (try clear hi); (try clear ho0); obtain ⟨Ao11, co11, eo11⟩ := Kd.R_slice HO186.out; subst eo11; have hnb12 := NB183_182.out; have hnc12 := NB182_183.out; obtain ⟨hcz13_0, hcz13_1, hfz13_0, hfz13_1⟩ := Sh.b2 BK183.out; obtain ⟨hcz14_0, hcz14_1, hfz14_0, hfz14_1⟩ := Sh.b2 BK181.out) | ((with_reducible refine Sh.k 18 ?_); refine Sh.gL (some 10) Try.func18 #[.slice A0_1 l0_1.length c0_1] (h := ?_); (with_reducible refine (laws_toIntS.calls k _ _ l0_1 t187 _ (Sh.cB HR0_1.out) HC0_1.out A3.out).mono ?_); rintro e w15 ⟨v188, rfl, ho0, hb⟩; refine ⟨_, rfl, ?_⟩; have n0_ := am_ (Kd.R_elder' (Sh.rl (Kd.R_mono (Kd.R_far (p := ⟨gb183, 0, none⟩) (Kd.R_types HO186.out BK183.out (by decide)) (fun _ hk => hk.2) (.slice Ao11 t184.length co11)) (fun _ h_ => h_.1))) (Kd.R_base ho0) hb); have n1_ := am_ (Kd.R_lower (Kd.R_new' ho0 (Kd.R_lt (Sh.rl (Kd.R_mono (Kd.R_far (p := ⟨gb183, 0, none⟩) (Kd.R_types HO186.out BK183.out (by decide)) (fun _ hk => hk.2) (.slice Ao11 t184.length co11)) (fun _ h_ => h_.1))))) (below_size Sh.bw)); have n2_ := am_ (blk_below (g := gb181) (o := .cells #[.slice A0_0 l0_0.length c0_0, .slice A0_1 l0_1.length c0_1] 25 (0, 0)) (by refine Sh.pl ?_; refine blk_far ?_ NB181_183.out _; refine Sh.pl ?_; exact BK181.out) hb); have n3_ := am_ (blk_below (g := gb182) (o := .cells #[.slice none 0 0, .slice none 0 0] 32 (0, 0)) (by refine Sh.pl ?_; refine blk_far ?_ NB182_183.out _; refine Sh.pl ?_; exact BK182.out) hb); have n4_ := am_ (blk_below (g := gb183) (o := .cells #[.slice Ao11 t184.length co11, .slice none 0 0] 32 (0, 0)) (by refine Sh.pl ?_; refine blk_put (cs := #[.slice none 0 0, .slice none 0 0]) ?_ 0 _ rfl; refine Sh.pl ?_; exact BK183.out) hb); have n5_ := am_ (below_step Sh.bw hb); clear HO186; clear BK181; clear BK182; clear BK183; clear HB; have HO186 := n0_; have HO189 := n1_; have BK181 := n2_; have BK182 := n3_; have BK183 := n4_; have HB := n5_; clear n0_ n1_ n2_ n3_ n4_ n5_; (try clear hb); (try clear hb2); (try clear hk); (try clear hi); (try clear ho0); obtain ⟨Ao16, co16, eo16⟩ := Kd.R_slice HO189.out; subst eo16; obtain ⟨hcz17_0, hcz17_1, hfz17_0, hfz17_1⟩ := Sh.b2 BK183.out; obtain ⟨hcz18_0, hcz18_1, hfz18_0, hfz18_1⟩ := Sh.b2 BK182.out))
 refine bodyPost_ret (results_cell_row rfl _ _ gb182 32 #[.slice Ao11 t184.length co11, .slice Ao16 t187.length co16] (0, 0) _ rfl (by refine Sh.pl ?_; refine blk_put (cs := #[.slice Ao11 t184.length co11, .slice none 0 0]) ?_ 1 _ rfl; refine Sh.pl ?_; refine blk_put (cs := #[.slice none 0 0, .slice none 0 0]) ?_ 0 _ rfl; refine Sh.pl ?_; refine blk_far ?_ NB182_183.out _; refine Sh.pl ?_; exact BK182.out) Try.underlying32 rfl (by kernel_rfl)) rfl ?_
 exact ⟨_, _, by first | rfl | (simp [errW_none, errW_some] <;> rfl) | (simp [*, errW_none, errW_some] <;> rfl), Sh.rl (Kd.R_mono (Kd.R_far (p := ⟨gb182, 1, none⟩) (Kd.R_far (p := ⟨gb182, 0, none⟩) (Kd.R_far (p := ⟨gb183, 1, none⟩) (Kd.R_types (Kd.R_types HO186.out BK183.out (by decide)) BK182.out (by decide)) (fun _ hk => hk.1.2) (.slice Ao16 t187.length co16)) (fun _ hk => hk.2) (.slice Ao11 t184.length co11)) (fun _ hk => hk.2) (.slice Ao16 t187.length co16)) (fun _ hk => hk.1.1.2)), Sh.rl (Kd.R_mono (Kd.R_far (p := ⟨gb182, 1, none⟩) (Kd.R_far (p := ⟨gb182, 0, none⟩) (Kd.R_far (p := ⟨gb183, 1, none⟩) (Kd.R_types (Kd.R_types HO189.out BK183.out (by decide)) BK182.out (by decide)) (fun _ hk => hk.1.2) (.slice Ao16 t187.length co16)) (fun _ hk => hk.2) (.slice Ao11 t184.length co11)) (fun _ hk => hk.2) (.slice Ao16 t187.length co16)) (fun _ hk => hk.1.1.2)), Sh.bw⟩
def impl_isSaid.f (k : Nat) (a0_0 : Int) (a0_1 : Int) : Option (Bool) := if a0_0 = 1 then (if a0_1 ≥ 0 then (some (decide (a0_1 < 3))) else (some false)) else (if a0_0 = 2 then (if a0_1 = 0 then (some true) else (some (a0_1 == 1))) else ((impl_operandsOfSaid.f k a0_0).bind fun t191 => (if t191 > 0 then (some (a0_1 == 0)) else (some false))))
theorem impl_isSaid.mono : ∀ a0 a1 k, LeO (impl_isSaid.f k a0 a1) (impl_isSaid.f (k + 1) a0 a1) := by
 intro a0 a1 k
 unfold impl_isSaid.f
 repeat' with_reducible first | apply impl_operandsOfSaid.mono | exact LeO.refl _ | exact LeO.none _ | apply LeO.ite | refine LeO.bind ?_ fun _ => ?_
theorem impl_isSaid.calls (k : Nat) (a0_0 : Int) (a0_1 : Int) (r : Bool) (w : World) (h : impl_isSaid.f k a0_0 a0_1 = some r) :
  Calls Try.prog 31 #[.agg #[.int .i64 a0_0, .int .i64 a0_1]] w fun e w' => e = .returned (.bool r) ∧ Below w.heap.size w w' := by
 have hu43 := Try.underlying43
 have HB := am_ (Below.refl w.heap.size w)
 have H := h
 clear h
 unfold impl_isSaid.f at H
 by_cases c2 : a0_0 = 1
 ·rw [if_pos c2] at H
  have c2b0 : (a0_0 == 1) = true := beq_iff_eq.mpr c2
  have c2b1 : (a0_0 != 1) = false := bne_eq_false_iff_eq.mpr c2
  clear c2
  by_cases c3 : a0_1 ≥ 0
  ·rw [if_pos c3] at H
   have c3b0 : decide (0 ≤ a0_1) = true := decide_eq_true c3
   clear c3
   obtain rfl := Option.some.inj H
   go_enter Try.func31, Try.ntmps31
   go_wp2_with (first | ((with_reducible refine Sh.d 1 ?_); refine Sh.bz w (N := 1) (cs := #[.int .i64 a0_0, .int .i64 a0_1]) (t := 43) (h := ?_); clear HB; intro gb190 w4 BK190 GE190 HB; obtain ⟨hcz5_0, hcz5_1, hfz5_0, hfz5_1⟩ := Sh.b2 BK190.out))
   go_ret
   exact ⟨Sh.eR, Sh.bw⟩
  ·rw [if_neg c3] at H
   have c3b0 : decide (0 ≤ a0_1) = false := decide_eq_false c3
   clear c3
   obtain rfl := Option.some.inj H
   go_enter Try.func31, Try.ntmps31
   go_wp2_with (first | ((with_reducible refine Sh.d 1 ?_); refine Sh.bz w (N := 1) (cs := #[.int .i64 a0_0, .int .i64 a0_1]) (t := 43) (h := ?_); clear HB; intro gb190 w6 BK190 GE190 HB; obtain ⟨hcz7_0, hcz7_1, hfz7_0, hfz7_1⟩ := Sh.b2 BK190.out))
   go_ret
   exact ⟨Sh.eR, Sh.bw⟩
 ·rw [if_neg c2] at H
  have c2b0 : (a0_0 == 1) = false := beq_eq_false_iff_ne.mpr c2
  have c2b1 : (a0_0 != 1) = true := bne_iff_ne.mpr c2
  by_cases c8 : a0_0 = 2
  ·rw [if_pos c8] at H
   have c8b0 : (a0_0 == 2) = true := beq_iff_eq.mpr c8
   have c8b1 : (a0_0 != 2) = false := bne_eq_false_iff_eq.mpr c8
   clear c8
   by_cases c9 : a0_1 = 0
   ·rw [if_pos c9] at H
    have c9b0 : (a0_1 == 0) = true := beq_iff_eq.mpr c9
    have c9b1 : (a0_1 != 0) = false := bne_eq_false_iff_eq.mpr c9
    clear c9
    obtain rfl := Option.some.inj H
    go_enter Try.func31, Try.ntmps31
    go_wp2_with (first | ((with_reducible refine Sh.d 1 ?_); refine Sh.bz w (N := 1) (cs := #[.int .i64 a0_0, .int .i64 a0_1]) (t := 43) (h := ?_); clear HB; intro gb190 w10 BK190 GE190 HB; obtain ⟨hcz11_0, hcz11_1, hfz11_0, hfz11_1⟩ := Sh.b2 BK190.out))
    go_ret
    exact ⟨Sh.eR, Sh.bw⟩
   ·rw [if_neg c9] at H
    have c9b0 : (a0_1 == 0) = false := beq_eq_false_iff_ne.mpr c9
    have c9b1 : (a0_1 != 0) = true := bne_iff_ne.mpr c9
    obtain rfl := Option.some.inj H
    go_enter Try.func31, Try.ntmps31
    go_wp2_with (first | ((with_reducible refine Sh.d 1 ?_); refine Sh.bz w (N := 1) (cs := #[.int .i64 a0_0, .int .i64 a0_1]) (t := 43) (h := ?_); clear HB; intro gb190 w12 BK190 GE190 HB; obtain ⟨hcz13_0, hcz13_1, hfz13_0, hfz13_1⟩ := Sh.b2 BK190.out))
    go_ret
    exact ⟨Sh.eR, Sh.bw⟩
  ·rw [if_neg c8] at H
   have c8b0 : (a0_0 == 2) = false := beq_eq_false_iff_ne.mpr c8
   have c8b1 : (a0_0 != 2) = true := bne_iff_ne.mpr c8
   obtain ⟨t191, A14, H⟩ := Sh.ba H
   by_cases c15 : t191 > 0
   ·rw [if_pos c15] at H
    have c15b0 : decide (0 < t191) = true := decide_eq_true c15
    clear c15
    obtain rfl := Option.some.inj H
    go_enter Try.func31, Try.ntmps31
    go_wp2_with (first | ((with_reducible refine Sh.d 1 ?_); refine Sh.bz w (N := 1) (cs := #[.int .i64 a0_0, .int .i64 a0_1]) (t := 43) (h := ?_); clear HB; intro gb190 w16 BK190 GE190 HB; obtain ⟨hcz17_0, hcz17_1, hfz17_0, hfz17_1⟩ := Sh.b2 BK190.out) | ((with_reducible refine Sh.k 30 ?_); refine Sh.gD (some 27) Try.func30 #[.int .i64 a0_0] (impl_operandsOfSaid.calls k a0_0 t191 _ A14.out) fun nd => ?_))
    go_ret
    exact ⟨Sh.eR, Sh.bw⟩
   ·rw [if_neg c15] at H
    have c15b0 : decide (0 < t191) = false := decide_eq_false c15
    clear c15
    obtain rfl := Option.some.inj H
    go_enter Try.func31, Try.ntmps31
    go_wp2_with (first | ((with_reducible refine Sh.d 1 ?_); refine Sh.bz w (N := 1) (cs := #[.int .i64 a0_0, .int .i64 a0_1]) (t := 43) (h := ?_); clear HB; intro gb190 w18 BK190 GE190 HB; obtain ⟨hcz19_0, hcz19_1, hfz19_0, hfz19_1⟩ := Sh.b2 BK190.out) | ((with_reducible refine Sh.k 30 ?_); refine Sh.gD (some 27) Try.func30 #[.int .i64 a0_0] (impl_operandsOfSaid.calls k a0_0 t191 _ A14.out) fun nd => ?_))
    go_ret
    exact ⟨Sh.eR, Sh.bw⟩
mutual
def impl_GoodSaid.j0 : Nat → List (S43) → Bool → Option (Bool)
 | 0, _, _ => none
 | k + 1, x0, x14 => if x14 = true then (some false) else (impl_GoodSaid.l0 k 0 x0 (x0.length : Int) 0)
def impl_GoodSaid.l0 : Nat → Int → List (S43) → Int → Int → Option (Bool)
 | 0, _, _, _, _ => none
 | k + 1, x3, x15, x16, x17 => if x17 < x16 then (if 0 ≤ x17 then (if x17 < (x15.length : Int) then ((impl_operandsOfSaid.f k ((rd_T43 x15 x17).f0)).bind fun t194 => ((impl_isSaid.f k ((rd_T43 x15 x17).f0) ((rd_T43 x15 x17).f1)).bind fun t195 => (if t195 = true then (if x3 < t194 then (some false) else (impl_GoodSaid.l0 k (wrap64 (x3 + (wrap64 (1 - t194)))) x15 x16 (wrap64 (x17 + 1)))) else (some false)))) else (none)) else (none)) else (some (x3 == 1))
end
def impl_GoodSaid.f (k : Nat) (l0 : List (S43)) : Option (Bool) := if (l0.length : Int) < 1 then (impl_GoodSaid.j0 k l0 true) else (impl_GoodSaid.j0 k l0 (decide ((l0.length : Int) > 16)))
theorem impl_GoodSaid.mono_l : ∀ k, (∀ y0 y1, LeO (impl_GoodSaid.j0 k y0 y1) (impl_GoodSaid.j0 (k + 1) y0 y1)) ∧ (∀ y0 y1 y2 y3, LeO (impl_GoodSaid.l0 k y0 y1 y2 y3) (impl_GoodSaid.l0 (k + 1) y0 y1 y2 y3))
 | 0 => ⟨fun _ _ r h => by simp [impl_GoodSaid.j0] at h, fun _ _ _ _ r h => by simp [impl_GoodSaid.l0] at h⟩
 | k + 1 => by
  obtain ⟨ih0, ih1⟩ := impl_GoodSaid.mono_l k
  and_intros <;> intros
  all_goals (first | unfold impl_GoodSaid.j0 | unfold impl_GoodSaid.l0)
  all_goals repeat' with_reducible first | apply ih0 | apply ih1 | apply impl_isSaid.mono | apply impl_operandsOfSaid.mono | exact LeO.refl _ | exact LeO.none _ | apply LeO.ite | refine LeO.bind ?_ fun _ => ?_
theorem impl_GoodSaid.mono : ∀ a0 k, LeO (impl_GoodSaid.f k a0) (impl_GoodSaid.f (k + 1) a0) := by
 intro a0 k
 obtain ⟨ih0, ih1⟩ := impl_GoodSaid.mono_l k
 unfold impl_GoodSaid.f
 repeat' with_reducible first | apply ih0 | apply ih1 | apply impl_isSaid.mono | apply impl_operandsOfSaid.mono | exact LeO.refl _ | exact LeO.none _ | apply LeO.ite | refine LeO.bind ?_ fun _ => ?_
theorem impl_GoodSaid.calls (k : Nat) (A0 : Option Addr) (c0 : Nat) (l0 : List (S43)) (r : Bool) (w : World) (hr0 : Kd.C k43 w A0 l0.length l0) (hc0 : l0.length ≤ c0) (h : impl_GoodSaid.f k l0 = some r) :
  Calls Try.prog 19 #[.slice A0 l0.length c0] w fun e w' => e = .returned (.bool r) ∧ Below w.heap.size w w' := by
 have hu43 := Try.underlying43
 have HR0 := am_ hr0
 have HC0 := am_ hc0
 clear hr0 hc0
 have HB := am_ (Below.refl w.heap.size w)
 have H := h
 clear h
 unfold impl_GoodSaid.f at H
 have HC2 := am_ H
 clear H
 go_enter Try.func19, Try.ntmps19
 go_upto_region 1 with (fail)
 go_cut [14] (fun v14 wc => ∃ (kq : Nat) (x14_1 : Bool), v14 = .bool x14_1 ∧ Aside0 (impl_GoodSaid.j0 kq l0 x14_1 = some r) ∧ Aside0 (kq ≤ k) ∧ Aside0 (Below w.heap.size w wc))
 case first =>
  have H := HC2.out
  clear HC2
  by_cases c3 : (l0.length : Int) < 1
  ·rw [if_pos c3] at H
   have c3b0 := decide_eq_true c3
   have c3b1 : decide (l0.length < 1) = true := decide_eq_true (by omega)
   clear c3
   first | rw [c3b0] | (simp only [i64_w, i32_w]; rw [c3b0]) | skip
   have H' := am_ H
   clear H
   go_wp2
   go_meet
   case rel => exact ⟨_, (true), (Sh.es), H', ⟨Sh.om⟩, ⟨Sh.bw⟩⟩
  ·rw [if_neg c3] at H
   have c3b0 := decide_eq_false c3
   have c3b1 : decide (l0.length < 1) = false := decide_eq_false (by omega)
   clear c3
   first | rw [c3b0] | (simp only [i64_w, i32_w]; rw [c3b0]) | skip
   have H' := am_ H
   clear H
   go_wp2
   go_meet
   case rel => exact ⟨_, (decide ((l0.length : Int) > 16)), (Sh.es), H', ⟨Sh.om⟩, ⟨Sh.bw⟩⟩
 case rest =>
  clear HC2
  obtain ⟨kq, x14_1, rfl, HA, HJ1, HB⟩ := hcut
  cases kq with
  | zero => exact absurd HA.out (by simp [impl_GoodSaid.j0])
  | succ kj1 =>
   have H := HA.out
   clear HA
   simp only [impl_GoodSaid.j0] at H
   by_cases c4 : x14_1 = true
   ·subst c4
    rw [if_pos rfl] at H
    obtain rfl := Option.some.inj H
    go_wp2
    go_ret
    exact ⟨Sh.eR, Sh.bw⟩
   ·replace c4 := Bool.eq_false_iff.mpr c4
    subst c4
    rw [Sh.nf] at H
    have H' := am_ H
    clear H
    go_wp2
    go_loopg [3, 17] kj1 (fun kq v3 v17 w' => ∃ (x3_2 : Int) (x17_2 : Int), v3 = .int .i64 x3_2 ∧ v17 = .int .i64 x17_2 ∧ Aside0 (impl_GoodSaid.l0 kq x3_2 l0 (l0.length : Int) x17_2 = some r) ∧ Aside0 (kq ≤ kj1) ∧ Aside0 (Below w.heap.size w w'))
    case atStart => exact ⟨(0), (0), (Sh.es), (Sh.es), H', ⟨Nat.le_refl _⟩, ⟨Sh.bw⟩⟩
    case round =>
     clear H'
     obtain ⟨x3_2, x17_2, rfl, rfl, HA, HK2, HB⟩ := hrel
     cases gk with
     | zero => exact absurd HA.out (by simp [impl_GoodSaid.l0])
     | succ k2 =>
      have H := HA.out
      clear HA
      simp only [impl_GoodSaid.l0] at H
      by_cases c5 : x17_2 < (l0.length : Int)
      ·rw [if_pos c5] at H
       have c5b0 := decide_eq_true c5
       clear c5
       by_cases c6 : 0 ≤ x17_2
       ·rw [if_pos c6] at H
        have c6b0 := decide_eq_true c6
        clear c6
        by_cases c7 : x17_2 < (l0.length : Int)
        ·rw [if_pos c7] at H
         have c7b0 := decide_eq_true c7
         clear c7
         obtain ⟨t194, A8, H⟩ := Sh.ba H
         obtain ⟨t195, A9, H⟩ := Sh.ba H
         by_cases c10 : t195 = true
         ·subst c10
          rw [if_pos rfl] at H
          by_cases c11 : x3_2 < t194
          ·rw [if_pos c11] at H
           have c11b0 := decide_eq_true c11
           clear c11
           obtain rfl := Option.some.inj H
           have p192 : 0 ≤ (x17_2 : Int) := Sh.od
           have q192 : x17_2 < (l0.length : Int) := Sh.od
           obtain ⟨ad192, e192, hx192_0, hx192_1⟩ := at_T43 HR0.out x17_2 p192 q192
           cases e192
           try replace hx192_0 := Sh.cw hx192_0
           try replace hx192_1 := Sh.cw hx192_1
           replace p192 := eq_true p192
           replace q192 := eq_true q192
           go_wp2_with (first | ((with_reducible refine Sh.d 5 ?_); (try (refine gate_guard (by rfl) ?_; dsimp only)); refine Sh.bz w (N := 5) (cs := #[.int .i64 0, .int .i64 0]) (t := 43) (h := ?_); clear HB; intro gb193 w12 BK193 GE193 HB; obtain ⟨hcz13_0, hcz13_1, hfz13_0, hfz13_1⟩ := Sh.b2 BK193.out) | ((with_reducible refine Sh.k 30 ?_); refine Sh.gD (some 23) Try.func30 #[.int .i64 ((rd_T43 l0 x17_2).f0)] (impl_operandsOfSaid.calls k2 ((rd_T43 l0 x17_2).f0) t194 _ A8.out) fun nd => ?_) | ((with_reducible refine Sh.k 31 ?_); refine Sh.gB (some 25) Try.func31 #[.agg #[.int .i64 ((rd_T43 l0 x17_2).f0), .int .i64 ((rd_T43 l0 x17_2).f1)]] (impl_isSaid.calls k2 ((rd_T43 l0 x17_2).f0) ((rd_T43 l0 x17_2).f1) true _ A9.out) fun w14 hb => ?_; replace BK193 := am_ (blk_below (g := gb193) (o := .cells #[.int .i64 ((rd_T43 l0 x17_2).f0), .int .i64 ((rd_T43 l0 x17_2).f1)] 43 (0, 0)) (by refine Sh.pl ?_; refine blk_put (cs := #[.int .i64 ((rd_T43 l0 x17_2).f0), .int .i64 0]) ?_ 1 _ rfl; refine Sh.pl ?_; refine blk_put (cs := #[.int .i64 0, .int .i64 0]) ?_ 0 _ rfl; refine Sh.pl ?_; exact BK193.out) hb); replace HB := Sh.hb hb; (try clear hb); (try clear hb2); (try clear hk); (try clear hi)))
           go_ret
           exact ⟨Sh.eR, Sh.bw⟩
          ·rw [if_neg c11] at H
           have c11b0 := decide_eq_false c11
           clear c11
           have H' := am_ H
           clear H
           have p192 : 0 ≤ (x17_2 : Int) := Sh.od
           have q192 : x17_2 < (l0.length : Int) := Sh.od
           obtain ⟨ad192, e192, hx192_0, hx192_1⟩ := at_T43 HR0.out x17_2 p192 q192
           cases e192
           try replace hx192_0 := Sh.cw hx192_0
           try replace hx192_1 := Sh.cw hx192_1
           replace p192 := eq_true p192
           replace q192 := eq_true q192
           go_wp2_with (first | ((with_reducible refine Sh.d 5 ?_); (try (refine gate_guard (by rfl) ?_; dsimp only)); refine Sh.bz w (N := 5) (cs := #[.int .i64 0, .int .i64 0]) (t := 43) (h := ?_); clear HB; intro gb193 w15 BK193 GE193 HB; obtain ⟨hcz16_0, hcz16_1, hfz16_0, hfz16_1⟩ := Sh.b2 BK193.out) | ((with_reducible refine Sh.k 30 ?_); refine Sh.gD (some 23) Try.func30 #[.int .i64 ((rd_T43 l0 x17_2).f0)] (impl_operandsOfSaid.calls k2 ((rd_T43 l0 x17_2).f0) t194 _ A8.out) fun nd => ?_) | ((with_reducible refine Sh.k 31 ?_); refine Sh.gB (some 25) Try.func31 #[.agg #[.int .i64 ((rd_T43 l0 x17_2).f0), .int .i64 ((rd_T43 l0 x17_2).f1)]] (impl_isSaid.calls k2 ((rd_T43 l0 x17_2).f0) ((rd_T43 l0 x17_2).f1) true _ A9.out) fun w17 hb => ?_; replace BK193 := am_ (blk_below (g := gb193) (o := .cells #[.int .i64 ((rd_T43 l0 x17_2).f0), .int .i64 ((rd_T43 l0 x17_2).f1)] 43 (0, 0)) (by refine Sh.pl ?_; refine blk_put (cs := #[.int .i64 ((rd_T43 l0 x17_2).f0), .int .i64 0]) ?_ 1 _ rfl; refine Sh.pl ?_; refine blk_put (cs := #[.int .i64 0, .int .i64 0]) ?_ 0 _ rfl; refine Sh.pl ?_; exact BK193.out) hb); replace HB := Sh.hb hb; (try clear hb); (try clear hb2); (try clear hk); (try clear hi)))
           go_roundg k2
           case measure => have := HJ1.out; have := HK2.out; omega
           case rel => exact ⟨(wrap64 (x3_2 + (wrap64 (1 - t194)))), (wrap64 (x17_2 + 1)), (Sh.es), (Sh.es), H', ⟨by have := HJ1.out; have := HK2.out; omega⟩, ⟨Sh.bw⟩⟩
         ·replace c10 := Bool.eq_false_iff.mpr c10
          subst c10
          rw [Sh.nf] at H
          obtain rfl := Option.some.inj H
          have p192 : 0 ≤ (x17_2 : Int) := Sh.od
          have q192 : x17_2 < (l0.length : Int) := Sh.od
          obtain ⟨ad192, e192, hx192_0, hx192_1⟩ := at_T43 HR0.out x17_2 p192 q192
          cases e192
          try replace hx192_0 := Sh.cw hx192_0
          try replace hx192_1 := Sh.cw hx192_1
          replace p192 := eq_true p192
          replace q192 := eq_true q192
          go_wp2_with (first | ((with_reducible refine Sh.d 5 ?_); (try (refine gate_guard (by rfl) ?_; dsimp only)); refine Sh.bz w (N := 5) (cs := #[.int .i64 0, .int .i64 0]) (t := 43) (h := ?_); clear HB; intro gb193 w18 BK193 GE193 HB; obtain ⟨hcz19_0, hcz19_1, hfz19_0, hfz19_1⟩ := Sh.b2 BK193.out) | ((with_reducible refine Sh.k 30 ?_); refine Sh.gD (some 23) Try.func30 #[.int .i64 ((rd_T43 l0 x17_2).f0)] (impl_operandsOfSaid.calls k2 ((rd_T43 l0 x17_2).f0) t194 _ A8.out) fun nd => ?_) | ((with_reducible refine Sh.k 31 ?_); refine Sh.gB (some 25) Try.func31 #[.agg #[.int .i64 ((rd_T43 l0 x17_2).f0), .int .i64 ((rd_T43 l0 x17_2).f1)]] (impl_isSaid.calls k2 ((rd_T43 l0 x17_2).f0) ((rd_T43 l0 x17_2).f1) false _ A9.out) fun w20 hb => ?_; replace BK193 := am_ (blk_below (g := gb193) (o := .cells #[.int .i64 ((rd_T43 l0 x17_2).f0), .int .i64 ((rd_T43 l0 x17_2).f1)] 43 (0, 0)) (by refine Sh.pl ?_; refine blk_put (cs := #[.int .i64 ((rd_T43 l0 x17_2).f0), .int .i64 0]) ?_ 1 _ rfl; refine Sh.pl ?_; refine blk_put (cs := #[.int .i64 0, .int .i64 0]) ?_ 0 _ rfl; refine Sh.pl ?_; exact BK193.out) hb); replace HB := Sh.hb hb; (try clear hb); (try clear hb2); (try clear hk); (try clear hi)))
          go_ret
          exact ⟨Sh.eR, Sh.bw⟩
        ·rw [if_neg c7] at H
         exact absurd H (by simp)
       ·rw [if_neg c6] at H
        exact absurd H (by simp)
      ·rw [if_neg c5] at H
       have c5b0 := decide_eq_false c5
       clear c5
       obtain rfl := Option.some.inj H
       go_wp2
       go_ret
       exact ⟨Sh.eR, Sh.bw⟩
end Go.Proofs.Ytgcglmkkfkjhhaa.P
