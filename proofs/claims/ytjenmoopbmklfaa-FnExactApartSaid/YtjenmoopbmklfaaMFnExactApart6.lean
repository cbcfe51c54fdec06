/- Go functions of this seat as Lean functions, and the proofs that the calls come to what these say; printed by a program of this session. No condition. -/
import Derived.Test.YtjenmoopbmklfaaP0
import Derived.Test.YtjenmoopbmklfaaMFnExactApart5
import Derived.Test.YtjenmoopbmklfaaMFnExactApart4
set_option linter.unusedVariables false
set_option linter.unusedSimpArgs false
set_option maxHeartbeats 40000000
set_option maxRecDepth 100000
namespace Go.Proofs.Ytjenmoopbmklfaa.P
open Go.RowKit Go.Proofs.YtjenmoopbmklfaaW.PrintWords Go.Proofs.YtjenmoopbmklfaaW.PrintLast Go.Proofs.YtjenmoopbmklfaaW.PrintMore Go.Proofs.Ytjenmoopbmklfaa.Hof
attribute [local go_sem] max2_int min2_int max_two min_two max_three min_three max_four min_four
def impl_GoodProgram_1.f (k : Nat) (l0_0 : List (S73)) (l0_1 : List (S52)) (a1_0 : Int) (a1_1 : Int) (l1_2 : List (S73)) (l1_3 : List (S50)) : Option (Bool) := (impl_Program_isCommand.f k a1_0 a1_1 l1_2 l1_3 l0_0 l0_1).bind fun t362 => (some (!t362))
theorem impl_GoodProgram_1.mono : ∀ a0 a1 a2 a3 a4 a5 k, LeO (impl_GoodProgram_1.f k a0 a1 a2 a3 a4 a5) (impl_GoodProgram_1.f (k + 1) a0 a1 a2 a3 a4 a5) := by
 intro a0 a1 a2 a3 a4 a5 k
 unfold impl_GoodProgram_1.f
 repeat' with_reducible first | apply impl_Program_isCommand.mono | exact LeO.refl _ | exact LeO.none _ | apply LeO.ite | refine LeO.bind ?_ fun _ => ?_
theorem impl_GoodProgram_1.calls (k : Nat) (A0_0 : Option Addr) (c0_0 : Nat) (l0_0 : List (S73)) (A0_1 : Option Addr) (c0_1 : Nat) (l0_1 : List (S52)) (bp1 : Nat) (a1_0 : Int) (a1_1 : Int) (A1_2 : Option Addr) (c1_2 : Nat) (l1_2 : List (S73)) (A1_3 : Option Addr) (c1_3 : Nat) (l1_3 : List (S50)) (r : Bool) (w : World) (hr0_0 : Kd.C k73 w A0_0 l0_0.length l0_0) (hc0_0 : l0_0.length ≤ c0_0) (hr0_1 : Kd.C k52 w A0_1 l0_1.length l0_1) (hc0_1 : l0_1.length ≤ c0_1) (hr1_2 : Kd.C k73 w A1_2 l1_2.length l1_2) (hc1_2 : l1_2.length ≤ c1_2) (hr1_3 : Kd.C k50 w A1_3 l1_3.length l1_3) (hc1_3 : l1_3.length ≤ c1_3) (hb1 : w.heap[bp1]? = some (.cells #[.int .i64 a1_0, .int .i64 a1_1, .slice A1_2 l1_2.length c1_2, .slice A1_3 l1_3.length c1_3] 33 (0, 0))) (h : impl_GoodProgram_1.f k l0_0 l0_1 a1_0 a1_1 l1_2 l1_3 = some r) :
  Calls Try.prog 47 #[.agg #[.slice A0_0 l0_0.length c0_0, .slice A0_1 l0_1.length c0_1], .pointer (some ⟨bp1, 0, none⟩)] w fun e w' => e = .returned (.bool r) ∧ Below w.heap.size w w' := by
 have hu50 := Try.underlying50
 have hu33 := Try.underlying33
 have HR0_0 := am_ hr0_0
 have HC0_0 := am_ hc0_0
 clear hr0_0 hc0_0
 have HR0_1 := am_ hr0_1
 have HC0_1 := am_ hc0_1
 clear hr0_1 hc0_1
 have HR1_2 := am_ hr1_2
 have HC1_2 := am_ hc1_2
 clear hr1_2 hc1_2
 have HR1_3 := am_ hr1_3
 have HC1_3 := am_ hc1_3
 clear hr1_3 hc1_3
 have HX1 := am_ hb1
 clear hb1
 have HB := am_ (Below.refl w.heap.size w)
 have H := h
 clear h
 unfold impl_GoodProgram_1.f at H
 obtain ⟨t362, A3, H⟩ := Sh.ba H
 obtain rfl := Option.some.inj H
 go_enter Try.func47, Try.ntmps47
 go_wp2_with (first | ((with_reducible refine Sh.d 2 ?_); refine Sh.bx (N := 2) (cs := #[.slice A0_0 l0_0.length c0_0, .slice A0_1 l0_1.length c0_1]) (t := 50) (h := ?_); intro gb361 hg w4 hbox hb; have BK361 := am_ hbox; have GE361 := Sh.ag w hg; replace HB := Sh.hb hb; have NB1_361 := am_ ((by rw [hg]; exact Nat.ne_of_lt (blk_lt (g := bp1) (o := .cells #[.int .i64 a1_0, .int .i64 a1_1, .slice A1_2 l1_2.length c1_2, .slice A1_3 l1_3.length c1_3] 33 (0, 0)) (Sh.pl HX1.out)) : bp1 ≠ gb361)); have NB361_1 := am_ ((by rw [hg]; exact Nat.ne_of_gt (blk_lt (g := bp1) (o := .cells #[.int .i64 a1_0, .int .i64 a1_1, .slice A1_2 l1_2.length c1_2, .slice A1_3 l1_3.length c1_3] 33 (0, 0)) (Sh.pl HX1.out)) : gb361 ≠ bp1)); replace HX1 := am_ (blk_below (g := bp1) (o := .cells #[.int .i64 a1_0, .int .i64 a1_1, .slice A1_2 l1_2.length c1_2, .slice A1_3 l1_3.length c1_3] 33 (0, 0)) (Sh.pl HX1.out) hb); clear hb hbox hg; have hnb5 := NB1_361.out; have hnc5 := NB361_1.out; have hcz6_0 : w4.cell? ⟨bp1, 0, none⟩ = some (.int .i64 a1_0) := (blk_cell HX1.out 0).trans rfl; have hcz6_1 : w4.cell? ⟨bp1, 1, none⟩ = some (.int .i64 a1_1) := (blk_cell HX1.out 1).trans rfl; have hcz6_2 : w4.cell? ⟨bp1, 2, none⟩ = some (.slice A1_2 l1_2.length c1_2) := (blk_cell HX1.out 2).trans rfl; have hcz6_3 : w4.cell? ⟨bp1, 3, none⟩ = some (.slice A1_3 l1_3.length c1_3) := (blk_cell HX1.out 3).trans rfl; have hfz6_0 := blk_frozen HX1.out 0; have hfz6_1 := blk_frozen HX1.out 1; have hfz6_2 := blk_frozen HX1.out 2; have hfz6_3 := blk_frozen HX1.out 3; obtain ⟨hcz7_0, hcz7_1, hfz7_0, hfz7_1⟩ := Sh.b2 BK361.out) | ((with_reducible refine Sh.k 48 ?_); refine Sh.gB (some 6) Try.func48 #[.agg #[.int .i64 a1_0, .int .i64 a1_1, .slice A1_2 l1_2.length c1_2, .slice A1_3 l1_3.length c1_3], .agg #[.slice A0_0 l0_0.length c0_0, .slice A0_1 l0_1.length c0_1]] (impl_Program_isCommand.calls k a1_0 a1_1 _ _ l1_2 _ _ l1_3 _ _ l0_0 _ _ l0_1 t362 _ (Sh.cB HR1_2.out) HC1_2.out (Sh.cB HR1_3.out) HC1_3.out (Sh.cB HR0_0.out) HC0_0.out (Sh.cB HR0_1.out) HC0_1.out A3.out) fun w8 hb => ?_; replace HX1 := am_ (blk_below (g := bp1) (o := .cells #[.int .i64 a1_0, .int .i64 a1_1, .slice A1_2 l1_2.length c1_2, .slice A1_3 l1_3.length c1_3] 33 (0, 0)) (Sh.pl HX1.out) hb); replace BK361 := Sh.ab BK361 hb; replace HB := Sh.hb hb; (try clear hb); (try clear hb2); (try clear hk); (try clear hi)))
 go_ret
 exact ⟨Sh.eR, Sh.bw⟩
def impl_Command_46_by_impl_GoodProgram_1.f (k : Nat) (l0 : List (S50)) (a1_0 : Int) (a1_1 : Int) (l1_2 : List (S73)) (l1_3 : List (S50)) : Option (Bool) := anyO (fun x_ => impl_GoodProgram_1.f k x_.f0 x_.f1 a1_0 a1_1 l1_2 l1_3) l0
theorem impl_Command_46_by_impl_GoodProgram_1.mono : ∀ a0 a1 a2 a3 a4 k, LeO (impl_Command_46_by_impl_GoodProgram_1.f k a0 a1 a2 a3 a4) (impl_Command_46_by_impl_GoodProgram_1.f (k + 1) a0 a1 a2 a3 a4) := by
 intro a0 a1 a2 a3 a4 k
 unfold impl_Command_46_by_impl_GoodProgram_1.f
 with_reducible exact anyO_mono (fun x_ => impl_GoodProgram_1.mono (S50.f0 x_) (S50.f1 x_) a1 a2 a3 a4 k) a0
theorem impl_Command_46_by_impl_GoodProgram_1.calls (k : Nat) (A0 : Option Addr) (c0 : Nat) (l0 : List (S50)) (bp1 : Nat) (a1_0 : Int) (a1_1 : Int) (A1_2 : Option Addr) (c1_2 : Nat) (l1_2 : List (S73)) (A1_3 : Option Addr) (c1_3 : Nat) (l1_3 : List (S50)) (r : Bool) (w : World) (hr0 : Kd.C k50 w A0 l0.length l0) (hc0 : l0.length ≤ c0) (hr1_2 : Kd.C k73 w A1_2 l1_2.length l1_2) (hc1_2 : l1_2.length ≤ c1_2) (hr1_3 : Kd.C k50 w A1_3 l1_3.length l1_3) (hc1_3 : l1_3.length ≤ c1_3) (hb1 : w.heap[bp1]? = some (.cells #[.int .i64 a1_0, .int .i64 a1_1, .slice A1_2 l1_2.length c1_2, .slice A1_3 l1_3.length c1_3] 33 (0, 0))) (h : impl_Command_46_by_impl_GoodProgram_1.f k l0 a1_0 a1_1 l1_2 l1_3 = some r) :
  Calls Try.prog 46 #[.slice A0 l0.length c0, .func (.func 47) #[] #[.pointer (some ⟨bp1, 0, none⟩)]] w fun e w' => e = .returned (.bool r) ∧ Below w.heap.size w w' := by
 refine impl_Command_46.gen 47 #[.pointer (some ⟨bp1, 0, none⟩)] (enters_of Try.func47 (by kernel_rfl) rfl) _ A0 c0 l0 r w hr0 hc0 ?_ h
 intro W x b A0 c0 A1 c1 hB_ hin_ hq_ hl0_ hC0_ hl1_ hC1_
 refine (impl_GoodProgram_1.calls k _ _ x.f0 _ _ x.f1 bp1 a1_0 a1_1 _ _ l1_2 _ _ l1_3 b W hC0_ hl0_ hC1_ hl1_ (Kd.C_below hr1_2 hB_) hc1_2 (Kd.C_below hr1_3 hB_) hc1_3 ((hB_.block _ (blk_lt hb1)).trans hb1) hq_).mono ?_
 rintro e w' ⟨rfl, hd_⟩
 exact ⟨rfl, hd_⟩
def impl_GoodProgram.f (k : Nat) (a0_0 : Int) (a0_1 : Int) (l0_2 : List (S73)) (l0_3 : List (S50)) : Option (Bool) := (impl_isWide.f a0_0).bind fun t364 => (if t364 = true then ((impl_isVars.f a0_1).bind fun t365 => (if t365 = true then ((impl_Program_isCondition.f k a0_0 a0_1 l0_2 l0_3 l0_2).bind fun t366 => (if t366 = true then (if (l0_3.length : Int) < 1 then (some false) else (if (l0_3.length : Int) > 6 then (some false) else ((impl_Command_46_by_impl_GoodProgram_1.f k l0_3 a0_0 a0_1 l0_2 l0_3).bind fun t367 => (some (!t367))))) else (some false))) else (some false))) else (some false))
theorem impl_GoodProgram.mono : ∀ a0 a1 a2 a3 k, LeO (impl_GoodProgram.f k a0 a1 a2 a3) (impl_GoodProgram.f (k + 1) a0 a1 a2 a3) := by
 intro a0 a1 a2 a3 k
 unfold impl_GoodProgram.f
 repeat' with_reducible first | apply impl_Command_46_by_impl_GoodProgram_1.mono | apply impl_Program_isCondition.mono | exact LeO.refl _ | exact LeO.none _ | apply LeO.ite | refine LeO.bind ?_ fun _ => ?_
theorem impl_GoodProgram.calls (k : Nat) (a0_0 : Int) (a0_1 : Int) (A0_2 : Option Addr) (c0_2 : Nat) (l0_2 : List (S73)) (A0_3 : Option Addr) (c0_3 : Nat) (l0_3 : List (S50)) (r : Bool) (w : World) (hr0_2 : Kd.C k73 w A0_2 l0_2.length l0_2) (hc0_2 : l0_2.length ≤ c0_2) (hr0_3 : Kd.C k50 w A0_3 l0_3.length l0_3) (hc0_3 : l0_3.length ≤ c0_3) (h : impl_GoodProgram.f k a0_0 a0_1 l0_2 l0_3 = some r) :
  Calls Try.prog 24 #[.agg #[.int .i64 a0_0, .int .i64 a0_1, .slice A0_2 l0_2.length c0_2, .slice A0_3 l0_3.length c0_3]] w fun e w' => e = .returned (.bool r) ∧ Below w.heap.size w w' := by
 have hu33 := Try.underlying33
 have HR0_2 := am_ hr0_2
 have HC0_2 := am_ hc0_2
 clear hr0_2 hc0_2
 have HR0_3 := am_ hr0_3
 have HC0_3 := am_ hc0_3
 clear hr0_3 hc0_3
 have HB := am_ (Below.refl w.heap.size w)
 have H := h
 clear h
 unfold impl_GoodProgram.f at H
 obtain ⟨t364, A2, H⟩ := Sh.ba H
 by_cases c3 : t364 = true
 ·subst c3
  rw [if_pos rfl] at H
  obtain ⟨t365, A4, H⟩ := Sh.ba H
  by_cases c5 : t365 = true
  ·subst c5
   rw [if_pos rfl] at H
   obtain ⟨t366, A6, H⟩ := Sh.ba H
   by_cases c7 : t366 = true
   ·subst c7
    rw [if_pos rfl] at H
    by_cases c8 : (l0_3.length : Int) < 1
    ·rw [if_pos c8] at H
     have c8b0 := decide_eq_true c8
     have c8b1 : decide (l0_3.length < 1) = true := decide_eq_true (by omega)
     clear c8
     obtain rfl := Option.some.inj H
     go_enter Try.func24, Try.ntmps24
     go_wp2_with (first | ((with_reducible refine Sh.d 1 ?_); (try (refine gate_guard (by rfl) ?_; dsimp only)); refine Sh.bz w (N := 1) (cs := #[.int .i64 a0_0, .int .i64 a0_1, .slice A0_2 l0_2.length c0_2, .slice A0_3 l0_3.length c0_3]) (t := 33) (h := ?_); clear HB; intro gb363 w9 BK363 GE363 HB; obtain ⟨hcz10_0, hcz10_1, hcz10_2, hcz10_3, hfz10_0, hfz10_1, hfz10_2, hfz10_3⟩ := Sh.b4 BK363.out) | ((with_reducible refine Sh.k 43 ?_); refine Sh.gD (some 5) Try.func43 #[.int .i64 a0_0] (impl_isWide.calls a0_0 true _ A2.out) fun nd => ?_) | (go_at_call 44; (with_reducible refine (impl_isVars.calls a0_1 true _ A4.out).mono ?_); rintro e w' ⟨rfl, ⟨nd, rfl⟩⟩) | (go_at_call 45; (with_reducible refine (impl_Program_isCondition.calls k a0_0 a0_1 _ _ l0_2 _ _ l0_3 _ _ l0_2 true _ (Sh.cB HR0_2.out) HC0_2.out (Sh.cB HR0_3.out) HC0_3.out (Sh.cB HR0_2.out) HC0_2.out A6.out).mono ?_); rintro e w11 ⟨rfl, hb⟩; replace BK363 := Sh.ab BK363 hb; replace HB := Sh.hb hb; (try clear hb); (try clear hb2); (try clear hk); (try clear hi); obtain ⟨hcz12_0, hcz12_1, hcz12_2, hcz12_3, hfz12_0, hfz12_1, hfz12_2, hfz12_3⟩ := Sh.b4 BK363.out))
     go_ret
     exact ⟨Sh.eR, Sh.bw⟩
    ·rw [if_neg c8] at H
     have c8b0 := decide_eq_false c8
     have c8b1 : decide (l0_3.length < 1) = false := decide_eq_false (by omega)
     clear c8
     by_cases c13 : (l0_3.length : Int) > 6
     ·rw [if_pos c13] at H
      have c13b0 : decide (6 < (l0_3.length : Int)) = true := decide_eq_true c13
      have c13b1 : decide (6 < l0_3.length) = true := decide_eq_true (by omega)
      clear c13
      obtain rfl := Option.some.inj H
      go_enter Try.func24, Try.ntmps24
      go_wp2_with (first | ((with_reducible refine Sh.d 1 ?_); (try (refine gate_guard (by rfl) ?_; dsimp only)); refine Sh.bz w (N := 1) (cs := #[.int .i64 a0_0, .int .i64 a0_1, .slice A0_2 l0_2.length c0_2, .slice A0_3 l0_3.length c0_3]) (t := 33) (h := ?_); clear HB; intro gb363 w14 BK363 GE363 HB; obtain ⟨hcz15_0, hcz15_1, hcz15_2, hcz15_3, hfz15_0, hfz15_1, hfz15_2, hfz15_3⟩ := Sh.b4 BK363.out) | ((with_reducible refine Sh.k 43 ?_); refine Sh.gD (some 5) Try.func43 #[.int .i64 a0_0] (impl_isWide.calls a0_0 true _ A2.out) fun nd => ?_) | (go_at_call 44; (with_reducible refine (impl_isVars.calls a0_1 true _ A4.out).mono ?_); rintro e w' ⟨rfl, ⟨nd, rfl⟩⟩) | (go_at_call 45; (with_reducible refine (impl_Program_isCondition.calls k a0_0 a0_1 _ _ l0_2 _ _ l0_3 _ _ l0_2 true _ (Sh.cB HR0_2.out) HC0_2.out (Sh.cB HR0_3.out) HC0_3.out (Sh.cB HR0_2.out) HC0_2.out A6.out).mono ?_); rintro e w16 ⟨rfl, hb⟩; replace BK363 := Sh.ab BK363 hb; replace HB := Sh.hb hb; (try clear hb); (try clear hb2); (try clear hk); (try clear hi); obtain ⟨hcz17_0, hcz17_1, hcz17_2, hcz17_3, hfz17_0, hfz17_1, hfz17_2, hfz17_3⟩ := Sh.b4 BK363.out))
      go_ret
      exact ⟨Sh.eR, Sh.bw⟩
     ·rw [if_neg c13] at H
      have c13b0 : decide (6 < (l0_3.length : Int)) = false := decide_eq_false c13
      have c13b1 : decide (6 < l0_3.length) = false := decide_eq_false (by omega)
      clear c13
      obtain ⟨t367, A18, H⟩ := Sh.ba H
      obtain rfl := Option.some.inj H
      go_enter Try.func24, Try.ntmps24
      go_wp2_with (first | ((with_reducible refine Sh.d 1 ?_); (try (refine gate_guard (by rfl) ?_; dsimp only)); refine Sh.bz w (N := 1) (cs := #[.int .i64 a0_0, .int .i64 a0_1, .slice A0_2 l0_2.length c0_2, .slice A0_3 l0_3.length c0_3]) (t := 33) (h := ?_); clear HB; intro gb363 w19 BK363 GE363 HB; obtain ⟨hcz20_0, hcz20_1, hcz20_2, hcz20_3, hfz20_0, hfz20_1, hfz20_2, hfz20_3⟩ := Sh.b4 BK363.out) | ((with_reducible refine Sh.k 43 ?_); refine Sh.gD (some 5) Try.func43 #[.int .i64 a0_0] (impl_isWide.calls a0_0 true _ A2.out) fun nd => ?_) | (go_at_call 44; (with_reducible refine (impl_isVars.calls a0_1 true _ A4.out).mono ?_); rintro e w' ⟨rfl, ⟨nd, rfl⟩⟩) | (go_at_call 45; (with_reducible refine (impl_Program_isCondition.calls k a0_0 a0_1 _ _ l0_2 _ _ l0_3 _ _ l0_2 true _ (Sh.cB HR0_2.out) HC0_2.out (Sh.cB HR0_3.out) HC0_3.out (Sh.cB HR0_2.out) HC0_2.out A6.out).mono ?_); rintro e w21 ⟨rfl, hb⟩; replace BK363 := Sh.ab BK363 hb; replace HB := Sh.hb hb; (try clear hb); (try clear hb2); (try clear hk); (try clear hi); obtain ⟨hcz22_0, hcz22_1, hcz22_2, hcz22_3, hfz22_0, hfz22_1, hfz22_2, hfz22_3⟩ := Sh.b4 BK363.out) | ((with_reducible refine Sh.k 46 ?_); refine Sh.gL (some 35) Try.func46 #[.slice A0_3 l0_3.length c0_3, .func (.func 47) #[] #[.pointer (some ⟨gb363, 0, none⟩)]] (h := ?_); (with_reducible refine (impl_Command_46_by_impl_GoodProgram_1.calls k _ _ l0_3 gb363 a0_0 a0_1 A0_2 c0_2 l0_2 A0_3 c0_3 l0_3 t367 _ (Sh.cB HR0_3.out) HC0_3.out (Sh.cB HR0_2.out) HC0_2.out (Sh.cB HR0_3.out) HC0_3.out ?side7 A18.out).mono ?_); (case side7 => refine Sh.pl ?_; exact BK363.out); rintro e w23 ⟨rfl, hb⟩; refine ⟨_, rfl, ?_⟩; replace BK363 := Sh.ab BK363 hb; replace HB := Sh.hb hb; (try clear hb); (try clear hb2); (try clear hk); (try clear hi)))
      go_ret
      exact ⟨Sh.eR, Sh.bw⟩
   ·replace c7 := Bool.eq_false_iff.mpr c7
    subst c7
    rw [Sh.nf] at H
    obtain rfl := Option.some.inj H
    go_enter Try.func24, Try.ntmps24
    go_wp2_with (first | ((with_reducible refine Sh.d 1 ?_); (try (refine gate_guard (by rfl) ?_; dsimp only)); refine Sh.bz w (N := 1) (cs := #[.int .i64 a0_0, .int .i64 a0_1, .slice A0_2 l0_2.length c0_2, .slice A0_3 l0_3.length c0_3]) (t := 33) (h := ?_); clear HB; intro gb363 w24 BK363 GE363 HB; obtain ⟨hcz25_0, hcz25_1, hcz25_2, hcz25_3, hfz25_0, hfz25_1, hfz25_2, hfz25_3⟩ := Sh.b4 BK363.out) | ((with_reducible refine Sh.k 43 ?_); refine Sh.gD (some 5) Try.func43 #[.int .i64 a0_0] (impl_isWide.calls a0_0 true _ A2.out) fun nd => ?_) | (go_at_call 44; (with_reducible refine (impl_isVars.calls a0_1 true _ A4.out).mono ?_); rintro e w' ⟨rfl, ⟨nd, rfl⟩⟩) | (go_at_call 45; (with_reducible refine (impl_Program_isCondition.calls k a0_0 a0_1 _ _ l0_2 _ _ l0_3 _ _ l0_2 false _ (Sh.cB HR0_2.out) HC0_2.out (Sh.cB HR0_3.out) HC0_3.out (Sh.cB HR0_2.out) HC0_2.out A6.out).mono ?_); rintro e w26 ⟨rfl, hb⟩; replace BK363 := Sh.ab BK363 hb; replace HB := Sh.hb hb; (try clear hb); (try clear hb2); (try clear hk); (try clear hi)))
    go_ret
    exact ⟨Sh.eR, Sh.bw⟩
  ·replace c5 := Bool.eq_false_iff.mpr c5
   subst c5
   rw [Sh.nf] at H
   obtain rfl := Option.some.inj H
   go_enter Try.func24, Try.ntmps24
   go_wp2_with (first | ((with_reducible refine Sh.d 1 ?_); (try (refine gate_guard (by rfl) ?_; dsimp only)); refine Sh.bz w (N := 1) (cs := #[.int .i64 a0_0, .int .i64 a0_1, .slice A0_2 l0_2.length c0_2, .slice A0_3 l0_3.length c0_3]) (t := 33) (h := ?_); clear HB; intro gb363 w27 BK363 GE363 HB; obtain ⟨hcz28_0, hcz28_1, hcz28_2, hcz28_3, hfz28_0, hfz28_1, hfz28_2, hfz28_3⟩ := Sh.b4 BK363.out) | ((with_reducible refine Sh.k 43 ?_); refine Sh.gD (some 5) Try.func43 #[.int .i64 a0_0] (impl_isWide.calls a0_0 true _ A2.out) fun nd => ?_) | (go_at_call 44; (with_reducible refine (impl_isVars.calls a0_1 false _ A4.out).mono ?_); rintro e w' ⟨rfl, ⟨nd, rfl⟩⟩))
   go_ret
   exact ⟨Sh.eR, Sh.bw⟩
 ·replace c3 := Bool.eq_false_iff.mpr c3
  subst c3
  rw [Sh.nf] at H
  obtain rfl := Option.some.inj H
  go_enter Try.func24, Try.ntmps24
  go_wp2_with (first | ((with_reducible refine Sh.d 1 ?_); (try (refine gate_guard (by rfl) ?_; dsimp only)); refine Sh.bz w (N := 1) (cs := #[.int .i64 a0_0, .int .i64 a0_1, .slice A0_2 l0_2.length c0_2, .slice A0_3 l0_3.length c0_3]) (t := 33) (h := ?_); clear HB; intro gb363 w29 BK363 GE363 HB; obtain ⟨hcz30_0, hcz30_1, hcz30_2, hcz30_3, hfz30_0, hfz30_1, hfz30_2, hfz30_3⟩ := Sh.b4 BK363.out) | ((with_reducible refine Sh.k 43 ?_); refine Sh.gD (some 5) Try.func43 #[.int .i64 a0_0] (impl_isWide.calls a0_0 false _ A2.out) fun nd => ?_))
  go_ret
  exact ⟨Sh.eR, Sh.bw⟩
def impl_Program_isCommandNo.f (a0_0 : Int) (a0_1 : Int) (l0_2 : List (S73)) (l0_3 : List (S50)) (a1 : Int) : Option (Bool) := if a1 ≥ 0 then (some (decide (a1 < (l0_3.length : Int)))) else (some false)
theorem impl_Program_isCommandNo.calls (a0_0 : Int) (a0_1 : Int) (A0_2 : Option Addr) (c0_2 : Nat) (l0_2 : List (S73)) (A0_3 : Option Addr) (c0_3 : Nat) (l0_3 : List (S50)) (a1 : Int) (r : Bool) (w : World) (hr0_2 : Kd.C k73 w A0_2 l0_2.length l0_2) (hc0_2 : l0_2.length ≤ c0_2) (hr0_3 : Kd.C k50 w A0_3 l0_3.length l0_3) (hc0_3 : l0_3.length ≤ c0_3) (h : impl_Program_isCommandNo.f a0_0 a0_1 l0_2 l0_3 a1 = some r) :
  Calls Try.prog 25 #[.agg #[.int .i64 a0_0, .int .i64 a0_1, .slice A0_2 l0_2.length c0_2, .slice A0_3 l0_3.length c0_3], .int .i64 a1] w fun e w' => e = .returned (.bool r) ∧ Below w.heap.size w w' := by
 have hu33 := Try.underlying33
 have HR0_2 := am_ hr0_2
 have HC0_2 := am_ hc0_2
 clear hr0_2 hc0_2
 have HR0_3 := am_ hr0_3
 have HC0_3 := am_ hc0_3
 clear hr0_3 hc0_3
 have HB := am_ (Below.refl w.heap.size w)
 have H := h
 clear h
 unfold impl_Program_isCommandNo.f at H
 by_cases c3 : a1 ≥ 0
 ·rw [if_pos c3] at H
  have c3b0 : decide (0 ≤ a1) = true := decide_eq_true c3
  clear c3
  obtain rfl := Option.some.inj H
  go_enter Try.func25, Try.ntmps25
  go_wp2_with (first | ((with_reducible refine Sh.d 2 ?_); (try (refine gate_guard (by rfl) ?_; dsimp only)); refine Sh.bz w (N := 2) (cs := #[.int .i64 a0_0, .int .i64 a0_1, .slice A0_2 l0_2.length c0_2, .slice A0_3 l0_3.length c0_3]) (t := 33) (h := ?_); clear HB; intro gb368 w4 BK368 GE368 HB; obtain ⟨hcz5_0, hcz5_1, hcz5_2, hcz5_3, hfz5_0, hfz5_1, hfz5_2, hfz5_3⟩ := Sh.b4 BK368.out))
  go_ret
  exact ⟨Sh.eR, Sh.bw⟩
 ·rw [if_neg c3] at H
  have c3b0 : decide (0 ≤ a1) = false := decide_eq_false c3
  clear c3
  obtain rfl := Option.some.inj H
  go_enter Try.func25, Try.ntmps25
  go_wp2_with (first | ((with_reducible refine Sh.d 2 ?_); (try (refine gate_guard (by rfl) ?_; dsimp only)); refine Sh.bz w (N := 2) (cs := #[.int .i64 a0_0, .int .i64 a0_1, .slice A0_2 l0_2.length c0_2, .slice A0_3 l0_3.length c0_3]) (t := 33) (h := ?_); clear HB; intro gb368 w6 BK368 GE368 HB))
  go_ret
  exact ⟨Sh.eR, Sh.bw⟩
def slices_Sort_int_int.f (l0 : List Int) : Option (List Int) := if l0.length < 4611686018427387904 then some (l0.mergeSort fun x y => decide (x ≤ y)) else none
theorem slices_Sort_int_int.calls (P0_ : Nat → Prop) (u9000_ : Value) (l0 : List Int) (r1 : List Int) (w0 w : World) (hB : Below w0.heap.size w0 w) (ho0 : Kd.R (Kd.int .i64) 3 w w0.heap.size P0_ u9000_ l0) (h : slices_Sort_int_int.f l0 = some r1) :
  Calls Try.prog 27 #[u9000_] w fun e w' => e = .returned (.tuple #[]) ∧ Kd.R (Kd.int .i64) 3 w' w0.heap.size (fun k_ => (P0_ k_ ∨ w.heap.size ≤ k_)) u9000_ r1 ∧ Below w0.heap.size w0 w' ∧ Kept w w' (fun k_ => P0_ k_) := by
 have hl : l0.length < 4611686018427387904 := by
  rcases Nat.lt_or_ge l0.length 4611686018427387904 with h1 | h1
  ·exact h1
  ·rw [slices_Sort_int_int.f, if_neg (by omega)] at h; cases h
 rw [slices_Sort_int_int.f, if_pos hl] at h
 obtain rfl := Option.some.inj h
 have hok := ho0.1
 obtain ⟨hlen, ⟨rfl, hz⟩ | ⟨g, cap, cur, rfl, hbase, hb, h1, h2, h3, h4⟩⟩ := Kd.own_of_R ho0
 ·have hn : l0 = [] := List.length_eq_zero_iff.1 hz
  subst hn
  refine (Try.slices_Sort_int_none none 0 w).mono ?_
  rintro e w' ⟨rfl, rfl⟩
  exact ⟨rfl, by rw [List.mergeSort_nil]; exact Kd.R_nil _ _ _ _ _, hB, Kept.refl _ _⟩
 ·have ht : cur.toList.take l0.length = l0.map (Value.int .i64) := by rw [Nat.mul_one] at h4; exact h4
  have hl2 : (l0.mergeSort fun x y => decide (x ≤ y)).length = l0.length := List.length_mergeSort l0
  refine (Try.slices_Sort_int g 0 cap l0 w (holds_of_blockI hb ht) (blk_lt hb) hl).mono ?_
  rintro e w' ⟨rfl, n, os, rfl⟩
  have hs := ownsRow_sortedI (n := n) (os := os) (ts := l0.mergeSort fun x y => decide (x ≤ y)) hl2 hbase hb h1 h2 h3
  have hg := grownBy_sortedI (w := w) (g := g) (n := n) (os := os) (l0.mergeSort fun x y => decide (x ≤ y)).toArray
  refine ⟨rfl, Kd.R_of_own (h1 := fun _ => rfl) ?_ (fun k hk => .inl (hok k hk)), hB.grown hg hB.size (fun j hj => by cases hj; exact hbase), Kept.of_grown (S := fun k_ => P0_ k_) hg (Kept.refl _ _) (fun k e_ => .inl (hok k e_))⟩
  rw [hl2]
  exact hs
def slices_Compact_int_int.f (l0 : List Int) : Option (List Int) := if l0.length < 4611686018427387904 then some (Go.Lib.compact l0) else none
theorem slices_Compact_int_int.calls (P0_ : Nat → Prop) (u9000_ : Value) (l0 : List Int) (r1 : List Int) (w0 w : World) (hB : Below w0.heap.size w0 w) (ho0 : Kd.R (Kd.int .i64) 3 w w0.heap.size P0_ u9000_ l0) (h : slices_Compact_int_int.f l0 = some r1) :
  Calls Try.prog 28 #[u9000_] w fun e w' => ∃ v0_ : Value, e = .returned (v0_) ∧ Kd.R (Kd.int .i64) 3 w' w0.heap.size (fun k_ => (P0_ k_ ∨ w.heap.size ≤ k_)) v0_ r1 ∧ Below w0.heap.size w0 w' ∧ Kept w w' (fun k_ => P0_ k_) := by
 have hl : l0.length < 4611686018427387904 := by
  rcases Nat.lt_or_ge l0.length 4611686018427387904 with h1 | h1
  ·exact h1
  ·rw [slices_Compact_int_int.f, if_neg (by omega)] at h; cases h
 rw [slices_Compact_int_int.f, if_pos hl] at h
 obtain rfl := Option.some.inj h
 have hok := ho0.1
 have hown := Kd.own_of_R ho0
 obtain ⟨hlen, ⟨rfl, hz⟩ | ⟨g, cap, cur, rfl, hbase, hb, h1, h2, h3, h4⟩⟩ := hown
 ·have hn : l0 = [] := List.length_eq_zero_iff.1 hz
  subst hn
  refine (Try.slices_Compact_int_empty none 0 w).mono ?_
  rintro e w' ⟨rfl, rfl⟩
  exact ⟨_, rfl, Kd.R_nil _ _ _ _ _, hB, Kept.refl _ _⟩
 ·have ht : cur.toList.take l0.length = l0.map (Value.int .i64) := by rw [Nat.mul_one] at h4; exact h4
  have hle := Go.Lib.compact_length_le l0
  have hown := Kd.own_of_R ho0
  refine (Try.slices_Compact_int g 0 cap l0 w (holds_of_blockI hb ht) (by omega) h1).mono ?_
  rintro e w' ⟨rfl, q, rfl⟩
  have hc := Go.Lib.ownsRow_putRow (enc := Value.int .i64) (q := q) (k := (Go.Lib.compact l0).length) (ys := Go.Lib.compact l0 ++ List.replicate (l0.length - (Go.Lib.compact l0).length) 0) hown (by simp; omega) (by omega)
  rw [List.take_left] at hc
  have hg : w.grownBy (Go.Sort.putRow (Value.int .i64) (Go.Sort.ahead w q) g 0 (Go.Lib.compact l0 ++ List.replicate (l0.length - (Go.Lib.compact l0).length) 0).toArray) (some g) := by
   have := grownBy_sortedI (w := w) (g := g) (n := q) (os := #[]) (Go.Lib.compact l0 ++ List.replicate (l0.length - (Go.Lib.compact l0).length) 0).toArray
   rwa [Go.Sort.grow_empty] at this
  exact ⟨_, rfl, Kd.R_of_own (h1 := fun _ => rfl) hc (fun k hk => .inl (hok k hk)), Go.Lib.below_putRow hB hbase, Kept.of_grown (S := fun k_ => P0_ k_) hg (Kept.refl _ _) (fun k e_ => .inl (hok k e_))⟩
def impl_varsIn.l0 : Nat → List Int → List (S73) → Int → Int → Option (List Int)
 | 0, _, _, _, _ => none
 | k + 1, x3, x7, x8, x9 => if x9 < x8 then (if 0 ≤ x9 then (if x9 < (x7.length : Int) then (if ((rd_T73 x7 x9).f0) = 2 then (if x3.length < 17592186044416 then (impl_varsIn.l0 k (x3 ++ [wrap64 ((rd_T73 x7 x9).f1)]) x7 x8 (wrap64 (x9 + 1))) else (none)) else (impl_varsIn.l0 k x3 x7 x8 (wrap64 (x9 + 1)))) else (none)) else (none)) else ((slices_Sort_int_int.f x3).bind fun t499 => ((slices_Compact_int_int.f t499).bind fun t500 => (some t500)))
def impl_varsIn.f (k : Nat) (l0 : List (S73)) : Option (List Int) := impl_varsIn.l0 k (([] : List Int)) l0 (l0.length : Int) 0
theorem impl_varsIn.mono_l : ∀ k, (∀ y0 y1 y2 y3, LeO (impl_varsIn.l0 k y0 y1 y2 y3) (impl_varsIn.l0 (k + 1) y0 y1 y2 y3))
 | 0 => fun _ _ _ _ r h => by simp [impl_varsIn.l0] at h
 | k + 1 => by
  have ih0 := impl_varsIn.mono_l k
  ·intro y0 y1 y2 y3
   unfold impl_varsIn.l0
   repeat' with_reducible first | apply ih0 | exact LeO.refl _ | exact LeO.none _ | apply LeO.ite | refine LeO.bind ?_ fun _ => ?_
theorem impl_varsIn.mono : ∀ a0 k, LeO (impl_varsIn.f k a0) (impl_varsIn.f (k + 1) a0) := by
 intro a0 k
 have ih0 := impl_varsIn.mono_l k
 unfold impl_varsIn.f
 repeat' with_reducible first | apply ih0 | exact LeO.refl _ | exact LeO.none _ | apply LeO.ite | refine LeO.bind ?_ fun _ => ?_
theorem impl_varsIn.calls (k : Nat) (A0 : Option Addr) (c0 : Nat) (l0 : List (S73)) (r : List Int) (w : World) (hr0 : Kd.C k73 w A0 l0.length l0) (hc0 : l0.length ≤ c0) (h : impl_varsIn.f k l0 = some r) :
  Calls Try.prog 26 #[.slice A0 l0.length c0] w fun e w' => ∃ v0_ : Value, e = .returned (v0_) ∧ Kd.R (Kd.int .i64) 3 w' w.heap.size (fun _ => True) v0_ r ∧ Below w.heap.size w w' := by
 have hu73 := Try.underlying73
 have HR0 := am_ hr0
 have HC0 := am_ hc0
 clear hr0 hc0
 have HB := am_ (Below.refl w.heap.size w)
 have H := h
 clear h
 unfold impl_varsIn.f at H
 obtain ⟨y491, hy491⟩ : ∃ y_ : List Int, y_ = (([] : List Int)) := ⟨_, rfl⟩
 replace H : (impl_varsIn.l0 k y491 l0 (l0.length : Int) 0) = some r := by first | (rw [hy491]; with_reducible exact H) | (have H2_ := (Option.bind_some _ _).symm.trans H; rw [hy491]; with_reducible exact H2_) | (have H2_ := (Option.bind_some _ _).symm.trans H; with_reducible exact H2_) | with_reducible exact H | (rw [hy491]; exact H) | exact H
 have Ny491 := am_ hy491
 clear hy491
 have H' := am_ H
 clear H
 go_enter Try.func26, Try.ntmps26
 go_wp2_with (first | ((with_reducible refine Sh.d 6 ?_); refine Kd.R_lit (Kd.int .i64) _ 3 ?hg (N := 6) ?hd (xs := ([] : List Int)) (inner := []) (ok := fun _ => True) (okp := fun _ => True) ?hr ?hp (fun _ hk => hk) trivial (Below.refl _ _) (Nat.le_refl _) (by simp) ?_; (case hd => rfl); (case hg => rfl); (case hr => first | (go_simp; done) | (go_simp; rfl)); (case hp => exact (Reps.none _ _)); intro v492 w2 ho3 hb hg_ hnew_; clear hg_ hnew_; (first | rw [← Ny491.out] at ho3 | (simp only [Int.reduceToNat] at ho3; rw [← Ny491.out] at ho3)); have HO493 := am_ (Kd.R_lower ho3 (below_size Sh.bw)); replace HB := Sh.hb hb; clear hb ho3))
 go_loopg [3, 9] k (fun kq v3 v9 w' => ∃ (x3_1 : List Int) (x9_1 : Int), v9 = .int .i64 x9_1 ∧ Aside0 (impl_varsIn.l0 kq x3_1 l0 (l0.length : Int) x9_1 = some r) ∧ Aside0 (kq ≤ k) ∧ Aside0 (Kd.R (Kd.int .i64) 3 w' w.heap.size (fun _ => True) v3 x3_1) ∧ Aside0 (Below w.heap.size w w'))
 case atStart => exact ⟨(y491), (0), (Sh.es), H', ⟨Nat.le_refl _⟩, ⟨Sh.rl HO493.out⟩, ⟨Sh.bw⟩⟩
 case round =>
  clear H'
  obtain ⟨x3_1, x9_1, rfl, HA, HK1, HO_3, HB⟩ := hrel
  cases gk with
  | zero => exact absurd HA.out (by simp [impl_varsIn.l0])
  | succ k1 =>
   have H := HA.out
   clear HA
   simp only [impl_varsIn.l0] at H
   by_cases c4 : x9_1 < (l0.length : Int)
   ·rw [if_pos c4] at H
    have c4b0 := decide_eq_true c4
    clear c4
    by_cases c5 : 0 ≤ x9_1
    ·rw [if_pos c5] at H
     have c5b0 := decide_eq_true c5
     clear c5
     by_cases c6 : x9_1 < (l0.length : Int)
     ·rw [if_pos c6] at H
      have c6b0 := decide_eq_true c6
      clear c6
      by_cases c7 : ((rd_T73 l0 x9_1).f0) = 2
      ·rw [if_pos c7] at H
       have c7b0 : (((rd_T73 l0 x9_1).f0) == 2) = true := beq_iff_eq.mpr c7
       have c7b1 : (((rd_T73 l0 x9_1).f0) != 2) = false := bne_eq_false_iff_eq.mpr c7
       clear c7
       by_cases c8 : x3_1.length < 17592186044416
       ·rw [if_pos c8] at H
        have LMc8 := am_ c8
        clear c8
        obtain ⟨y496, hy496⟩ : ∃ y_ : List Int, y_ = (x3_1 ++ [wrap64 ((rd_T73 l0 x9_1).f1)]) := ⟨_, rfl⟩
        replace H : (impl_varsIn.l0 k1 y496 l0 (l0.length : Int) (wrap64 (x9_1 + 1))) = some r := by first | (rw [hy496]; with_reducible exact H) | (have H2_ := (Option.bind_some _ _).symm.trans H; rw [hy496]; with_reducible exact H2_) | (have H2_ := (Option.bind_some _ _).symm.trans H; with_reducible exact H2_) | with_reducible exact H | (rw [hy496]; exact H) | exact H
        have Ny496 := am_ hy496
        clear hy496
        have H' := am_ H
        clear H
        have p494 : 0 ≤ (x9_1 : Int) := Sh.od
        have q494 : x9_1 < (l0.length : Int) := Sh.od
        obtain ⟨ad494, e494, hx494_0, hx494_1⟩ := at_T73 HR0.out x9_1 p494 q494
        cases e494
        try replace hx494_0 := Sh.cw hx494_0
        try replace hx494_1 := Sh.cw hx494_1
        replace p494 := eq_true p494
        replace q494 := eq_true q494
        go_wp2_with (first | ((with_reducible refine Sh.d 5 ?_); refine Sh.bx (N := 5) (cs := #[.int .i64 0, .int .u64 0]) (t := 73) (h := ?_); intro gb495 hg w9 hbox hb; replace HO_3 := am_ (Kd.R_below (Sh.rl HO_3.out) hb); have BK495 := am_ hbox; have GE495 := Sh.ag w hg; replace HB := Sh.hb hb; clear hb hbox hg; obtain ⟨hcz10_0, hcz10_1, hfz10_0, hfz10_1⟩ := Sh.b2 BK495.out) | ((with_reducible refine gate_builtin (b := .append) (xs := #[.tmp 16, .tmp 20]) rfl ?_); at_builtin; refine Kd.R_append (Kd.int .i64) (w0 := w) w.heap.size rfl (.tmp 16) (.tmp 20) 27 3 (.int .i64 0) 8 rfl Try.underlying27 info3 rfl (by decide) (by omega) u3 x3_1 (wrap64 ((rd_T73 l0 x9_1).f1)) [.int .i64 (wrap64 ((rd_T73 l0 x9_1).f1))] (fun _ => True) (fun _ => False) rfl (by first | (go_simp; done) | (go_simp; rfl)) ?aP (fun _ hk => hk.elim) ?aF ?aO ?aB ?aS ?aL ?_; (case aP => exact rfl); (case aB => exact Sh.bw); (case aF => exact (fun _ _ => trivial)); (case aO => exact (Sh.rl (Kd.R_mono (Kd.R_far (p := ⟨gb495, 1, none⟩) (Kd.R_far (p := ⟨gb495, 0, none⟩) (Kd.R_types HO_3.out BK495.out (by decide)) (fun _ hk => hk.2) (.int .i64 ((rd_T73 l0 x9_1).f0))) (fun _ hk => hk.2) (.int .u64 ((rd_T73 l0 x9_1).f1))) (fun _ hk => trivial)))); (case aS => exact (below_size Sh.bw)); (case aL => have := LMc8.out; omega); intro v497 w11 ho hb hg hat; rw [← Ny496.out] at ho; have n0_ := am_ (blk_grown (g := gb495) (o := .cells #[.int .i64 ((rd_T73 l0 x9_1).f0), .int .u64 ((rd_T73 l0 x9_1).f1)] 73 (0, 0)) (by refine Sh.pl ?_; refine blk_put (cs := #[.int .i64 ((rd_T73 l0 x9_1).f0), .int .u64 0]) ?_ 1 _ rfl; refine Sh.pl ?_; refine blk_put (cs := #[.int .i64 0, .int .u64 0]) ?_ 0 _ rfl; refine Sh.pl ?_; exact BK495.out) hg (Kd.R_ne HO_3.out BK495.out (by decide))); have n1_ := am_ hb; have n2_ := am_ ho; clear BK495; clear HB; clear HO_3; have BK495 := n0_; have HB := n1_; have HO498 := n2_; clear n0_ n1_ n2_; clear ho hb hg hat))
        go_roundg k1
        case measure => have := HK1.out; omega
        case rel => exact ⟨(y496), (wrap64 (x9_1 + 1)), (Sh.es), H', ⟨by have := HK1.out; omega⟩, ⟨Sh.rl HO498.out⟩, ⟨Sh.bw⟩⟩
       ·rw [if_neg c8] at H
        exact absurd H (by simp)
      ·rw [if_neg c7] at H
       have c7b0 : (((rd_T73 l0 x9_1).f0) == 2) = false := beq_eq_false_iff_ne.mpr c7
       have c7b1 : (((rd_T73 l0 x9_1).f0) != 2) = true := bne_iff_ne.mpr c7
       have H' := am_ H
       clear H
       have p494 : 0 ≤ (x9_1 : Int) := Sh.od
       have q494 : x9_1 < (l0.length : Int) := Sh.od
       obtain ⟨ad494, e494, hx494_0, hx494_1⟩ := at_T73 HR0.out x9_1 p494 q494
       cases e494
       try replace hx494_0 := Sh.cw hx494_0
       try replace hx494_1 := Sh.cw hx494_1
       replace p494 := eq_true p494
       replace q494 := eq_true q494
       go_wp2_with (first | ((with_reducible refine Sh.d 5 ?_); refine Sh.bx (N := 5) (cs := #[.int .i64 0, .int .u64 0]) (t := 73) (h := ?_); intro gb495 hg w12 hbox hb; replace HO_3 := am_ (Kd.R_below (Sh.rl HO_3.out) hb); have BK495 := am_ hbox; have GE495 := Sh.ag w hg; replace HB := Sh.hb hb; clear hb hbox hg; obtain ⟨hcz13_0, hcz13_1, hfz13_0, hfz13_1⟩ := Sh.b2 BK495.out))
       go_roundg k1
       case measure => have := HK1.out; omega
       case rel => exact ⟨(x3_1), (wrap64 (x9_1 + 1)), (Sh.es), H', ⟨by have := HK1.out; omega⟩, ⟨Sh.rl (Kd.R_mono (Kd.R_far (p := ⟨gb495, 1, none⟩) (Kd.R_far (p := ⟨gb495, 0, none⟩) (Kd.R_types HO_3.out BK495.out (by decide)) (fun _ hk => hk.2) (.int .i64 ((rd_T73 l0 x9_1).f0))) (fun _ hk => hk.2) (.int .u64 ((rd_T73 l0 x9_1).f1))) (fun _ hk => trivial))⟩, ⟨Sh.bw⟩⟩
     ·rw [if_neg c6] at H
      exact absurd H (by simp)
    ·rw [if_neg c5] at H
     exact absurd H (by simp)
   ·rw [if_neg c4] at H
    have c4b0 := decide_eq_false c4
    clear c4
    obtain ⟨t499, A14, H⟩ := Sh.ba H
    obtain ⟨t500, A15, H⟩ := Sh.ba H
    obtain rfl := Option.some.inj H
    obtain ⟨Ao16, co16, eo16⟩ := Kd.R_slice HO_3.out
    subst eo16
    go_wp2_with (first | ((with_reducible refine Sh.k 27 ?_); refine Sh.gL (some 24) Try.func27 #[.slice Ao16 x3_1.length co16] (h := ?_); (with_reducible refine (slices_Sort_int_int.calls (fun k_ => some k_ = (.slice Ao16 x3_1.length co16 : Value).ownBlock) (.slice Ao16 x3_1.length co16) x3_1 t499 w _ ?side1 ?side2 A14.out).mono ?_); (case side1 => repeat (first | (with_reducible first | exact HB.out | apply below_alloc | apply pw_below_drewN | apply below_drew1) | exact HB.out)); (case side2 => exact Kd.R_tight rfl HO_3.out); rintro e w17 ⟨rfl, hy0, hb, hkp⟩; refine ⟨_, rfl, ?_⟩; replace HO_3 := am_ (Kd.R_reok rfl hy0 (fun k_ e_ => HO_3.out.1 k_ e_)); replace HB := am_ hb; (try clear hb); (try clear hkp); (try clear hy0)) | ((with_reducible refine Sh.k 28 ?_); refine Sh.gL (some 26) Try.func28 #[.slice Ao16 x3_1.length co16] (h := ?_); (with_reducible refine (slices_Compact_int_int.calls (fun k_ => some k_ = (.slice Ao16 x3_1.length co16 : Value).ownBlock) (.slice Ao16 x3_1.length co16) t499 t500 w _ ?side1 ?side2 A15.out).mono ?_); (case side1 => repeat (first | (with_reducible first | exact HB.out | apply below_alloc | apply pw_below_drewN | apply below_drew1) | exact HB.out)); (case side2 => exact Kd.R_tight rfl HO_3.out); rintro e w18 ⟨v501, rfl, ho0, hb, hkp⟩; refine ⟨_, rfl, ?_⟩; have n0_ := am_ (Kd.R_mono (ok' := fun k_ => True) ho0 (fun k_ hk_ => trivial)); have n1_ := am_ hb; clear HB; clear HO_3; have HO502 := n0_; have HB := n1_; clear n0_ n1_; (try clear hb); (try clear hkp); (try clear ho0)))
    go_ret
    exact ⟨_, Sh.eR, Sh.rl HO502.out, Sh.bw⟩
mutual
def impl_TouchedBy.j0 : Nat → Int → Bool → Int → Int → List (S73) → List (S50) → Option (List Int × List Int × Bool)
 | 0, _, _, _, _, _, _ => none
 | k + 1, x1, x20, x504000, x504001, x504002, x504003 => if x20 = true then (some (([] : List Int), ([] : List Int), false)) else (if 0 ≤ x1 then (if x1 < (x504003.length : Int) then ((impl_varsIn.f k ((rd_T50 x504003 x1).f0)).bind fun t508 => (impl_TouchedBy.l0 k t508 (([] : List Int)) ((rd_T50 x504003 x1).f1) (((rd_T50 x504003 x1).f1).length : Int) 0)) else (none)) else (none))
def impl_TouchedBy.l0 : Nat → List Int → List Int → List (S52) → Int → Int → Option (List Int × List Int × Bool)
 | 0, _, _, _, _, _ => none
 | k + 1, x8, x9, x31, x32, x33 => if x33 < x32 then (if 0 ≤ x33 then (if x33 < (x31.length : Int) then ((impl_varsIn.f k ((rd_T52 x31 x33).f1)).bind fun t516 => (if x8.length + t516.length < 17592186044416 then ((some (([(rd_T52 x31 x33).f0] : List Int) : List Int)).bind fun y522 => (if x9.length + y522.length < 17592186044416 then (impl_TouchedBy.l0 k (x8 ++ t516) (x9 ++ y522) x31 x32 (wrap64 (x33 + 1))) else (none))) else (none))) else (none)) else (none)) else ((slices_Sort_int_int.f x8).bind fun t528 => ((slices_Compact_int_int.f t528).bind fun t529 => (some (t529, x9, true))))
end
def impl_TouchedBy.f (k : Nat) (a0_0 : Int) (a0_1 : Int) (l0_2 : List (S73)) (l0_3 : List (S50)) (a1 : Int) : Option (List Int × List Int × Bool) := (impl_GoodProgram.f k a0_0 a0_1 l0_2 l0_3).bind fun t504 => (if t504 = true then ((impl_Program_isCommandNo.f a0_0 a0_1 l0_2 l0_3 a1).bind fun t505 => (impl_TouchedBy.j0 k a1 (!t505) a0_0 a0_1 l0_2 l0_3)) else (impl_TouchedBy.j0 k a1 true a0_0 a0_1 l0_2 l0_3))
theorem impl_TouchedBy.mono_l : ∀ k, (∀ y0 y1 y2 y3 y4 y5, LeO (impl_TouchedBy.j0 k y0 y1 y2 y3 y4 y5) (impl_TouchedBy.j0 (k + 1) y0 y1 y2 y3 y4 y5)) ∧ (∀ y0 y1 y2 y3 y4, LeO (impl_TouchedBy.l0 k y0 y1 y2 y3 y4) (impl_TouchedBy.l0 (k + 1) y0 y1 y2 y3 y4))
 | 0 => ⟨fun _ _ _ _ _ _ r h => by simp [impl_TouchedBy.j0] at h, fun _ _ _ _ _ r h => by simp [impl_TouchedBy.l0] at h⟩
 | k + 1 => by
  obtain ⟨ih0, ih1⟩ := impl_TouchedBy.mono_l k
  and_intros <;> intros
  all_goals (first | unfold impl_TouchedBy.j0 | unfold impl_TouchedBy.l0)
  all_goals repeat' with_reducible first | apply ih0 | apply ih1 | apply impl_GoodProgram.mono | apply impl_varsIn.mono | exact LeO.refl _ | exact LeO.none _ | apply LeO.ite | refine LeO.bind ?_ fun _ => ?_
theorem impl_TouchedBy.mono : ∀ a0 a1 a2 a3 a4 k, LeO (impl_TouchedBy.f k a0 a1 a2 a3 a4) (impl_TouchedBy.f (k + 1) a0 a1 a2 a3 a4) := by
 intro a0 a1 a2 a3 a4 k
 obtain ⟨ih0, ih1⟩ := impl_TouchedBy.mono_l k
 unfold impl_TouchedBy.f
 repeat' with_reducible first | apply ih0 | apply ih1 | apply impl_GoodProgram.mono | apply impl_varsIn.mono | exact LeO.refl _ | exact LeO.none _ | apply LeO.ite | refine LeO.bind ?_ fun _ => ?_
def impl_TouchedBy.T8 : Bool × List (List Nat × List Nat) := (true, [([], []), ([], []), ([1], [1]), ([2], [2]), ([0, 3, 3], [0, 3]), ([], []), ([], []), ([6], [6]), ([7], [7]), ([5, 8, 4], [5, 8]), ([4, 9, 0, 1, 2, 3, 4], [0, 4]), ([9, 10, 0, 1, 2, 3, 4, 5, 6, 7, 8, 9, 10], [5, 9])])
def impl_TouchedBy.B8 : List Nat := [0, 0, 2, 6, 15, 0, 0, 64, 192, 511, 1023, 2047]
theorem impl_TouchedBy.tab8 : rtab .any (opsOf Try.f8 8) = impl_TouchedBy.T8 := by kernel_rfl
theorem impl_TouchedBy.bits8 : waitsOk impl_TouchedBy.T8.2 impl_TouchedBy.B8 = true := by kernel_rfl
theorem impl_TouchedBy.calls (k : Nat) (a0_0 : Int) (a0_1 : Int) (A0_2 : Option Addr) (c0_2 : Nat) (l0_2 : List (S73)) (A0_3 : Option Addr) (c0_3 : Nat) (l0_3 : List (S50)) (a1 : Int) (r1 : List Int) (r2 : List Int) (r3 : Bool) (w : World) (hr0_2 : Kd.C k73 w A0_2 l0_2.length l0_2) (hc0_2 : l0_2.length ≤ c0_2) (hr0_3 : Kd.C k50 w A0_3 l0_3.length l0_3) (hc0_3 : l0_3.length ≤ c0_3) (h : impl_TouchedBy.f k a0_0 a0_1 l0_2 l0_3 a1 = some (r1, r2, r3)) :
  Calls Try.prog 8 #[.agg #[.int .i64 a0_0, .int .i64 a0_1, .slice A0_2 l0_2.length c0_2, .slice A0_3 l0_3.length c0_3], .int .i64 a1] w fun e w' => ∃ v0_ v1_ : Value, e = .returned (.tuple #[v0_, v1_, .bool r3]) ∧ Kd.R (Kd.int .i64) 3 w' w.heap.size (fun k_ => some k_ ≠ (v1_ : Value).ownBlock) v0_ r1 ∧ Kd.R (Kd.int .i64) 3 w' w.heap.size (fun k_ => some k_ ≠ (v0_ : Value).ownBlock) v1_ r2 ∧ Below w.heap.size w w' := by
 have hu33 := Try.underlying33
 have hu50 := Try.underlying50
 have hu52 := Try.underlying52
 have HR0_2 := am_ hr0_2
 have HC0_2 := am_ hc0_2
 clear hr0_2 hc0_2
 have HR0_3 := am_ hr0_3
 have HC0_3 := am_ hc0_3
 clear hr0_3 hc0_3
 have HB := am_ (Below.refl w.heap.size w)
 have H := h
 clear h
 unfold impl_TouchedBy.f at H
 have HC3 := am_ H
 clear H
 go_enter Try.func8, Try.ntmps8
 go_upto_region 1 with (first | ((with_reducible refine Sh.d 2 ?_); refine Sh.bz w (N := 2) (cs := #[.int .i64 a0_0, .int .i64 a0_1, .slice A0_2 l0_2.length c0_2, .slice A0_3 l0_3.length c0_3]) (t := 33) (h := ?_); clear HB; intro gb503 w4 BK503 GE503 HB))
 (try simp only [Act.put, List.setIfInBounds_toArray, List.set_cons_zero, List.set_cons_succ])
 go_cut [20] (fun v20 wc => ∃ (kq : Nat) (x20_2 : Bool), v20 = .bool x20_2 ∧ Aside0 (impl_TouchedBy.j0 kq a1 x20_2 a0_0 a0_1 l0_2 l0_3 = some (r1, r2, r3)) ∧ Aside0 (kq ≤ k) ∧ Aside0 (wc.heap[gb503]? = some (.cells #[.int .i64 a0_0, .int .i64 a0_1, (.slice A0_2 l0_2.length c0_2), (.slice A0_3 l0_3.length c0_3)] 33 (0, 0))) ∧ Aside0 (Below w.heap.size w wc))
 case first =>
  have H := HC3.out
  clear HC3
  obtain ⟨t504, A5, H⟩ := Sh.ba H
  by_cases c6 : t504 = true
  ·subst c6
   rw [if_pos rfl] at H
   obtain ⟨t505, A7, H⟩ := Sh.ba H
   have H' := am_ H
   clear H
   have hcz8_0 := Sh.bc BK503.out 0
   have hcz8_1 := Sh.bc BK503.out 1
   have hcz8_2 := Sh.bc BK503.out 2
   have hcz8_3 := Sh.bc BK503.out 3
   have hfz8_0 := blk_frozen BK503.out 0
   have hfz8_1 := blk_frozen BK503.out 1
   have hfz8_2 := blk_frozen BK503.out 2
   have hfz8_3 := blk_frozen BK503.out 3
   go_wp2_with (first | ((with_reducible refine Sh.k 24 ?_); refine Sh.gB (some 13) Try.func24 #[.agg #[.int .i64 a0_0, .int .i64 a0_1, .slice A0_2 l0_2.length c0_2, .slice A0_3 l0_3.length c0_3]] (impl_GoodProgram.calls k a0_0 a0_1 _ _ l0_2 _ _ l0_3 true _ (Sh.cB HR0_2.out) HC0_2.out (Sh.cB HR0_3.out) HC0_3.out A5.out) fun w9 hb => ?_; replace BK503 := Sh.ab BK503 hb; replace HB := Sh.hb hb; (try clear hb); (try clear hb2); (try clear hk); (try clear hi); obtain ⟨hcz10_0, hcz10_1, hcz10_2, hcz10_3, hfz10_0, hfz10_1, hfz10_2, hfz10_3⟩ := Sh.b4 BK503.out) | (go_at_call 25; (with_reducible refine (impl_Program_isCommandNo.calls a0_0 a0_1 _ _ l0_2 _ _ l0_3 a1 t505 _ (Sh.cB HR0_2.out) HC0_2.out (Sh.cB HR0_3.out) HC0_3.out A7.out).mono ?_); rintro e w11 ⟨rfl, hb⟩; replace BK503 := Sh.ab BK503 hb; replace HB := Sh.hb hb; (try clear hb); (try clear hb2); (try clear hk); (try clear hi)))
   go_meet
   case rel => exact ⟨_, (!t505), (Sh.es), H', ⟨Sh.om⟩, ⟨by refine Sh.pl ?_; exact BK503.out⟩, ⟨Sh.bw⟩⟩
  ·replace c6 := Bool.eq_false_iff.mpr c6
   subst c6
   rw [Sh.nf] at H
   have H' := am_ H
   clear H
   have hcz12_0 := Sh.bc BK503.out 0
   have hcz12_1 := Sh.bc BK503.out 1
   have hcz12_2 := Sh.bc BK503.out 2
   have hcz12_3 := Sh.bc BK503.out 3
   have hfz12_0 := blk_frozen BK503.out 0
   have hfz12_1 := blk_frozen BK503.out 1
   have hfz12_2 := blk_frozen BK503.out 2
   have hfz12_3 := blk_frozen BK503.out 3
   go_wp2_with (first | ((with_reducible refine Sh.k 24 ?_); refine Sh.gB (some 13) Try.func24 #[.agg #[.int .i64 a0_0, .int .i64 a0_1, .slice A0_2 l0_2.length c0_2, .slice A0_3 l0_3.length c0_3]] (impl_GoodProgram.calls k a0_0 a0_1 _ _ l0_2 _ _ l0_3 false _ (Sh.cB HR0_2.out) HC0_2.out (Sh.cB HR0_3.out) HC0_3.out A5.out) fun w13 hb => ?_; replace BK503 := Sh.ab BK503 hb; replace HB := Sh.hb hb; (try clear hb); (try clear hb2); (try clear hk); (try clear hi)))
   go_meet
   case rel => exact ⟨_, (true), (Sh.es), H', ⟨Sh.om⟩, ⟨by refine Sh.pl ?_; exact BK503.out⟩, ⟨Sh.bw⟩⟩
 case rest =>
  clear HC3
  try clear hcz10_0
  try clear hcz10_1
  try clear hcz10_2
  try clear hcz10_3
  try clear hcz12_0
  try clear hcz12_1
  try clear hcz12_2
  try clear hcz12_3
  try clear hcz8_0
  try clear hcz8_1
  try clear hcz8_2
  try clear hcz8_3
  try clear hfz10_0
  try clear hfz10_1
  try clear hfz10_2
  try clear hfz10_3
  try clear hfz12_0
  try clear hfz12_1
  try clear hfz12_2
  try clear hfz12_3
  try clear hfz8_0
  try clear hfz8_1
  try clear hfz8_2
  try clear hfz8_3
  obtain ⟨kq, x20_2, rfl, HA, HJ2, BK503, HB⟩ := hcut
  cases kq with
  | zero => exact absurd HA.out (by simp [impl_TouchedBy.j0])
  | succ kj2 =>
   have H := HA.out
   clear HA
   simp only [impl_TouchedBy.j0] at H
   by_cases c14 : x20_2 = true
   ·subst c14
    rw [if_pos rfl] at H
    simp only [Option.some.injEq, Prod.mk.injEq] at H
    obtain ⟨rfl, rfl, rfl⟩ := H
    go_wp2
    go_ret3
    exact ⟨_, _, by first | rfl | (simp [errW_none, errW_some] <;> rfl) | (simp [*, errW_none, errW_some] <;> rfl), by first | exact Kd.R_nil _ _ _ _ _ | exact Kd.N_nil _ _ _ _ _ | exact Kd.V_nil _ _ _ _ _ | exact Kd.Q_nil _ _ _ _ _ | exact Kd.S_nil _ _ _ _ _, by first | exact Kd.R_nil _ _ _ _ _ | exact Kd.N_nil _ _ _ _ _ | exact Kd.V_nil _ _ _ _ _ | exact Kd.Q_nil _ _ _ _ _ | exact Kd.S_nil _ _ _ _ _, Sh.bw⟩
   ·replace c14 := Bool.eq_false_iff.mpr c14
    subst c14
    rw [Sh.nf] at H
    by_cases c15 : 0 ≤ a1
    ·rw [if_pos c15] at H
     have c15b0 := decide_eq_true c15
     clear c15
     by_cases c16 : a1 < (l0_3.length : Int)
     ·rw [if_pos c16] at H
      have c16b0 := decide_eq_true c16
      clear c16
      obtain ⟨t508, A17, H⟩ := Sh.ba H
      obtain ⟨y511, hy511⟩ : ∃ y_ : List Int, y_ = (([] : List Int)) := ⟨_, rfl⟩
      replace H : (impl_TouchedBy.l0 kj2 t508 y511 ((rd_T50 l0_3 a1).f1) (((rd_T50 l0_3 a1).f1).length : Int) 0) = some (r1, r2, r3) := by first | (rw [hy511]; with_reducible exact H) | (have H2_ := (Option.bind_some _ _).symm.trans H; rw [hy511]; with_reducible exact H2_) | (have H2_ := (Option.bind_some _ _).symm.trans H; with_reducible exact H2_) | with_reducible exact H | (rw [hy511]; exact H) | exact H
      have Ny511 := am_ hy511
      clear hy511
      have H' := am_ H
      clear H
      have hcz18_0 := Sh.bc BK503.out 0
      have hcz18_1 := Sh.bc BK503.out 1
      have hcz18_2 := Sh.bc BK503.out 2
      have hcz18_3 := Sh.bc BK503.out 3
      have hfz18_0 := blk_frozen BK503.out 0
      have hfz18_1 := blk_frozen BK503.out 1
      have hfz18_2 := blk_frozen BK503.out 2
      have hfz18_3 := blk_frozen BK503.out 3
      have p506 : 0 ≤ (a1 : Int) := Sh.od
      have q506 : a1 < (l0_3.length : Int) := Sh.od
      obtain ⟨ad506, A506_0, c506_0, A506_1, c506_1, e506, hx506_0, hx506_1, hl506_0, hi506_0, hl506_1, hi506_1⟩ := at_T50 HR0_3.out a1 p506 q506
      cases e506
      try replace hx506_0 := Sh.cw hx506_0
      try replace hx506_1 := Sh.cw hx506_1
      have HR506_0 := am_ hi506_0
      have HC506_0 := am_ hl506_0
      clear hi506_0 hl506_0
      have HR506_1 := am_ hi506_1
      have HC506_1 := am_ hl506_1
      clear hi506_1 hl506_1
      replace p506 := eq_true p506
      replace q506 := eq_true q506
      go_wp2_with (first | ((with_reducible refine Sh.d 7 ?_); refine Sh.bx (N := 7) (cs := #[.slice none 0 0, .slice none 0 0]) (t := 50) (h := ?_); intro gb507 hg w19 hbox hb; have BK507 := am_ hbox; have GE507 := Sh.ag w hg; replace HB := Sh.hb hb; have NB503_507 := am_ (Sh.nl hg BK503.out); have NB507_503 := am_ (Sh.ng hg BK503.out); replace BK503 := Sh.ab BK503 hb; clear hb hbox hg; have hnb20 := NB507_503.out; have hnc20 := NB503_507.out; obtain ⟨hcz21_0, hcz21_1, hfz21_0, hfz21_1⟩ := Sh.b2 BK507.out) | ((with_reducible refine Sh.k 26 ?_); refine Sh.gL (some 28) Try.func26 #[.slice A506_0 ((rd_T50 l0_3 a1).f0).length c506_0] (h := ?_); (with_reducible refine (impl_varsIn.calls kj2 _ _ ((rd_T50 l0_3 a1).f0) t508 _ (Sh.cB HR506_0.out) HC506_0.out A17.out).mono ?_); rintro e w22 ⟨v509, rfl, ho0, hb⟩; refine ⟨_, rfl, ?_⟩; have HO510 := am_ (Kd.R_lower ho0 (below_size Sh.bw)); replace BK503 := am_ (blk_below (g := gb503) (o := .cells #[.int .i64 a0_0, .int .i64 a0_1, .slice A0_2 l0_2.length c0_2, .slice (some ad506) l0_3.length c0_3] 33 (0, 0)) (by refine Sh.pl ?_; refine blk_far ?_ NB503_507.out _; refine Sh.pl ?_; refine blk_far ?_ NB503_507.out _; refine Sh.pl ?_; exact BK503.out) hb); replace BK507 := am_ (blk_below (g := gb507) (o := .cells #[.slice A506_0 ((rd_T50 l0_3 a1).f0).length c506_0, .slice A506_1 ((rd_T50 l0_3 a1).f1).length c506_1] 50 (0, 0)) (by refine Sh.pl ?_; refine blk_put (cs := #[.slice A506_0 ((rd_T50 l0_3 a1).f0).length c506_0, .slice none 0 0]) ?_ 1 _ rfl; refine Sh.pl ?_; refine blk_put (cs := #[.slice none 0 0, .slice none 0 0]) ?_ 0 _ rfl; refine Sh.pl ?_; exact BK507.out) hb); replace HB := Sh.hb hb; (try clear hb); (try clear hb2); (try clear hk); (try clear hi); (try clear ho0)) | ((with_reducible refine Sh.d 29 ?_); refine Kd.R_lit (Kd.int .i64) _ 3 ?hg (N := 29) ?hd (xs := ([] : List Int)) (inner := []) (ok := fun _ => True) (okp := fun _ => True) ?hr ?hp (fun _ hk => hk) trivial (Below.refl _ _) (Nat.le_refl _) (by simp) ?_; (case hd => rfl); (case hg => rfl); (case hr => first | (go_simp; done) | (go_simp; rfl)); (case hp => exact (Reps.none _ _)); intro v512 w23 ho24 hb hg_ hnew_; clear hg_ hnew_; (first | rw [← Ny511.out] at ho24 | (simp only [Int.reduceToNat] at ho24; rw [← Ny511.out] at ho24)); have HO513 := am_ (Kd.R_lower (Kd.R_new' ho24 (Kd.R_lt (Sh.rl HO510.out))) (below_size Sh.bw)); replace HO510 := am_ (Kd.R_elder' (Sh.rl HO510.out) (Kd.R_base ho24) hb); replace BK503 := Sh.ab BK503 hb; replace BK507 := Sh.ab BK507 hb; replace HB := Sh.hb hb; clear hb ho24; obtain ⟨hcz25_0, hcz25_1, hfz25_0, hfz25_1⟩ := Sh.b2 BK507.out))
      go_loopg [8, 9, 33] kj2 (fun kq v8 v9 v33 w' => ∃ (x8_2 : List Int) (x9_2 : List Int) (x33_2 : Int), v33 = .int .i64 x33_2 ∧ Aside0 (impl_TouchedBy.l0 kq x8_2 x9_2 ((rd_T50 l0_3 a1).f1) (((rd_T50 l0_3 a1).f1).length : Int) x33_2 = some (r1, r2, r3)) ∧ Aside0 (kq ≤ kj2) ∧ Aside0 (Kd.R (Kd.int .i64) 3 w' w.heap.size (fun k_ => some k_ ≠ (v9 : Value).ownBlock) v8 x8_2) ∧ Aside0 (Kd.R (Kd.int .i64) 3 w' w.heap.size (fun k_ => some k_ ≠ (v8 : Value).ownBlock) v9 x9_2) ∧ Aside0 (w'.heap[gb503]? = some (.cells #[.int .i64 a0_0, .int .i64 a0_1, (.slice A0_2 l0_2.length c0_2), (.slice (some ad506) l0_3.length c0_3)] 33 (0, 0))) ∧ Aside0 (w'.heap[gb507]? = some (.cells #[(.slice A506_0 ((rd_T50 l0_3 a1).f0).length c506_0), (.slice A506_1 ((rd_T50 l0_3 a1).f1).length c506_1)] 50 (0, 0))) ∧ Aside0 (Below w.heap.size w w'))
      case atStart => exact ⟨(t508), (y511), (0), (Sh.es), H', ⟨Nat.le_refl _⟩, ⟨Sh.rl (Kd.R_mono HO510.out (fun _ hk => hk.2))⟩, ⟨Sh.rl (Kd.R_mono HO513.out (fun _ hk => hk.2))⟩, ⟨by refine Sh.pl ?_; exact BK503.out⟩, ⟨by refine Sh.pl ?_; exact BK507.out⟩, ⟨Sh.bw⟩⟩
      case round =>
       clear H'
       try clear hx5
       try clear hcz10_0
       try clear hcz10_1
       try clear hcz10_2
       try clear hcz10_3
       try clear hcz12_0
       try clear hcz12_1
       try clear hcz12_2
       try clear hcz12_3
       try clear hcz18_0
       try clear hcz18_1
       try clear hcz18_2
       try clear hcz18_3
       try clear hcz21_0
       try clear hcz21_1
       try clear hcz25_0
       try clear hcz25_1
       try clear hcz8_0
       try clear hcz8_1
       try clear hcz8_2
       try clear hcz8_3
       try clear hfz10_0
       try clear hfz10_1
       try clear hfz10_2
       try clear hfz10_3
       try clear hfz12_0
       try clear hfz12_1
       try clear hfz12_2
       try clear hfz12_3
       try clear hfz18_0
       try clear hfz18_1
       try clear hfz18_2
       try clear hfz18_3
       try clear hfz21_0
       try clear hfz21_1
       try clear hfz25_0
       try clear hfz25_1
       try clear hfz8_0
       try clear hfz8_1
       try clear hfz8_2
       try clear hfz8_3
       try clear hx506_0
       try clear hx506_1
       obtain ⟨x8_2, x9_2, x33_2, rfl, HA, HK2, HO_8, HO_9, BK503, BK507, HB⟩ := hrel
       cases gk with
       | zero => exact absurd HA.out (by simp [impl_TouchedBy.l0])
       | succ k2 =>
        have H := HA.out
        clear HA
        simp only [impl_TouchedBy.l0] at H
        by_cases c26 : x33_2 < (((rd_T50 l0_3 a1).f1).length : Int)
        ·rw [if_pos c26] at H
         have c26b0 := decide_eq_true c26
         clear c26
         by_cases c27 : 0 ≤ x33_2
         ·rw [if_pos c27] at H
          have c27b0 := decide_eq_true c27
          clear c27
          by_cases c28 : x33_2 < (((rd_T50 l0_3 a1).f1).length : Int)
          ·rw [if_pos c28] at H
           have c28b0 := decide_eq_true c28
           clear c28
           obtain ⟨t516, A29, H⟩ := Sh.ba H
           by_cases c30 : x8_2.length + t516.length < 17592186044416
           ·rw [if_pos c30] at H
            have LMc30 := am_ c30
            clear c30
            obtain ⟨y519, hy519⟩ : ∃ y_ : List Int, y_ = (x8_2 ++ t516) := ⟨_, rfl⟩
            replace H : ((some (([(rd_T52 ((rd_T50 l0_3 a1).f1) x33_2).f0] : List Int) : List Int)).bind fun y522 => (if x9_2.length + y522.length < 17592186044416 then (impl_TouchedBy.l0 k2 y519 (x9_2 ++ y522) ((rd_T50 l0_3 a1).f1) (((rd_T50 l0_3 a1).f1).length : Int) (wrap64 (x33_2 + 1))) else (none))) = some (r1, r2, r3) := by first | (rw [hy519]; with_reducible exact H) | (have H2_ := (Option.bind_some _ _).symm.trans H; rw [hy519]; with_reducible exact H2_) | (have H2_ := (Option.bind_some _ _).symm.trans H; with_reducible exact H2_) | with_reducible exact H | (rw [hy519]; exact H) | exact H
            have Ny519 := am_ hy519
            clear hy519
            obtain ⟨y522, hy522⟩ : ∃ y_ : List Int, y_ = (([(rd_T52 ((rd_T50 l0_3 a1).f1) x33_2).f0] : List Int)) := ⟨_, rfl⟩
            replace H : (if x9_2.length + y522.length < 17592186044416 then (impl_TouchedBy.l0 k2 y519 (x9_2 ++ y522) ((rd_T50 l0_3 a1).f1) (((rd_T50 l0_3 a1).f1).length : Int) (wrap64 (x33_2 + 1))) else (none)) = some (r1, r2, r3) := by first | (rw [hy522]; with_reducible exact H) | (have H2_ := (Option.bind_some _ _).symm.trans H; rw [hy522]; with_reducible exact H2_) | (have H2_ := (Option.bind_some _ _).symm.trans H; with_reducible exact H2_) | with_reducible exact H | (rw [hy522]; exact H) | exact H
            have Ny522 := am_ hy522
            clear hy522
            by_cases c31 : x9_2.length + y522.length < 17592186044416
            ·rw [if_pos c31] at H
             have LMc31 := am_ c31
             clear c31
             obtain ⟨y525, hy525⟩ : ∃ y_ : List Int, y_ = (x9_2 ++ y522) := ⟨_, rfl⟩
             replace H : (impl_TouchedBy.l0 k2 y519 y525 ((rd_T50 l0_3 a1).f1) (((rd_T50 l0_3 a1).f1).length : Int) (wrap64 (x33_2 + 1))) = some (r1, r2, r3) := by first | (rw [hy525]; with_reducible exact H) | (have H2_ := (Option.bind_some _ _).symm.trans H; rw [hy525]; with_reducible exact H2_) | (have H2_ := (Option.bind_some _ _).symm.trans H; with_reducible exact H2_) | with_reducible exact H | (rw [hy525]; exact H) | exact H
             have Ny525 := am_ hy525
             clear hy525
             have H' := am_ H
             clear H
             have p514 : 0 ≤ (x33_2 : Int) := Sh.od
             have q514 : x33_2 < (((rd_T50 l0_3 a1).f1).length : Int) := Sh.od
             obtain ⟨ad514, A514_1, c514_1, e514, hx514_0, hx514_1, hl514_1, hi514_1⟩ := at_T52 HR506_1.out x33_2 p514 q514
             cases e514
             try replace hx514_0 := Sh.cw hx514_0
             try replace hx514_1 := Sh.cw hx514_1
             have HR514_1 := am_ hi514_1
             have HC514_1 := am_ hl514_1
             clear hi514_1 hl514_1
             replace p514 := eq_true p514
             replace q514 := eq_true q514
             try go_wp2_with (first | ((with_reducible refine Sh.d 11 ?_); refine Sh.bx (N := 11) (cs := #[.int .i64 0, .slice none 0 0]) (t := 52) (h := ?_); intro gb515 hg w32 hbox hb; replace HO_8 := am_ (Kd.R_below (Sh.rl HO_8.out) hb); replace HO_9 := am_ (Kd.R_below (Sh.rl HO_9.out) hb); have BK515 := am_ hbox; have GE515 := Sh.ag w hg; replace HB := Sh.hb hb; have NB503_515 := am_ (Sh.nl hg BK503.out); have NB515_503 := am_ (Sh.ng hg BK503.out); replace BK503 := Sh.ab BK503 hb; have NB507_515 := am_ (Sh.nl hg BK507.out); have NB515_507 := am_ (Sh.ng hg BK507.out); replace BK507 := Sh.ab BK507 hb; clear hb hbox hg; have hnb33 := NB515_503.out; have hnc33 := NB503_515.out; have hnb34 := NB515_507.out; have hnc34 := NB507_515.out; obtain ⟨hcz35_0, hcz35_1, hfz35_0, hfz35_1⟩ := Sh.b2 BK515.out; obtain ⟨Ao36, co36, eo36⟩ := Kd.R_slice HO_8.out; subst eo36; obtain ⟨Ao37, co37, eo37⟩ := Kd.R_slice HO_9.out; subst eo37))
             have n0_ : Aside0 (Kd.R (Kd.int .i64) 3 ((w32.setCell ⟨gb515, 0, none⟩ (.int .i64 ((rd_T52 ((rd_T50 l0_3 a1).f1) x33_2).f0))).setCell ⟨gb515, 1, none⟩ (.slice A514_1 ((rd_T52 ((rd_T50 l0_3 a1).f1) x33_2).f1).length c514_1)) w.heap.size (fun k_ => some k_ ≠ (.slice Ao37 x9_2.length co37 : Value).ownBlock) (.slice Ao36 x8_2.length co36) x8_2) := ⟨Sh.rl (Kd.R_mono (Kd.R_far (p := ⟨gb515, 1, none⟩) (Kd.R_far (p := ⟨gb515, 0, none⟩) (Kd.R_types HO_8.out BK515.out (by decide)) (fun _ hk => hk.2) (.int .i64 ((rd_T52 ((rd_T50 l0_3 a1).f1) x33_2).f0))) (fun _ hk => hk.2) (.slice A514_1 ((rd_T52 ((rd_T50 l0_3 a1).f1) x33_2).f1).length c514_1)) (fun _ hk => hk.1))⟩
             have n1_ : Aside0 (Kd.R (Kd.int .i64) 3 ((w32.setCell ⟨gb515, 0, none⟩ (.int .i64 ((rd_T52 ((rd_T50 l0_3 a1).f1) x33_2).f0))).setCell ⟨gb515, 1, none⟩ (.slice A514_1 ((rd_T52 ((rd_T50 l0_3 a1).f1) x33_2).f1).length c514_1)) w.heap.size (fun k_ => some k_ ≠ (.slice Ao36 x8_2.length co36 : Value).ownBlock) (.slice Ao37 x9_2.length co37) x9_2) := ⟨Sh.rl (Kd.R_mono (Kd.R_far (p := ⟨gb515, 1, none⟩) (Kd.R_far (p := ⟨gb515, 0, none⟩) (Kd.R_types HO_9.out BK515.out (by decide)) (fun _ hk => hk.2) (.int .i64 ((rd_T52 ((rd_T50 l0_3 a1).f1) x33_2).f0))) (fun _ hk => hk.2) (.slice A514_1 ((rd_T52 ((rd_T50 l0_3 a1).f1) x33_2).f1).length c514_1)) (fun _ hk => hk.1))⟩
             have n2_ : Aside0 (((w32.setCell ⟨gb515, 0, none⟩ (.int .i64 ((rd_T52 ((rd_T50 l0_3 a1).f1) x33_2).f0))).setCell ⟨gb515, 1, none⟩ (.slice A514_1 ((rd_T52 ((rd_T50 l0_3 a1).f1) x33_2).f1).length c514_1)).heap[gb503]? = some (.cells #[.int .i64 a0_0, .int .i64 a0_1, .slice A0_2 l0_2.length c0_2, .slice (some ad506) l0_3.length c0_3] 33 (0, 0))) := ⟨by refine Sh.pl ?_; refine blk_far ?_ NB503_515.out _; refine Sh.pl ?_; refine blk_far ?_ NB503_515.out _; refine Sh.pl ?_; exact BK503.out⟩
             have n3_ : Aside0 (((w32.setCell ⟨gb515, 0, none⟩ (.int .i64 ((rd_T52 ((rd_T50 l0_3 a1).f1) x33_2).f0))).setCell ⟨gb515, 1, none⟩ (.slice A514_1 ((rd_T52 ((rd_T50 l0_3 a1).f1) x33_2).f1).length c514_1)).heap[gb507]? = some (.cells #[.slice A506_0 ((rd_T50 l0_3 a1).f0).length c506_0, .slice (some ad514) ((rd_T50 l0_3 a1).f1).length c506_1] 50 (0, 0))) := ⟨by refine Sh.pl ?_; refine blk_far ?_ NB507_515.out _; refine Sh.pl ?_; refine blk_far ?_ NB507_515.out _; refine Sh.pl ?_; exact BK507.out⟩
             have n4_ : Aside0 (((w32.setCell ⟨gb515, 0, none⟩ (.int .i64 ((rd_T52 ((rd_T50 l0_3 a1).f1) x33_2).f0))).setCell ⟨gb515, 1, none⟩ (.slice A514_1 ((rd_T52 ((rd_T50 l0_3 a1).f1) x33_2).f1).length c514_1)).heap[gb515]? = some (.cells #[.int .i64 ((rd_T52 ((rd_T50 l0_3 a1).f1) x33_2).f0), .slice A514_1 ((rd_T52 ((rd_T50 l0_3 a1).f1) x33_2).f1).length c514_1] 52 (0, 0))) := ⟨by refine Sh.pl ?_; refine blk_put (cs := #[.int .i64 ((rd_T52 ((rd_T50 l0_3 a1).f1) x33_2).f0), .slice none 0 0]) ?_ 1 _ rfl; refine Sh.pl ?_; refine blk_put (cs := #[.int .i64 0, .slice none 0 0]) ?_ 0 _ rfl; refine Sh.pl ?_; exact BK515.out⟩
             have n5_ : Aside0 (Below w.heap.size w ((w32.setCell ⟨gb515, 0, none⟩ (.int .i64 ((rd_T52 ((rd_T50 l0_3 a1).f1) x33_2).f0))).setCell ⟨gb515, 1, none⟩ (.slice A514_1 ((rd_T52 ((rd_T50 l0_3 a1).f1) x33_2).f1).length c514_1))) := ⟨Sh.bw⟩
             (try clear HO_8)
             (try clear HO_9)
             (try clear BK503)
             (try clear BK507)
             (try clear BK515)
             (try clear HB)
             generalize ((w32.setCell ⟨gb515, 0, none⟩ (.int .i64 ((rd_T52 ((rd_T50 l0_3 a1).f1) x33_2).f0))).setCell ⟨gb515, 1, none⟩ (.slice A514_1 ((rd_T52 ((rd_T50 l0_3 a1).f1) x33_2).f1).length c514_1)) = w38 at n0_ n1_ n2_ n3_ n4_ n5_ ⊢
             have HO_8 := n0_
             have HO_9 := n1_
             have BK503 := n2_
             have BK507 := n3_
             have BK515 := n4_
             have HB := n5_
             clear n0_ n1_ n2_ n3_ n4_ n5_
             replace HO_8 := am_ (Kd.R_drew HO_8.out)
             replace HO_9 := am_ (Kd.R_drew HO_9.out)
             replace BK503 := am_ (blk_drew BK503.out)
             replace BK507 := am_ (blk_drew BK507.out)
             replace BK515 := am_ (blk_drew BK515.out)
             replace HB := am_ (below_drew1 HB.out)
             refine start_ (n := 12) (S := fun w' => w'.cell? ⟨gb515, 0, none⟩ = some (.int .i64 ((rd_T52 ((rd_T50 l0_3 a1).f1) x33_2).f0)) ∧ w'.cell? ⟨gb515, 1, none⟩ = some (.slice A514_1 ((rd_T52 ((rd_T50 l0_3 a1).f1) x33_2).f1).length c514_1)) (ds := []) (Sh.nm 12 0) (by kernel_rfl) rfl rfl Sh.cs (fun hHeld => ?_); refine with_tabW impl_TouchedBy.tab8 impl_TouchedBy.bits8 (fun HT_ HW_ => ?_)
             generalize w38.drew = w39 at HO_8 HO_9 BK503 BK507 BK515 HB hHeld ⊢
             refine Sh.qA 0 ?_; refine Sh.qA 1 ?_; refine Sh.qA 5 ?_; refine Sh.qA 6 ?_; refine Sh.qT 2 hHeld ?_; refine Sh.qT 7 hHeld ?_
             refine join_ (σ := Value × Value × Value) 3 (Sh.nm 12 511) (fun s_ => [(40, s_.1), (41, s_.2.1), (45, s_.2.2)]) (fun s_ w' => (w'.cell? ⟨gb515, 0, none⟩ = some (.int .i64 ((rd_T52 ((rd_T50 l0_3 a1).f1) x33_2).f0)) ∧ w'.cell? ⟨gb515, 1, none⟩ = some (.slice A514_1 ((rd_T52 ((rd_T50 l0_3 a1).f1) x33_2).f1).length c514_1)) ∧ (Kd.R (Kd.int .i64) 3 w' w.heap.size (fun k_ => some k_ ≠ (s_.2.1 : Value).ownBlock ∧ some k_ ≠ (s_.2.2 : Value).ownBlock ∧ some k_ ≠ (.slice Ao37 x9_2.length co37 : Value).ownBlock) s_.1 t516) ∧ (Kd.R (Kd.int .i64) 3 w' w.heap.size (fun k_ => some k_ ≠ (s_.1 : Value).ownBlock ∧ some k_ ≠ (s_.2.2 : Value).ownBlock ∧ some k_ ≠ (.slice Ao37 x9_2.length co37 : Value).ownBlock) s_.2.1 y519) ∧ (Kd.R (Kd.int .i64) 3 w' w.heap.size (fun k_ => some k_ ≠ (s_.1 : Value).ownBlock ∧ some k_ ≠ (s_.2.1 : Value).ownBlock ∧ some k_ ≠ (.slice Ao37 x9_2.length co37 : Value).ownBlock) s_.2.2 y522) ∧ (Kd.R (Kd.int .i64) 3 w' w.heap.size (fun k_ => some k_ ≠ (s_.1 : Value).ownBlock ∧ some k_ ≠ (s_.2.1 : Value).ownBlock ∧ some k_ ≠ (s_.2.2 : Value).ownBlock) (.slice Ao37 x9_2.length co37) x9_2) ∧ (w'.heap[gb503]? = some (.cells #[.int .i64 a0_0, .int .i64 a0_1, .slice A0_2 l0_2.length c0_2, .slice (some ad506) l0_3.length c0_3] 33 (0, 0))) ∧ (w'.heap[gb507]? = some (.cells #[.slice A506_0 ((rd_T50 l0_3 a1).f0).length c506_0, .slice (some ad514) ((rd_T50 l0_3 a1).f1).length c506_1] 50 (0, 0))) ∧ (w'.heap[gb515]? = some (.cells #[.int .i64 ((rd_T52 ((rd_T50 l0_3 a1).f1) x33_2).f0), .slice A514_1 ((rd_T52 ((rd_T50 l0_3 a1).f1) x33_2).f1).length c514_1] 52 (0, 0))) ∧ (Below w.heap.size w w')) ?_ ?_
             rotate_left
             ·intro hCont
              refine two_ (i := 3) (j := 8) (Ni := some 40) (Nj := some 45) (Sh.nm 12 239) (Sh.nm 12 487) rfl rfl rfl rfl (two_of HT_.out (by kernel_rfl)) (by decide) (by decide) (fun K hK => ?_) (fun K hK => ?_)
              ·skip
               refine goes_ Try.func26 (by kernel_rfl) rfl #[.slice A514_1 ((rd_T52 ((rd_T50 l0_3 a1).f1) x33_2).f1).length c514_1] (by rfl) rfl rfl (by (try simp only [List.map_toArray, List.map_cons, List.map_nil]); first | done | rfl | (simp only [List.length_drop, List.length_take]; rfl)) ?_
               with_reducible refine (impl_varsIn.calls k2 _ _ ((rd_T52 ((rd_T50 l0_3 a1).f1) x33_2).f1) t516 _ (Sh.cB HR514_1.out) HC514_1.out A29.out).mono ?_
               rintro e w40 ⟨v517, rfl, ho0, hb⟩
               refine ⟨_, rfl, ?_⟩
               have HO518 := am_ (Kd.R_lower (Kd.R_new' (Kd.R_new' ho0 (Kd.R_lt (Sh.rl HO_8.out))) (Kd.R_lt (Sh.rl HO_9.out))) (below_size Sh.bw))
               replace HO_8 := am_ (Kd.R_elder' (Sh.rl HO_8.out) (Kd.R_base ho0) hb)
               replace HO_9 := am_ (Kd.R_elder' (Sh.rl HO_9.out) (Kd.R_base ho0) hb)
               replace BK503 := Sh.ab BK503 hb
               replace BK507 := Sh.ab BK507 hb
               replace BK515 := Sh.ab BK515 hb
               replace HB := Sh.hb hb
               (try clear hb)
               (try clear hb2)
               (try clear hk)
               (try clear hi)
               (try clear ho0)
               refine Sh.kN hK Sh.cs fun hHeld => ?_
               clear hK K
               refine two_ (i := 4) (j := 8) (Ni := some 41) (Nj := some 45) (Sh.nm 12 255) (Sh.nm 12 495) rfl rfl rfl rfl (two_of HT_.out (by kernel_rfl)) (by decide) (by decide) (fun K hK => ?_) (fun K hK => ?_)
               ·skip
                obtain ⟨Ao42, co42, eo42⟩ := Kd.R_slice HO518.out
                (first | subst eo42 | (injection eo42 with f1_ f2_ f3_; have f4_ := f1_.symm; have f5_ := f3_.symm; clear f1_ f2_ f3_; subst f4_; subst f5_))
                refine Kd.R_append_rows_step (Kd.int .i64) (w0 := w) w.heap.size (by rfl) (.tmp 37) (.tmp 40) 27 3 (.int .i64 0) 8 rfl Try.underlying27 info3 rfl (by decide) (by omega) (.slice Ao36 x8_2.length co36) x8_2 t516 _ _ _ (fun k_ => some k_ ≠ (.slice Ao37 x9_2.length co37 : Value).ownBlock ∧ some k_ ≠ (.slice Ao42 t516.length co42 : Value).ownBlock) (fun _ => False) rfl rfl ?aO ?aR (fun _ _ h => h) (fun _ h => h.elim) ?aF ?aB ?aS ?aL ?_
                (case aR => repeat (first | exact (Kd.R_reads' HO518.out).2.2 | (with_reducible first | refine Kd.C_alloc ?_ _ | refine Kd.C_drewN ?_ _ | refine Kd.C_drew ?_)))
                (case aB => exact Sh.bw)
                (case aF => exact (fun k_ hk => ⟨Kd.fresh' (Kd.R_lt (Sh.rl HO_9.out)) k_ hk, Kd.fresh' (Kd.R_lt (Sh.rl HO518.out)) k_ hk⟩))
                (case aO => exact (Sh.rl HO_8.out))
                (case aS => exact (below_size Sh.bw))
                (case aL => have := LMc30.out; omega)
                intro v520 w41 ho hb hg hat
                rw [← Ny519.out] at ho
                have n0_ := am_ (Kd.R_after (ok := (fun k_ => some k_ ≠ (.slice Ao42 t516.length co42 : Value).ownBlock)) (Sh.rl (Kd.R_mono HO_9.out (fun _ h => ⟨h.2, h.1⟩))) hg hat)
                have n1_ := am_ (blk_grown (g := gb503) (o := .cells #[.int .i64 a0_0, .int .i64 a0_1, .slice A0_2 l0_2.length c0_2, .slice (some ad506) l0_3.length c0_3] 33 (0, 0)) (Sh.pl BK503.out) hg (Kd.R_ne HO_8.out BK503.out (by decide)))
                have n2_ := am_ (blk_grown (g := gb507) (o := .cells #[.slice A506_0 ((rd_T50 l0_3 a1).f0).length c506_0, .slice (some ad514) ((rd_T50 l0_3 a1).f1).length c506_1] 50 (0, 0)) (Sh.pl BK507.out) hg (Kd.R_ne HO_8.out BK507.out (by decide)))
                have n3_ := am_ (blk_grown (g := gb515) (o := .cells #[.int .i64 ((rd_T52 ((rd_T50 l0_3 a1).f1) x33_2).f0), .slice A514_1 ((rd_T52 ((rd_T50 l0_3 a1).f1) x33_2).f1).length c514_1] 52 (0, 0)) (Sh.pl BK515.out) hg (Kd.R_ne HO_8.out BK515.out (by decide)))
                have n4_ := am_ (Kd.R_after (ok := (fun k_ => some k_ ≠ (.slice Ao37 x9_2.length co37 : Value).ownBlock)) (Sh.rl (Kd.R_mono HO518.out (fun _ h => ⟨h.2, h.1.2⟩))) hg hat)
                have n5_ := am_ hb
                have n6_ := am_ ho
                clear HO_9
                clear BK503
                clear BK507
                clear BK515
                clear HO518
                clear HB
                clear HO_8
                have HO_9 := n0_
                have BK503 := n1_
                have BK507 := n2_
                have BK515 := n3_
                have HO518 := n4_
                have HB := n5_
                have HO521 := n6_
                clear n0_ n1_ n2_ n3_ n4_ n5_ n6_
                clear ho hb hg hat
                refine Sh.kN hK Sh.cs fun hHeld => ?_
                clear hK K
                refine one_ (i := 8) (N := some 45) (Sh.nm 12 511) rfl rfl (one_of HT_.out (by kernel_rfl)) (by decide) (fun K hK => ?_)
                refine Kd.R_lit_step (Kd.int .i64) _ 3 ?hg (N := 45) ?hd (xs := ([(rd_T52 ((rd_T50 l0_3 a1).f1) x33_2).f0] : List Int)) (inner := [.int .i64 ((rd_T52 ((rd_T50 l0_3 a1).f1) x33_2).f0)]) (ok := fun _ => True) (okp := fun _ => True) ?hr ?hp (fun _ hk => hk) trivial (Below.refl _ _) (Nat.le_refl _) (by simp) ?_; (case hd => rfl); (case hg => rfl); (case hr => first | (go_simp; done) | (go_simp; rfl)); (case hp => exact (Reps.one (show Kd.M (Kd.int .i64) _ _ _ ((rd_T52 ((rd_T50 l0_3 a1).f1) x33_2).f0) [.int .i64 ((rd_T52 ((rd_T50 l0_3 a1).f1) x33_2).f0)] from rfl) (Reps.none _ _)))
                intro v523 w43 ho44 hb hg_ hnew_
                clear hg_ hnew_
                (first | rw [← Ny522.out] at ho44 | (simp only [Int.reduceToNat] at ho44; rw [← Ny522.out] at ho44))
                have HO524 := am_ (Kd.R_lower (Kd.R_new' (Kd.R_new' (Kd.R_new' ho44 (Kd.R_lt (Sh.rl HO_9.out))) (Kd.R_lt (Sh.rl HO518.out))) (Kd.R_lt (Sh.rl HO521.out))) (below_size Sh.bw))
                replace HO_9 := am_ (Kd.R_elder' (Sh.rl HO_9.out) (Kd.R_base ho44) hb)
                replace HO518 := am_ (Kd.R_elder' (Sh.rl HO518.out) (Kd.R_base ho44) hb)
                replace HO521 := am_ (Kd.R_elder' (Sh.rl HO521.out) (Kd.R_base ho44) hb)
                replace BK503 := Sh.ab BK503 hb
                replace BK507 := Sh.ab BK507 hb
                replace BK515 := Sh.ab BK515 hb
                replace HB := Sh.hb hb
                clear hb ho44
                refine Sh.kN hK Sh.cs fun hHeld => ?_
                clear hK K
                exact norm_ (by simp only [putAll, Act.put, List.setIfInBounds_toArray, List.set_cons_zero, List.set_cons_succ]) (hCont (.slice Ao42 t516.length co42, v520, v523) _ ⟨hHeld, (Sh.rl (Kd.R_mono HO518.out (fun _ h => ⟨h.1.2, h.2, h.1.1⟩))), (Sh.rl (Kd.R_mono HO521.out (fun _ h => ⟨h.1.2, h.2, h.1.1⟩))), (Sh.rl (Kd.R_mono HO524.out (fun _ h => ⟨h.1.2, h.2, h.1.1.2⟩))), (Sh.rl (Kd.R_mono HO_9.out (fun _ h => ⟨h.1.1, h.1.2, h.2⟩))), (Sh.pl BK503.out), (Sh.pl BK507.out), (Sh.pl BK515.out), Sh.bw⟩)
               ·skip
                refine Kd.R_lit_step (Kd.int .i64) _ 3 ?hg (N := 45) ?hd (xs := ([(rd_T52 ((rd_T50 l0_3 a1).f1) x33_2).f0] : List Int)) (inner := [.int .i64 ((rd_T52 ((rd_T50 l0_3 a1).f1) x33_2).f0)]) (ok := fun _ => True) (okp := fun _ => True) ?hr ?hp (fun _ hk => hk) trivial (Below.refl _ _) (Nat.le_refl _) (by simp) ?_; (case hd => rfl); (case hg => rfl); (case hr => first | (go_simp; done) | (go_simp; rfl)); (case hp => exact (Reps.one (show Kd.M (Kd.int .i64) _ _ _ ((rd_T52 ((rd_T50 l0_3 a1).f1) x33_2).f0) [.int .i64 ((rd_T52 ((rd_T50 l0_3 a1).f1) x33_2).f0)] from rfl) (Reps.none _ _)))
                intro v523 w41 ho42 hb hg_ hnew_
                clear hg_ hnew_
                (first | rw [← Ny522.out] at ho42 | (simp only [Int.reduceToNat] at ho42; rw [← Ny522.out] at ho42))
                have HO524 := am_ (Kd.R_lower (Kd.R_new' (Kd.R_new' (Kd.R_new' ho42 (Kd.R_lt (Sh.rl HO_8.out))) (Kd.R_lt (Sh.rl HO_9.out))) (Kd.R_lt (Sh.rl HO518.out))) (below_size Sh.bw))
                replace HO_8 := am_ (Kd.R_elder' (Sh.rl HO_8.out) (Kd.R_base ho42) hb)
                replace HO_9 := am_ (Kd.R_elder' (Sh.rl HO_9.out) (Kd.R_base ho42) hb)
                replace HO518 := am_ (Kd.R_elder' (Sh.rl HO518.out) (Kd.R_base ho42) hb)
                replace BK503 := Sh.ab BK503 hb
                replace BK507 := Sh.ab BK507 hb
                replace BK515 := Sh.ab BK515 hb
                replace HB := Sh.hb hb
                clear hb ho42
                refine Sh.kN hK Sh.cs fun hHeld => ?_
                clear hK K
                refine one_ (i := 4) (N := some 41) (Sh.nm 12 511) rfl rfl (one_of HT_.out (by kernel_rfl)) (by decide) (fun K hK => ?_)
                obtain ⟨Ao44, co44, eo44⟩ := Kd.R_slice HO518.out
                (first | subst eo44 | (injection eo44 with f1_ f2_ f3_; have f4_ := f1_.symm; have f5_ := f3_.symm; clear f1_ f2_ f3_; subst f4_; subst f5_))
                refine Kd.R_append_rows_step (Kd.int .i64) (w0 := w) w.heap.size (by rfl) (.tmp 37) (.tmp 40) 27 3 (.int .i64 0) 8 rfl Try.underlying27 info3 rfl (by decide) (by omega) (.slice Ao36 x8_2.length co36) x8_2 t516 _ _ _ (fun k_ => some k_ ≠ (.slice Ao37 x9_2.length co37 : Value).ownBlock ∧ some k_ ≠ (.slice Ao44 t516.length co44 : Value).ownBlock ∧ some k_ ≠ (v523 : Value).ownBlock) (fun _ => False) rfl rfl ?aO ?aR (fun _ _ h => h) (fun _ h => h.elim) ?aF ?aB ?aS ?aL ?_
                (case aR => repeat (first | exact (Kd.R_reads' HO518.out).2.2 | (with_reducible first | refine Kd.C_alloc ?_ _ | refine Kd.C_drewN ?_ _ | refine Kd.C_drew ?_)))
                (case aB => exact Sh.bw)
                (case aF => exact (fun k_ hk => ⟨Kd.fresh' (Kd.R_lt (Sh.rl HO_9.out)) k_ hk, Kd.fresh' (Kd.R_lt (Sh.rl HO518.out)) k_ hk, Kd.fresh' (Kd.R_lt (Sh.rl HO524.out)) k_ hk⟩))
                (case aO => exact (Sh.rl (Kd.R_mono HO_8.out (fun _ h => ⟨h.1.1, h.1.2, h.2⟩))))
                (case aS => exact (below_size Sh.bw))
                (case aL => have := LMc30.out; omega)
                intro v520 w43 ho hb hg hat
                rw [← Ny519.out] at ho
                have n0_ := am_ (Kd.R_after (ok := (fun k_ => some k_ ≠ (.slice Ao44 t516.length co44 : Value).ownBlock ∧ some k_ ≠ (v523 : Value).ownBlock)) (Sh.rl (Kd.R_mono HO_9.out (fun _ h => ⟨⟨h.1.2, h.2⟩, h.1.1⟩))) hg hat)
                have n1_ := am_ (blk_grown (g := gb503) (o := .cells #[.int .i64 a0_0, .int .i64 a0_1, .slice A0_2 l0_2.length c0_2, .slice (some ad506) l0_3.length c0_3] 33 (0, 0)) (Sh.pl BK503.out) hg (Kd.R_ne HO_8.out BK503.out (by decide)))
                have n2_ := am_ (blk_grown (g := gb507) (o := .cells #[.slice A506_0 ((rd_T50 l0_3 a1).f0).length c506_0, .slice (some ad514) ((rd_T50 l0_3 a1).f1).length c506_1] 50 (0, 0)) (Sh.pl BK507.out) hg (Kd.R_ne HO_8.out BK507.out (by decide)))
                have n3_ := am_ (blk_grown (g := gb515) (o := .cells #[.int .i64 ((rd_T52 ((rd_T50 l0_3 a1).f1) x33_2).f0), .slice A514_1 ((rd_T52 ((rd_T50 l0_3 a1).f1) x33_2).f1).length c514_1] 52 (0, 0)) (Sh.pl BK515.out) hg (Kd.R_ne HO_8.out BK515.out (by decide)))
                have n4_ := am_ (Kd.R_after (ok := (fun k_ => some k_ ≠ (.slice Ao37 x9_2.length co37 : Value).ownBlock ∧ some k_ ≠ (v523 : Value).ownBlock)) (Sh.rl (Kd.R_mono HO518.out (fun _ h => ⟨⟨h.1.2, h.2⟩, h.1.1.2⟩))) hg hat)
                have n5_ := am_ (Kd.R_after (ok := (fun k_ => some k_ ≠ (.slice Ao37 x9_2.length co37 : Value).ownBlock ∧ some k_ ≠ (.slice Ao44 t516.length co44 : Value).ownBlock)) (Sh.rl (Kd.R_mono HO524.out (fun _ h => ⟨⟨h.1.2, h.2⟩, h.1.1.2⟩))) hg hat)
                have n6_ := am_ hb
                have n7_ := am_ ho
                clear HO_9
                clear BK503
                clear BK507
                clear BK515
                clear HO518
                clear HO524
                clear HB
                clear HO_8
                have HO_9 := n0_
                have BK503 := n1_
                have BK507 := n2_
                have BK515 := n3_
                have HO518 := n4_
                have HO524 := n5_
                have HB := n6_
                have HO521 := n7_
                clear n0_ n1_ n2_ n3_ n4_ n5_ n6_ n7_
                clear ho hb hg hat
                refine Sh.kN hK Sh.cs fun hHeld => ?_
                clear hK K
                exact norm_ (by simp only [putAll, Act.put, List.setIfInBounds_toArray, List.set_cons_zero, List.set_cons_succ]) (hCont (.slice Ao44 t516.length co44, v520, v523) _ ⟨hHeld, (Sh.rl (Kd.R_mono HO518.out (fun _ h => ⟨h.2, h.1.2, h.1.1⟩))), (Sh.rl (Kd.R_mono HO521.out (fun _ h => ⟨h.2.1, h.2.2, h.1⟩))), (Sh.rl (Kd.R_mono HO524.out (fun _ h => ⟨h.1.2, h.2, h.1.1⟩))), (Sh.rl (Kd.R_mono HO_9.out (fun _ h => ⟨h.1.1, h.2, h.1.2⟩))), (Sh.pl BK503.out), (Sh.pl BK507.out), (Sh.pl BK515.out), Sh.bw⟩)
              ·skip
               refine Kd.R_lit_step (Kd.int .i64) _ 3 ?hg (N := 45) ?hd (xs := ([(rd_T52 ((rd_T50 l0_3 a1).f1) x33_2).f0] : List Int)) (inner := [.int .i64 ((rd_T52 ((rd_T50 l0_3 a1).f1) x33_2).f0)]) (ok := fun _ => True) (okp := fun _ => True) ?hr ?hp (fun _ hk => hk) trivial (Below.refl _ _) (Nat.le_refl _) (by simp) ?_; (case hd => rfl); (case hg => rfl); (case hr => first | (go_simp; done) | (go_simp; rfl)); (case hp => exact (Reps.one (show Kd.M (Kd.int .i64) _ _ _ ((rd_T52 ((rd_T50 l0_3 a1).f1) x33_2).f0) [.int .i64 ((rd_T52 ((rd_T50 l0_3 a1).f1) x33_2).f0)] from rfl) (Reps.none _ _)))
               intro v523 w40 ho41 hb hg_ hnew_
               clear hg_ hnew_
               (first | rw [← Ny522.out] at ho41 | (simp only [Int.reduceToNat] at ho41; rw [← Ny522.out] at ho41))
               have HO524 := am_ (Kd.R_lower (Kd.R_new' (Kd.R_new' ho41 (Kd.R_lt (Sh.rl HO_8.out))) (Kd.R_lt (Sh.rl HO_9.out))) (below_size Sh.bw))
               replace HO_8 := am_ (Kd.R_elder' (Sh.rl HO_8.out) (Kd.R_base ho41) hb)
               replace HO_9 := am_ (Kd.R_elder' (Sh.rl HO_9.out) (Kd.R_base ho41) hb)
               replace BK503 := Sh.ab BK503 hb
               replace BK507 := Sh.ab BK507 hb
               replace BK515 := Sh.ab BK515 hb
               replace HB := Sh.hb hb
               clear hb ho41
               refine Sh.kN hK Sh.cs fun hHeld => ?_
               clear hK K
               refine Sh.oC 3 Try.func26 #[.slice A514_1 ((rd_T52 ((rd_T50 l0_3 a1).f1) x33_2).f1).length c514_1] fun K hK => ?_
               with_reducible refine (impl_varsIn.calls k2 _ _ ((rd_T52 ((rd_T50 l0_3 a1).f1) x33_2).f1) t516 _ (Sh.cB HR514_1.out) HC514_1.out A29.out).mono ?_
               rintro e w42 ⟨v517, rfl, ho0, hb⟩
               refine ⟨_, rfl, ?_⟩
               have HO518 := am_ (Kd.R_lower (Kd.R_new' (Kd.R_new' (Kd.R_new' ho0 (Kd.R_lt (Sh.rl HO_8.out))) (Kd.R_lt (Sh.rl HO_9.out))) (Kd.R_lt (Sh.rl HO524.out))) (below_size Sh.bw))
               replace HO_8 := am_ (Kd.R_elder' (Sh.rl HO_8.out) (Kd.R_base ho0) hb)
               replace HO_9 := am_ (Kd.R_elder' (Sh.rl HO_9.out) (Kd.R_base ho0) hb)
               replace HO524 := am_ (Kd.R_elder' (Sh.rl HO524.out) (Kd.R_base ho0) hb)
               replace BK503 := Sh.ab BK503 hb
               replace BK507 := Sh.ab BK507 hb
               replace BK515 := Sh.ab BK515 hb
               replace HB := Sh.hb hb
               (try clear hb)
               (try clear hb2)
               (try clear hk)
               (try clear hi)
               (try clear ho0)
               refine Sh.kN hK Sh.cs fun hHeld => ?_
               clear hK K
               refine one_ (i := 4) (N := some 41) (Sh.nm 12 511) rfl rfl (one_of HT_.out (by kernel_rfl)) (by decide) (fun K hK => ?_)
               obtain ⟨Ao44, co44, eo44⟩ := Kd.R_slice HO518.out
               (first | subst eo44 | (injection eo44 with f1_ f2_ f3_; have f4_ := f1_.symm; have f5_ := f3_.symm; clear f1_ f2_ f3_; subst f4_; subst f5_))
               refine Kd.R_append_rows_step (Kd.int .i64) (w0 := w) w.heap.size (by rfl) (.tmp 37) (.tmp 40) 27 3 (.int .i64 0) 8 rfl Try.underlying27 info3 rfl (by decide) (by omega) (.slice Ao36 x8_2.length co36) x8_2 t516 _ _ _ (fun k_ => some k_ ≠ (.slice Ao37 x9_2.length co37 : Value).ownBlock ∧ some k_ ≠ (v523 : Value).ownBlock ∧ some k_ ≠ (.slice Ao44 t516.length co44 : Value).ownBlock) (fun _ => False) rfl rfl ?aO ?aR (fun _ _ h => h) (fun _ h => h.elim) ?aF ?aB ?aS ?aL ?_
               (case aR => repeat (first | exact (Kd.R_reads' HO518.out).2.2 | (with_reducible first | refine Kd.C_alloc ?_ _ | refine Kd.C_drewN ?_ _ | refine Kd.C_drew ?_)))
               (case aB => exact Sh.bw)
               (case aF => exact (fun k_ hk => ⟨Kd.fresh' (Kd.R_lt (Sh.rl HO_9.out)) k_ hk, Kd.fresh' (Kd.R_lt (Sh.rl HO524.out)) k_ hk, Kd.fresh' (Kd.R_lt (Sh.rl HO518.out)) k_ hk⟩))
               (case aO => exact (Sh.rl (Kd.R_mono HO_8.out (fun _ h => ⟨h.1.1, h.1.2, h.2⟩))))
               (case aS => exact (below_size Sh.bw))
               (case aL => have := LMc30.out; omega)
               intro v520 w43 ho hb hg hat
               rw [← Ny519.out] at ho
               have n0_ := am_ (Kd.R_after (ok := (fun k_ => some k_ ≠ (v523 : Value).ownBlock ∧ some k_ ≠ (.slice Ao44 t516.length co44 : Value).ownBlock)) (Sh.rl (Kd.R_mono HO_9.out (fun _ h => ⟨⟨h.1.2, h.2⟩, h.1.1⟩))) hg hat)
               have n1_ := am_ (blk_grown (g := gb503) (o := .cells #[.int .i64 a0_0, .int .i64 a0_1, .slice A0_2 l0_2.length c0_2, .slice (some ad506) l0_3.length c0_3] 33 (0, 0)) (Sh.pl BK503.out) hg (Kd.R_ne HO_8.out BK503.out (by decide)))
               have n2_ := am_ (blk_grown (g := gb507) (o := .cells #[.slice A506_0 ((rd_T50 l0_3 a1).f0).length c506_0, .slice (some ad514) ((rd_T50 l0_3 a1).f1).length c506_1] 50 (0, 0)) (Sh.pl BK507.out) hg (Kd.R_ne HO_8.out BK507.out (by decide)))
               have n3_ := am_ (blk_grown (g := gb515) (o := .cells #[.int .i64 ((rd_T52 ((rd_T50 l0_3 a1).f1) x33_2).f0), .slice A514_1 ((rd_T52 ((rd_T50 l0_3 a1).f1) x33_2).f1).length c514_1] 52 (0, 0)) (Sh.pl BK515.out) hg (Kd.R_ne HO_8.out BK515.out (by decide)))
               have n4_ := am_ (Kd.R_after (ok := (fun k_ => some k_ ≠ (.slice Ao37 x9_2.length co37 : Value).ownBlock ∧ some k_ ≠ (.slice Ao44 t516.length co44 : Value).ownBlock)) (Sh.rl (Kd.R_mono HO524.out (fun _ h => ⟨⟨h.1.2, h.2⟩, h.1.1.2⟩))) hg hat)
               have n5_ := am_ (Kd.R_after (ok := (fun k_ => some k_ ≠ (.slice Ao37 x9_2.length co37 : Value).ownBlock ∧ some k_ ≠ (v523 : Value).ownBlock)) (Sh.rl (Kd.R_mono HO518.out (fun _ h => ⟨⟨h.1.2, h.2⟩, h.1.1.2⟩))) hg hat)
               have n6_ := am_ hb
               have n7_ := am_ ho
               clear HO_9
               clear BK503
               clear BK507
               clear BK515
               clear HO524
               clear HO518
               clear HB
               clear HO_8
               have HO_9 := n0_
               have BK503 := n1_
               have BK507 := n2_
               have BK515 := n3_
               have HO524 := n4_
               have HO518 := n5_
               have HB := n6_
               have HO521 := n7_
               clear n0_ n1_ n2_ n3_ n4_ n5_ n6_ n7_
               clear ho hb hg hat
               refine Sh.kN hK Sh.cs fun hHeld => ?_
               clear hK K
               exact norm_ (by simp only [putAll, Act.put, List.setIfInBounds_toArray, List.set_cons_zero, List.set_cons_succ]) (hCont (.slice Ao44 t516.length co44, v520, v523) _ ⟨hHeld, (Sh.rl (Kd.R_mono HO518.out (fun _ h => ⟨h.2, h.1.2, h.1.1⟩))), (Sh.rl (Kd.R_mono HO521.out (fun _ h => ⟨h.2.2, h.2.1, h.1⟩))), (Sh.rl (Kd.R_mono HO524.out (fun _ h => ⟨h.1.2, h.2, h.1.1⟩))), (Sh.rl (Kd.R_mono HO_9.out (fun _ h => ⟨h.1.2, h.2, h.1.1⟩))), (Sh.pl BK503.out), (Sh.pl BK507.out), (Sh.pl BK515.out), Sh.bw⟩)
             rintro ⟨v517, v520, v523⟩ w45 ⟨hS_, h0_, h1_, h2_, h3_, h4_, h5_, h6_, h7_⟩
             have n0_ : Aside0 (Kd.R (Kd.int .i64) 3 w45 w.heap.size (fun k_ => some k_ ≠ (v520 : Value).ownBlock ∧ some k_ ≠ (v523 : Value).ownBlock ∧ some k_ ≠ (.slice Ao37 x9_2.length co37 : Value).ownBlock) v517 t516) := ⟨h0_⟩
             have n1_ : Aside0 (Kd.R (Kd.int .i64) 3 w45 w.heap.size (fun k_ => some k_ ≠ (v517 : Value).ownBlock ∧ some k_ ≠ (v523 : Value).ownBlock ∧ some k_ ≠ (.slice Ao37 x9_2.length co37 : Value).ownBlock) v520 y519) := ⟨h1_⟩
             have n2_ : Aside0 (Kd.R (Kd.int .i64) 3 w45 w.heap.size (fun k_ => some k_ ≠ (v517 : Value).ownBlock ∧ some k_ ≠ (v520 : Value).ownBlock ∧ some k_ ≠ (.slice Ao37 x9_2.length co37 : Value).ownBlock) v523 y522) := ⟨h2_⟩
             have n3_ : Aside0 (Kd.R (Kd.int .i64) 3 w45 w.heap.size (fun k_ => some k_ ≠ (v517 : Value).ownBlock ∧ some k_ ≠ (v520 : Value).ownBlock ∧ some k_ ≠ (v523 : Value).ownBlock) (.slice Ao37 x9_2.length co37) x9_2) := ⟨h3_⟩
             have n4_ : Aside0 (w45.heap[gb503]? = some (.cells #[.int .i64 a0_0, .int .i64 a0_1, .slice A0_2 l0_2.length c0_2, .slice (some ad506) l0_3.length c0_3] 33 (0, 0))) := ⟨h4_⟩
             have n5_ : Aside0 (w45.heap[gb507]? = some (.cells #[.slice A506_0 ((rd_T50 l0_3 a1).f0).length c506_0, .slice (some ad514) ((rd_T50 l0_3 a1).f1).length c506_1] 50 (0, 0))) := ⟨h5_⟩
             have n6_ : Aside0 (w45.heap[gb515]? = some (.cells #[.int .i64 ((rd_T52 ((rd_T50 l0_3 a1).f1) x33_2).f0), .slice A514_1 ((rd_T52 ((rd_T50 l0_3 a1).f1) x33_2).f1).length c514_1] 52 (0, 0))) := ⟨h6_⟩
             have n7_ : Aside0 (Below w.heap.size w w45) := ⟨h7_⟩
             clear HO_8
             clear HO_9
             clear BK503
             clear BK507
             clear BK515
             clear HB
             clear h0_ h1_ h2_ h3_ h4_ h5_ h6_ h7_
             have HO518 := n0_
             have HO521 := n1_
             have HO524 := n2_
             have HO_9 := n3_
             have BK503 := n4_
             have BK507 := n5_
             have BK515 := n6_
             have HB := n7_
             clear n0_ n1_ n2_ n3_ n4_ n5_ n6_ n7_
             have hHeld : w45.cell? ⟨gb515, 0, none⟩ = some (.int .i64 ((rd_T52 ((rd_T50 l0_3 a1).f1) x33_2).f0)) ∧ w45.cell? ⟨gb515, 1, none⟩ = some (.slice A514_1 ((rd_T52 ((rd_T50 l0_3 a1).f1) x33_2).f1).length c514_1) := hS_
             obtain ⟨Ao47, co47, eo47⟩ := Kd.R_slice HO524.out
             (first | subst eo47 | (injection eo47 with f1_ f2_ f3_; have f4_ := f1_.symm; have f5_ := f3_.symm; clear f1_ f2_ f3_; subst f4_; subst f5_))
             refine norm_ (a' := ?_) ?_ ?_
             rotate_left
             ·simp only [putAll, Act.put, List.setIfInBounds_toArray, List.set_cons_zero, List.set_cons_succ]
              rfl
             refine one_ (i := 9) (N := some 46) (Sh.nm 12 1023) rfl rfl (one_of HT_.out (by kernel_rfl)) (by decide) (fun K hK => ?_)
             refine Kd.R_append_rows_step (Kd.int .i64) (w0 := w) w.heap.size (by rfl) (.tmp 42) (.tmp 45) 27 3 (.int .i64 0) 8 rfl Try.underlying27 info3 rfl (by decide) (by omega) (.slice Ao37 x9_2.length co37) x9_2 y522 _ _ _ (fun k_ => some k_ ≠ (v517 : Value).ownBlock ∧ some k_ ≠ (v520 : Value).ownBlock ∧ some k_ ≠ (.slice Ao47 y522.length co47 : Value).ownBlock) (fun _ => False) rfl rfl ?aO ?aR (fun _ _ h => h) (fun _ h => h.elim) ?aF ?aB ?aS ?aL ?_
             (case aR => repeat (first | exact (Kd.R_reads' HO524.out).2.2 | (with_reducible first | refine Kd.C_alloc ?_ _ | refine Kd.C_drewN ?_ _ | refine Kd.C_drew ?_)))
             (case aB => exact Sh.bw)
             (case aF => exact (fun k_ hk => ⟨Kd.fresh' (Kd.R_lt (Sh.rl HO518.out)) k_ hk, Kd.fresh' (Kd.R_lt (Sh.rl HO521.out)) k_ hk, Kd.fresh' (Kd.R_lt (Sh.rl HO524.out)) k_ hk⟩))
             (case aO => exact (Sh.rl HO_9.out))
             (case aS => exact (below_size Sh.bw))
             (case aL => have := LMc31.out; omega)
             intro v526 w46 ho hb hg hat
             rw [← Ny525.out] at ho
             have n0_ := am_ (blk_grown (g := gb503) (o := .cells #[.int .i64 a0_0, .int .i64 a0_1, .slice A0_2 l0_2.length c0_2, .slice (some ad506) l0_3.length c0_3] 33 (0, 0)) (Sh.pl BK503.out) hg (Kd.R_ne HO_9.out BK503.out (by decide)))
             have n1_ := am_ (blk_grown (g := gb507) (o := .cells #[.slice A506_0 ((rd_T50 l0_3 a1).f0).length c506_0, .slice (some ad514) ((rd_T50 l0_3 a1).f1).length c506_1] 50 (0, 0)) (Sh.pl BK507.out) hg (Kd.R_ne HO_9.out BK507.out (by decide)))
             have n2_ := am_ (blk_grown (g := gb515) (o := .cells #[.int .i64 ((rd_T52 ((rd_T50 l0_3 a1).f1) x33_2).f0), .slice A514_1 ((rd_T52 ((rd_T50 l0_3 a1).f1) x33_2).f1).length c514_1] 52 (0, 0)) (Sh.pl BK515.out) hg (Kd.R_ne HO_9.out BK515.out (by decide)))
             have n3_ := am_ (Kd.R_after (ok := (fun k_ => some k_ ≠ (v520 : Value).ownBlock ∧ some k_ ≠ (.slice Ao47 y522.length co47 : Value).ownBlock)) (Sh.rl (Kd.R_mono HO518.out (fun _ h => ⟨⟨h.1, h.2.1⟩, h.2.2⟩))) hg hat)
             have n4_ := am_ (Kd.R_after (ok := (fun k_ => some k_ ≠ (v517 : Value).ownBlock ∧ some k_ ≠ (.slice Ao47 y522.length co47 : Value).ownBlock)) (Sh.rl (Kd.R_mono HO521.out (fun _ h => ⟨⟨h.1, h.2.1⟩, h.2.2⟩))) hg hat)
             have n5_ := am_ (Kd.R_after (ok := (fun k_ => some k_ ≠ (v517 : Value).ownBlock ∧ some k_ ≠ (v520 : Value).ownBlock)) (Sh.rl (Kd.R_mono HO524.out (fun _ h => ⟨⟨h.1, h.2.1⟩, h.2.2⟩))) hg hat)
             have n6_ := am_ hb
             have n7_ := am_ ho
             clear BK503
             clear BK507
             clear BK515
             clear HO518
             clear HO521
             clear HO524
             clear HB
             clear HO_9
             have BK503 := n0_
             have BK507 := n1_
             have BK515 := n2_
             have HO518 := n3_
             have HO521 := n4_
             have HO524 := n5_
             have HB := n6_
             have HO527 := n7_
             clear n0_ n1_ n2_ n3_ n4_ n5_ n6_ n7_
             clear ho hb hg hat
             refine Sh.kN hK Sh.cs fun hHeld => ?_
             clear hK K
             refine Sh.qA 10 ?_; refine Sh.qA 11 ?_
             refine done_ (done_of HT_.out (by kernel_rfl)) ?_
             try go_wp2
             go_roundg k2
             case measure => have := HJ2.out; have := HK2.out; omega
             case rel => exact ⟨(y519), (y525), (wrap64 (x33_2 + 1)), (Sh.es), H', ⟨by have := HJ2.out; have := HK2.out; omega⟩, ⟨Sh.rl (Kd.R_mono HO521.out (fun _ hk => hk.2))⟩, ⟨Sh.rl (Kd.R_mono HO527.out (fun _ hk => hk.2.1))⟩, ⟨by refine Sh.pl ?_; exact BK503.out⟩, ⟨by refine Sh.pl ?_; exact BK507.out⟩, ⟨Sh.bw⟩⟩
            ·rw [if_neg c31] at H
             exact absurd H (by simp)
           ·rw [if_neg c30] at H
            exact absurd H (by simp)
          ·rw [if_neg c28] at H
           exact absurd H (by simp)
         ·rw [if_neg c27] at H
          exact absurd H (by simp)
        ·rw [if_neg c26] at H
         have c26b0 := decide_eq_false c26
         clear c26
         obtain ⟨t528, A48, H⟩ := Sh.ba H
         obtain ⟨t529, A49, H⟩ := Sh.ba H
         simp only [Option.some.injEq, Prod.mk.injEq] at H
         obtain ⟨rfl, rfl, rfl⟩ := H
         obtain ⟨Ao50, co50, eo50⟩ := Kd.R_slice HO_8.out
         subst eo50
         go_wp2_with (first | ((with_reducible refine Sh.k 27 ?_); refine Sh.gL (some 49) Try.func27 #[.slice Ao50 x8_2.length co50] (h := ?_); (with_reducible refine (slices_Sort_int_int.calls (fun k_ => some k_ = (.slice Ao50 x8_2.length co50 : Value).ownBlock) (.slice Ao50 x8_2.length co50) x8_2 t528 w _ ?side1 ?side2 A48.out).mono ?_); (case side1 => repeat (first | (with_reducible first | exact HB.out | apply below_alloc | apply pw_below_drewN | apply below_drew1 | refine below_set ?_ GE503.out | refine below_set ?_ GE507.out) | exact HB.out)); (case side2 => exact Kd.R_tight rfl HO_8.out); rintro e w51 ⟨rfl, hy0, hb, hkp⟩; refine ⟨_, rfl, ?_⟩; replace HO_9 := am_ (Kd.R_mono (ok' := fun k_ => some k_ ≠ (.slice Ao50 x8_2.length co50 : Value).ownBlock) (Kd.R_keptB (HO_9.out) hkp (fun k_ hk_ hs_ => (hk_) hs_)) (fun k_ hk_ => hk_.1)); replace BK503 := am_ (blk_kept (Sh.pl BK503.out) hkp (fun hs_ => (fun e_ => (Kd.R_ne HO_8.out BK503.out (by decide)) e_) hs_)); replace BK507 := am_ (blk_kept (Sh.pl BK507.out) hkp (fun hs_ => (fun e_ => (Kd.R_ne HO_8.out BK507.out (by decide)) e_) hs_)); replace HO_8 := am_ (Kd.R_reok rfl hy0 (fun k_ e_ => HO_8.out.1 k_ e_)); replace HB := am_ hb; (try clear hb); (try clear hkp); (try clear hy0)) | ((with_reducible refine Sh.k 28 ?_); refine Sh.gL (some 51) Try.func28 #[.slice Ao50 x8_2.length co50] (h := ?_); (with_reducible refine (slices_Compact_int_int.calls (fun k_ => some k_ = (.slice Ao50 x8_2.length co50 : Value).ownBlock) (.slice Ao50 x8_2.length co50) t528 t529 w _ ?side1 ?side2 A49.out).mono ?_); (case side1 => repeat (first | (with_reducible first | exact HB.out | apply below_alloc | apply pw_below_drewN | apply below_drew1 | refine below_set ?_ GE503.out | refine below_set ?_ GE507.out) | exact HB.out)); (case side2 => exact Kd.R_tight rfl HO_8.out); rintro e w52 ⟨v530, rfl, ho0, hb, hkp⟩; refine ⟨_, rfl, ?_⟩; have n0_ := am_ (Kd.R_mono (ok' := fun k_ => some k_ ≠ (v530 : Value).ownBlock) (Kd.R_keptB (HO_9.out) hkp (fun k_ hk_ hs_ => (hk_) hs_)) (fun k_ hk_ => fun e_ => Or.elim (ho0.1 k_ e_.symm) (fun hs_ => hk_.2.1 hs_) (fun hn_ => Nat.not_le.2 hk_.2.2 hn_))); have n1_ := am_ (blk_kept (Sh.pl BK503.out) hkp (fun hs_ => (fun e_ => (Kd.R_ne HO_8.out BK503.out (by decide)) e_) hs_)); have n2_ := am_ (blk_kept (Sh.pl BK507.out) hkp (fun hs_ => (fun e_ => (Kd.R_ne HO_8.out BK507.out (by decide)) e_) hs_)); have n3_ := am_ (Kd.R_mono (ok' := fun k_ => some k_ ≠ (u9 : Value).ownBlock) ho0 (fun k_ hk_ => Or.elim hk_ (fun hs_ => fun e_ => (((HO_9.out).1 k_ e_.symm)) hs_) (fun hn_ => (Kd.fresh' (Kd.R_lt (Sh.rl HO_9.out)) k_ hn_)))); have n4_ := am_ hb; clear HO_9; clear BK503; clear BK507; clear HB; clear HO_8; have HO_9 := n0_; have BK503 := n1_; have BK507 := n2_; have HO531 := n3_; have HB := n4_; clear n0_ n1_ n2_ n3_ n4_; (try clear hb); (try clear hkp); (try clear ho0)))
         go_ret3
         exact ⟨_, _, by first | rfl | (simp [errW_none, errW_some] <;> rfl) | (simp [*, errW_none, errW_some] <;> rfl), Sh.rl HO531.out, Sh.rl HO_9.out, Sh.bw⟩
     ·rw [if_neg c16] at H
      exact absurd H (by simp)
    ·rw [if_neg c15] at H
     exact absurd H (by simp)
def slices_Index_int_int.l0 : Nat → List Int → Int → Int → Int → Option (Int)
 | 0, _, _, _, _ => none
 | k + 1, x0, x1, x7, x8 => if x8 < x7 then (if 0 ≤ x8 then (if x8 < (x0.length : Int) then (if x1 = (rd x0 x8) then (some x8) else (slices_Index_int_int.l0 k x0 x1 x7 (wrap64 (x8 + 1)))) else (none)) else (none)) else (some (-1))
def slices_Index_int_int.f (k : Nat) (l0 : List Int) (a1 : Int) : Option (Int) := slices_Index_int_int.l0 k l0 a1 (l0.length : Int) 0
theorem slices_Index_int_int.mono_l : ∀ k, (∀ y0 y1 y2 y3, LeO (slices_Index_int_int.l0 k y0 y1 y2 y3) (slices_Index_int_int.l0 (k + 1) y0 y1 y2 y3))
 | 0 => fun _ _ _ _ r h => by simp [slices_Index_int_int.l0] at h
 | k + 1 => by
  have ih0 := slices_Index_int_int.mono_l k
  ·intro y0 y1 y2 y3
   unfold slices_Index_int_int.l0
   repeat' with_reducible first | apply ih0 | exact LeO.refl _ | exact LeO.none _ | apply LeO.ite | refine LeO.bind ?_ fun _ => ?_
theorem slices_Index_int_int.mono : ∀ a0 a1 k, LeO (slices_Index_int_int.f k a0 a1) (slices_Index_int_int.f (k + 1) a0 a1) := by
 intro a0 a1 k
 have ih0 := slices_Index_int_int.mono_l k
 unfold slices_Index_int_int.f
 repeat' with_reducible first | apply ih0 | exact LeO.refl _ | exact LeO.none _ | apply LeO.ite | refine LeO.bind ?_ fun _ => ?_
theorem slices_Index_int_int.calls (k : Nat) (A0 : Option Addr) (c0 : Nat) (l0 : List Int) (a1 : Int) (r : Int) (w : World) (hr0 : Kd.C (Kd.int .i64) w A0 l0.length l0) (hc0 : l0.length ≤ c0) (h : slices_Index_int_int.f k l0 a1 = some r) :
  Calls Try.prog 56 #[.slice A0 l0.length c0, .int .i64 a1] w fun e w' => e = .returned (.int .i64 r) ∧ Drawn0 w w' := by
 have HR0 := am_ hr0
 have HC0 := am_ hc0
 clear hr0 hc0
 have H := h
 clear h
 unfold slices_Index_int_int.f at H
 have H' := am_ H
 clear H
 go_enter Try.func56, Try.ntmps56
 go_wp2
 go_loopg [8] k (fun kq v8 w' => ∃ (x8_1 : Int), v8 = .int .i64 x8_1 ∧ Aside0 (slices_Index_int_int.l0 kq l0 a1 (l0.length : Int) x8_1 = some r) ∧ Aside0 (kq ≤ k) ∧ Drawn0 w w')
 case atStart => exact ⟨(0), (Sh.es), H', ⟨Nat.le_refl _⟩, Sh.dr⟩
 case round =>
  clear H'
  obtain ⟨x8_1, rfl, HA, HK1, ⟨m1, rfl⟩⟩ := hrel
  cases gk with
  | zero => exact absurd HA.out (by simp [slices_Index_int_int.l0])
  | succ k1 =>
   have H := HA.out
   clear HA
   simp only [slices_Index_int_int.l0] at H
   by_cases c3 : x8_1 < (l0.length : Int)
   ·rw [if_pos c3] at H
    have c3b0 := decide_eq_true c3
    clear c3
    by_cases c4 : 0 ≤ x8_1
    ·rw [if_pos c4] at H
     have c4b0 := decide_eq_true c4
     clear c4
     by_cases c5 : x8_1 < (l0.length : Int)
     ·rw [if_pos c5] at H
      have c5b0 := decide_eq_true c5
      clear c5
      by_cases c6 : a1 = (rd l0 x8_1)
      ·rw [if_pos c6] at H
       have c6b0 : (a1 == (rd l0 x8_1)) = true := beq_iff_eq.mpr c6
       have c6b1 : (a1 != (rd l0 x8_1)) = false := bne_eq_false_iff_eq.mpr c6
       clear c6
       obtain rfl := Option.some.inj H
       have p532 : 0 ≤ (x8_1 : Int) := Sh.od
       have q532 : x8_1 < (l0.length : Int) := Sh.od
       obtain ⟨ad532, e532, hx532_0⟩ := Kd.at_int HR0.out x8_1 p532 q532
       cases e532
       replace p532 := eq_true p532
       replace q532 := eq_true q532
       go_wp2
       go_ret
       exact ⟨Sh.es, Sh.dr⟩
      ·rw [if_neg c6] at H
       have c6b0 : (a1 == (rd l0 x8_1)) = false := beq_eq_false_iff_ne.mpr c6
       have c6b1 : (a1 != (rd l0 x8_1)) = true := bne_iff_ne.mpr c6
       have H' := am_ H
       clear H
       have p532 : 0 ≤ (x8_1 : Int) := Sh.od
       have q532 : x8_1 < (l0.length : Int) := Sh.od
       obtain ⟨ad532, e532, hx532_0⟩ := Kd.at_int HR0.out x8_1 p532 q532
       cases e532
       replace p532 := eq_true p532
       replace q532 := eq_true q532
       go_wp2
       go_roundg k1
       case measure => have := HK1.out; omega
       case rel => exact ⟨(wrap64 (x8_1 + 1)), (Sh.es), H', ⟨by have := HK1.out; omega⟩, Sh.dr⟩
     ·rw [if_neg c5] at H
      exact absurd H (by simp)
    ·rw [if_neg c4] at H
     exact absurd H (by simp)
   ·rw [if_neg c3] at H
    have c3b0 := decide_eq_false c3
    clear c3
    obtain rfl := Option.some.inj H
    go_wp2
    go_ret
    exact ⟨Sh.es, Sh.dr⟩
def slices_Contains_int_int.f (k : Nat) (l0 : List Int) (a1 : Int) : Option (Bool) := (slices_Index_int_int.f k l0 a1).bind fun t533 => (some (decide (t533 ≥ 0)))
theorem slices_Contains_int_int.mono : ∀ a0 a1 k, LeO (slices_Contains_int_int.f k a0 a1) (slices_Contains_int_int.f (k + 1) a0 a1) := by
 intro a0 a1 k
 unfold slices_Contains_int_int.f
 repeat' with_reducible first | apply slices_Index_int_int.mono | exact LeO.refl _ | exact LeO.none _ | apply LeO.ite | refine LeO.bind ?_ fun _ => ?_
theorem slices_Contains_int_int.calls (k : Nat) (A0 : Option Addr) (c0 : Nat) (l0 : List Int) (a1 : Int) (r : Bool) (w : World) (hr0 : Kd.C (Kd.int .i64) w A0 l0.length l0) (hc0 : l0.length ≤ c0) (h : slices_Contains_int_int.f k l0 a1 = some r) :
  Calls Try.prog 37 #[.slice A0 l0.length c0, .int .i64 a1] w fun e w' => e = .returned (.bool r) ∧ Drawn0 w w' := by
 have HR0 := am_ hr0
 have HC0 := am_ hc0
 clear hr0 hc0
 have H := h
 clear h
 unfold slices_Contains_int_int.f at H
 obtain ⟨t533, A3, H⟩ := Sh.ba H
 obtain rfl := Option.some.inj H
 go_enter Try.func37, Try.ntmps37
 go_wp2_with (first | ((with_reducible refine Sh.k 56 ?_); refine Sh.gL (some 7) Try.func56 #[.slice A0 l0.length c0, .int .i64 a1] (h := ?_); (with_reducible refine (slices_Index_int_int.calls k _ _ l0 a1 t533 _ ?side1 ?side2 A3.out).mono ?_); (case side1 => repeat (first | exact HR0.out | (with_reducible first | refine Kd.C_alloc ?_ _ | refine Kd.C_drewN ?_ _ | refine Kd.C_drew ?_))); (case side2 => exact HC0.out); rintro e w' ⟨rfl, ⟨nd, rfl⟩⟩; refine ⟨_, rfl, ?_⟩))
 go_ret
 exact ⟨Sh.es, Sh.dr⟩
def impl_Apart_1_1.f (k : Nat) (a0 : Int) (l1_0 : List Int) : Option (Bool) := (slices_Contains_int_int.f k l1_0 a0).bind fun t534 => (some t534)
theorem impl_Apart_1_1.mono : ∀ a0 a1 k, LeO (impl_Apart_1_1.f k a0 a1) (impl_Apart_1_1.f (k + 1) a0 a1) := by
 intro a0 a1 k
 unfold impl_Apart_1_1.f
 repeat' with_reducible first | apply slices_Contains_int_int.mono | exact LeO.refl _ | exact LeO.none _ | apply LeO.ite | refine LeO.bind ?_ fun _ => ?_
theorem impl_Apart_1_1.calls (k : Nat) (a0 : Int) (bp1 : Nat) (A1_0 : Option Addr) (c1_0 : Nat) (l1_0 : List Int) (r : Bool) (w : World) (hr1_0 : Kd.C (Kd.int .i64) w A1_0 l1_0.length l1_0) (hc1_0 : l1_0.length ≤ c1_0) (hb1 : w.heap[bp1]? = some (.cells #[.slice A1_0 l1_0.length c1_0] 27 (0, 0))) (h : impl_Apart_1_1.f k a0 l1_0 = some r) :
  Calls Try.prog 36 #[.int .i64 a0, .pointer (some ⟨bp1, 0, none⟩)] w fun e w' => e = .returned (.bool r) ∧ Drawn0 w w' := by
 have HR1_0 := am_ hr1_0
 have HC1_0 := am_ hc1_0
 clear hr1_0 hc1_0
 have HX1 := am_ hb1
 clear hb1
 have H := h
 clear h
 unfold impl_Apart_1_1.f at H
 obtain ⟨t534, A3, H⟩ := Sh.ba H
 obtain rfl := Option.some.inj H
 have hcz4_0 : w.cell? ⟨bp1, 0, none⟩ = some (.slice A1_0 l1_0.length c1_0) := (blk_cell HX1.out 0).trans rfl
 have hfz4_0 := blk_frozen HX1.out 0
 go_enter Try.func36, Try.ntmps36
 go_wp2_with (first | ((with_reducible refine Sh.k 37 ?_); refine Sh.gL (some 6) Try.func37 #[.slice A1_0 l1_0.length c1_0, .int .i64 a0] (h := ?_); (with_reducible refine (slices_Contains_int_int.calls k _ _ l1_0 a0 t534 _ ?side1 ?side2 A3.out).mono ?_); (case side1 => repeat (first | exact HR1_0.out | (with_reducible first | refine Kd.C_alloc ?_ _ | refine Kd.C_drewN ?_ _ | refine Kd.C_drew ?_))); (case side2 => exact HC1_0.out); rintro e w' ⟨rfl, ⟨nd, rfl⟩⟩; refine ⟨_, rfl, ?_⟩))
 go_ret
 exact ⟨Sh.es, Sh.dr⟩
def slices_ContainsFunc_int_int_by_impl_Apart_1_1.f (k : Nat) (l0 : List Int) (l1_0 : List Int) : Option (Bool) := anyO (fun x_ => impl_Apart_1_1.f k x_ l1_0) l0
theorem slices_ContainsFunc_int_int_by_impl_Apart_1_1.mono : ∀ a0 a1 k, LeO (slices_ContainsFunc_int_int_by_impl_Apart_1_1.f k a0 a1) (slices_ContainsFunc_int_int_by_impl_Apart_1_1.f (k + 1) a0 a1) := by
 intro a0 a1 k
 unfold slices_ContainsFunc_int_int_by_impl_Apart_1_1.f
 with_reducible exact anyO_mono (fun x_ => impl_Apart_1_1.mono x_ a1 k) a0
theorem slices_ContainsFunc_int_int_by_impl_Apart_1_1.calls (k : Nat) (A0 : Option Addr) (c0 : Nat) (l0 : List Int) (bp1 : Nat) (A1_0 : Option Addr) (c1_0 : Nat) (l1_0 : List Int) (r : Bool) (w : World) (hr0 : Kd.C (Kd.int .i64) w A0 l0.length l0) (hc0 : l0.length ≤ c0) (hr1_0 : Kd.C (Kd.int .i64) w A1_0 l1_0.length l1_0) (hc1_0 : l1_0.length ≤ c1_0) (hb1 : w.heap[bp1]? = some (.cells #[.slice A1_0 l1_0.length c1_0] 27 (0, 0))) (h : slices_ContainsFunc_int_int_by_impl_Apart_1_1.f k l0 l1_0 = some r) :
  Calls Try.prog 35 #[.slice A0 l0.length c0, .func (.func 36) #[] #[.pointer (some ⟨bp1, 0, none⟩)]] w fun e w' => e = .returned (.bool r) ∧ Below w.heap.size w w' := by
 refine slices_ContainsFunc_int_int.gen 36 #[.pointer (some ⟨bp1, 0, none⟩)] (enters_of Try.func36 (by kernel_rfl) rfl) _ A0 c0 l0 r w hr0 hc0 ?_ h
 intro W x b hB_ hin_ hq_
 refine (impl_Apart_1_1.calls k x bp1 _ _ l1_0 b W (Kd.C_below hr1_0 hB_) hc1_0 ((hB_.block _ (blk_lt hb1)).trans hb1) hq_).mono ?_
 rintro e w' ⟨rfl, hd_⟩
 exact ⟨rfl, hd_.below⟩
def impl_Apart_1.f (k : Nat) (l0 : List Int) (l1 : List Int) : Option (Bool) := (slices_ContainsFunc_int_int_by_impl_Apart_1_1.f k l0 l1).bind fun t536 => (some t536)
theorem impl_Apart_1.mono : ∀ a0 a1 k, LeO (impl_Apart_1.f k a0 a1) (impl_Apart_1.f (k + 1) a0 a1) := by
 intro a0 a1 k
 unfold impl_Apart_1.f
 repeat' with_reducible first | apply slices_ContainsFunc_int_int_by_impl_Apart_1_1.mono | exact LeO.refl _ | exact LeO.none _ | apply LeO.ite | refine LeO.bind ?_ fun _ => ?_
theorem impl_Apart_1.calls (k : Nat) (A0 : Option Addr) (c0 : Nat) (l0 : List Int) (A1 : Option Addr) (c1 : Nat) (l1 : List Int) (r : Bool) (w : World) (hr0 : Kd.C (Kd.int .i64) w A0 l0.length l0) (hc0 : l0.length ≤ c0) (hr1 : Kd.C (Kd.int .i64) w A1 l1.length l1) (hc1 : l1.length ≤ c1) (h : impl_Apart_1.f k l0 l1 = some r) :
  Calls Try.prog 34 #[.slice A0 l0.length c0, .slice A1 l1.length c1] w fun e w' => e = .returned (.bool r) ∧ Below w.heap.size w w' := by
 have HR0 := am_ hr0
 have HC0 := am_ hc0
 clear hr0 hc0
 have HR1 := am_ hr1
 have HC1 := am_ hc1
 clear hr1 hc1
 have HB := am_ (Below.refl w.heap.size w)
 have H := h
 clear h
 unfold impl_Apart_1.f at H
 obtain ⟨t536, A3, H⟩ := Sh.ba H
 obtain rfl := Option.some.inj H
 go_enter Try.func34, Try.ntmps34
 go_wp2_with (first | ((with_reducible refine Sh.d 3 ?_); refine Sh.bz w (N := 3) (cs := #[.slice A1 l1.length c1]) (t := 27) (h := ?_); clear HB; intro gb535 w4 BK535 GE535 HB) | ((with_reducible refine Sh.k 35 ?_); refine Sh.gL (some 7) Try.func35 #[.slice A0 l0.length c0, .func (.func 36) #[] #[.pointer (some ⟨gb535, 0, none⟩)]] (h := ?_); (with_reducible refine (slices_ContainsFunc_int_int_by_impl_Apart_1_1.calls k _ _ l0 gb535 A1 c1 l1 t536 _ (Sh.cB HR0.out) HC0.out (Sh.cB HR1.out) HC1.out ?side5 A3.out).mono ?_); (case side5 => refine Sh.pl ?_; exact BK535.out); rintro e w5 ⟨rfl, hb⟩; refine ⟨_, rfl, ?_⟩; replace BK535 := Sh.ab BK535 hb; replace HB := Sh.hb hb; (try clear hb); (try clear hb2); (try clear hk); (try clear hi)))
 go_ret
 exact ⟨Sh.eR, Sh.bw⟩
end Go.Proofs.Ytjenmoopbmklfaa.P
