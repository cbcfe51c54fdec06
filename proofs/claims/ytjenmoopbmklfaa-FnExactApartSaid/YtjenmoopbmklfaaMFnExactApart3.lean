/- Go functions of this seat as Lean functions, and the proofs that the calls come to what these say; printed by a program of this session. No condition. -/
import Derived.Test.YtjenmoopbmklfaaP0
import Derived.Test.YtjenmoopbmklfaaMFnExactApart2
set_option linter.unusedVariables false
set_option linter.unusedSimpArgs false
set_option maxHeartbeats 40000000
set_option maxRecDepth 100000
namespace Go.Proofs.Ytjenmoopbmklfaa.P
open Go.RowKit Go.Proofs.YtjenmoopbmklfaaW.PrintWords Go.Proofs.YtjenmoopbmklfaaW.PrintLast Go.Proofs.YtjenmoopbmklfaaW.PrintMore Go.Proofs.Ytjenmoopbmklfaa.Hof
attribute [local go_sem] max2_int min2_int max_two min_two max_three min_three max_four min_four
mutual
def spec_l7Command.j0 : Nat → Bool → Int → Int → List (S73) → List (S50) → List (S73) → List (S52) → Option (Bool)
 | 0, _, _, _, _, _, _, _ => none
 | k + 1, x19, x216000, x216001, x216002, x216003, x217000, x217001 => if x19 = true then (some false) else (spec_l7Command.l0 k x217001 (x217001.length : Int) 0 x216000 x216001 x216002 x216003 x217000 x217001)
def spec_l7Command.l0 : Nat → List (S52) → Int → Int → Int → Int → List (S73) → List (S50) → List (S73) → List (S52) → Option (Bool)
 | 0, _, _, _, _, _, _, _, _, _ => none
 | k + 1, x21, x22, x23, x216000, x216001, x216002, x216003, x217000, x217001 => if x23 < x22 then (if 0 ≤ x23 then (if x23 < (x21.length : Int) then ((spec_l1In.f ((rd_T52 x21 x23).f0) 0 (wrap64 (x216001 - 1))).bind fun t220 => (if t220 = true then (if x23 > 0 then (if 0 ≤ (wrap64 (x23 - 1)) then (if (wrap64 (x23 - 1)) < (x217001.length : Int) then (if ((rd_T52 x217001 (wrap64 (x23 - 1))).f0) ≥ ((rd_T52 x21 x23).f0) then (some false) else ((spec_l2Kind.f k x216000 x216001 ((rd_T52 x21 x23).f1)).bind fun t222 => (if t222 = 1 then (spec_l7Command.l0 k x21 x22 (wrap64 (x23 + 1)) x216000 x216001 x216002 x216003 x217000 x217001) else (some false)))) else (none)) else (none)) else ((spec_l2Kind.f k x216000 x216001 ((rd_T52 x21 x23).f1)).bind fun t223 => (if t223 = 1 then (spec_l7Command.l0 k x21 x22 (wrap64 (x23 + 1)) x216000 x216001 x216002 x216003 x217000 x217001) else (some false)))) else (some false))) else (none)) else (none)) else (some true)
end
def spec_l7Command.f (k : Nat) (a0_0 : Int) (a0_1 : Int) (l0_2 : List (S73)) (l0_3 : List (S50)) (l1_0 : List (S73)) (l1_1 : List (S52)) : Option (Bool) := (spec_l7Asks.f k a0_0 a0_1 l0_2 l0_3 l1_0).bind fun t217 => (if t217 = true then (spec_l7Command.j0 k (decide ((l1_1.length : Int) > a0_1)) a0_0 a0_1 l0_2 l0_3 l1_0 l1_1) else (spec_l7Command.j0 k true a0_0 a0_1 l0_2 l0_3 l1_0 l1_1))
theorem spec_l7Command.mono_l : ∀ k, (∀ y0 y1 y2 y3 y4 y5 y6, LeO (spec_l7Command.j0 k y0 y1 y2 y3 y4 y5 y6) (spec_l7Command.j0 (k + 1) y0 y1 y2 y3 y4 y5 y6)) ∧ (∀ y0 y1 y2 y3 y4 y5 y6 y7 y8, LeO (spec_l7Command.l0 k y0 y1 y2 y3 y4 y5 y6 y7 y8) (spec_l7Command.l0 (k + 1) y0 y1 y2 y3 y4 y5 y6 y7 y8))
 | 0 => ⟨fun _ _ _ _ _ _ _ r h => by simp [spec_l7Command.j0] at h, fun _ _ _ _ _ _ _ _ _ r h => by simp [spec_l7Command.l0] at h⟩
 | k + 1 => by
  obtain ⟨ih0, ih1⟩ := spec_l7Command.mono_l k
  and_intros <;> intros
  all_goals (first | unfold spec_l7Command.j0 | unfold spec_l7Command.l0)
  all_goals repeat' with_reducible first | apply ih0 | apply ih1 | apply spec_l2Kind.mono | apply spec_l7Asks.mono | exact LeO.refl _ | exact LeO.none _ | apply LeO.ite | refine LeO.bind ?_ fun _ => ?_
theorem spec_l7Command.mono : ∀ a0 a1 a2 a3 a4 a5 k, LeO (spec_l7Command.f k a0 a1 a2 a3 a4 a5) (spec_l7Command.f (k + 1) a0 a1 a2 a3 a4 a5) := by
 intro a0 a1 a2 a3 a4 a5 k
 obtain ⟨ih0, ih1⟩ := spec_l7Command.mono_l k
 unfold spec_l7Command.f
 repeat' with_reducible first | apply ih0 | apply ih1 | apply spec_l2Kind.mono | apply spec_l7Asks.mono | exact LeO.refl _ | exact LeO.none _ | apply LeO.ite | refine LeO.bind ?_ fun _ => ?_
def spec_l7Command.T6 : Bool × List (List Nat × List Nat) := (true, [([], []), ([0], [0]), ([], []), ([2], [2]), ([3], [3]), ([1, 4], [1, 4]), ([5], [5]), ([6, 5], [6]), ([7], [7]), ([8, 7], [7, 8]), ([9, 7, 7], [7, 9]), ([10], [10]), ([11, 10], [10, 11]), ([10], [10]), ([13, 10], [10, 13]), ([12, 14, 10], [10, 12, 14]), ([15, 10], [10, 15]), ([16, 10], [10, 16]), ([10], [10]), ([18, 10], [10, 18]), ([17, 19, 10], [10, 17, 19]), ([10, 20, 7], [7, 10, 20]), ([7, 21], [7, 21]), ([22, 10], [22]), ([23], [23]), ([24, 23], [23, 24]), ([23], [23]), ([26, 23], [23, 26]), ([23], [23]), ([28, 23], [23, 28]), ([25, 27, 29, 23, 23], [23, 25, 27, 29]), ([30, 23], [23, 30]), ([23, 31], [23, 31])])
def spec_l7Command.B6 : List Nat := [0, 1, 0, 4, 12, 31, 63, 127, 255, 511, 1023, 2047, 4095, 2047, 10239, 32767, 65535, 131071, 2047, 264191, 1048575, 2097151, 4194303, 8388607, 16777215, 33554431, 16777215, 83886079, 16777215, 285212671, 1073741823, 2147483647, 4294967295]
theorem spec_l7Command.tab6 : rtab .any (opsOf Try.f40 6) = spec_l7Command.T6 := by kernel_rfl
theorem spec_l7Command.bits6 : waitsOk spec_l7Command.T6.2 spec_l7Command.B6 = true := by kernel_rfl
theorem spec_l7Command.calls (k : Nat) (a0_0 : Int) (a0_1 : Int) (A0_2 : Option Addr) (c0_2 : Nat) (l0_2 : List (S73)) (A0_3 : Option Addr) (c0_3 : Nat) (l0_3 : List (S50)) (A1_0 : Option Addr) (c1_0 : Nat) (l1_0 : List (S73)) (A1_1 : Option Addr) (c1_1 : Nat) (l1_1 : List (S52)) (r : Bool) (w : World) (hr0_2 : Kd.C k73 w A0_2 l0_2.length l0_2) (hc0_2 : l0_2.length ≤ c0_2) (hr0_3 : Kd.C k50 w A0_3 l0_3.length l0_3) (hc0_3 : l0_3.length ≤ c0_3) (hr1_0 : Kd.C k73 w A1_0 l1_0.length l1_0) (hc1_0 : l1_0.length ≤ c1_0) (hr1_1 : Kd.C k52 w A1_1 l1_1.length l1_1) (hc1_1 : l1_1.length ≤ c1_1) (h : spec_l7Command.f k a0_0 a0_1 l0_2 l0_3 l1_0 l1_1 = some r) :
  Calls Try.prog 40 #[.agg #[.int .i64 a0_0, .int .i64 a0_1, .slice A0_2 l0_2.length c0_2, .slice A0_3 l0_3.length c0_3], .agg #[.slice A1_0 l1_0.length c1_0, .slice A1_1 l1_1.length c1_1]] w fun e w' => e = .returned (.bool r) ∧ Below w.heap.size w w' := by
 have hu33 := Try.underlying33
 have hu50 := Try.underlying50
 have hu52 := Try.underlying52
 have HR0_2 := am_ hr0_2
 have HC0_2 := am_ hc0_2
 clear hr0_2 hc0_2
 have HR0_3 := am_ hr0_3
 have HC0_3 := am_ hc0_3
 clear hr0_3 hc0_3
 have HR1_0 := am_ hr1_0
 have HC1_0 := am_ hc1_0
 clear hr1_0 hc1_0
 have HR1_1 := am_ hr1_1
 have HC1_1 := am_ hc1_1
 clear hr1_1 hc1_1
 have HB := am_ (Below.refl w.heap.size w)
 have H := h
 clear h
 unfold spec_l7Command.f at H
 have HC3 := am_ H
 clear H
 go_enter Try.func40, Try.ntmps40
 go_upto_region 1 with (first | ((with_reducible refine Sh.d 2 ?_); (try (refine gate_guard (by rfl) ?_; dsimp only)); refine Sh.bz w (N := 2) (cs := #[.int .i64 a0_0, .int .i64 a0_1, .slice A0_2 l0_2.length c0_2, .slice A0_3 l0_3.length c0_3]) (t := 33) (h := ?_); clear HB; intro gb215 w4 BK215 GE215 HB) | ((with_reducible refine Sh.d 3 ?_); (try (refine gate_guard (by rfl) ?_; dsimp only)); refine Sh.bx (N := 3) (cs := #[.slice A1_0 l1_0.length c1_0, .slice A1_1 l1_1.length c1_1]) (t := 50) (h := ?_); intro gb216 hg w5 hbox hb; have BK216 := am_ hbox; have GE216 := Sh.ag w hg; replace HB := Sh.hb hb; have NB215_216 := am_ (Sh.nl hg BK215.out); have NB216_215 := am_ (Sh.ng hg BK215.out); replace BK215 := Sh.ab BK215 hb; clear hb hbox hg))
 (try simp only [Act.put, List.setIfInBounds_toArray, List.set_cons_zero, List.set_cons_succ])
 go_cut [19] (fun v19 wc => ∃ (kq : Nat) (x19_2 : Bool), v19 = .bool x19_2 ∧ Aside0 (spec_l7Command.j0 kq x19_2 a0_0 a0_1 l0_2 l0_3 l1_0 l1_1 = some r) ∧ Aside0 (kq ≤ k) ∧ Aside0 (wc.heap[gb215]? = some (.cells #[.int .i64 a0_0, .int .i64 a0_1, (.slice A0_2 l0_2.length c0_2), (.slice A0_3 l0_3.length c0_3)] 33 (0, 0))) ∧ Aside0 (wc.heap[gb216]? = some (.cells #[(.slice A1_0 l1_0.length c1_0), (.slice A1_1 l1_1.length c1_1)] 50 (0, 0))) ∧ Aside0 (Below w.heap.size w wc))
 case first =>
  have H := HC3.out
  clear HC3
  obtain ⟨t217, A6, H⟩ := Sh.ba H
  by_cases c7 : t217 = true
  ·subst c7
   rw [if_pos rfl] at H
   have H' := am_ H
   clear H
   have hnb8 := NB215_216.out
   have hnc8 := NB216_215.out
   have hcz9_0 := Sh.bc BK215.out 0
   have hcz9_1 := Sh.bc BK215.out 1
   have hcz9_2 := Sh.bc BK215.out 2
   have hcz9_3 := Sh.bc BK215.out 3
   have hfz9_0 := blk_frozen BK215.out 0
   have hfz9_1 := blk_frozen BK215.out 1
   have hfz9_2 := blk_frozen BK215.out 2
   have hfz9_3 := blk_frozen BK215.out 3
   have hcz10_0 := Sh.bc BK216.out 0
   have hcz10_1 := Sh.bc BK216.out 1
   have hfz10_0 := blk_frozen BK216.out 0
   have hfz10_1 := blk_frozen BK216.out 1
   go_wp2_with (first | ((with_reducible refine Sh.k 39 ?_); refine Sh.gB (some 10) Try.func39 #[.agg #[.int .i64 a0_0, .int .i64 a0_1, .slice A0_2 l0_2.length c0_2, .slice A0_3 l0_3.length c0_3], .slice A1_0 l1_0.length c1_0] (spec_l7Asks.calls k a0_0 a0_1 _ _ l0_2 _ _ l0_3 _ _ l1_0 true _ (Sh.cB HR0_2.out) HC0_2.out (Sh.cB HR0_3.out) HC0_3.out (Sh.cB HR1_0.out) HC1_0.out A6.out) fun w11 hb => ?_; replace BK215 := Sh.ab BK215 hb; replace BK216 := Sh.ab BK216 hb; replace HB := Sh.hb hb; (try clear hb); (try clear hb2); (try clear hk); (try clear hi); obtain ⟨hcz12_0, hcz12_1, hfz12_0, hfz12_1⟩ := Sh.b2 BK216.out; obtain ⟨hcz13_0, hcz13_1, hcz13_2, hcz13_3, hfz13_0, hfz13_1, hfz13_2, hfz13_3⟩ := Sh.b4 BK215.out))
   go_meet
   case rel => exact ⟨_, (decide ((l1_1.length : Int) > a0_1)), (Sh.es), H', ⟨Sh.om⟩, ⟨by refine Sh.pl ?_; exact BK215.out⟩, ⟨by refine Sh.pl ?_; exact BK216.out⟩, ⟨Sh.bw⟩⟩
  ·replace c7 := Bool.eq_false_iff.mpr c7
   subst c7
   rw [Sh.nf] at H
   have H' := am_ H
   clear H
   have hnb14 := NB215_216.out
   have hnc14 := NB216_215.out
   have hcz15_0 := Sh.bc BK215.out 0
   have hcz15_1 := Sh.bc BK215.out 1
   have hcz15_2 := Sh.bc BK215.out 2
   have hcz15_3 := Sh.bc BK215.out 3
   have hfz15_0 := blk_frozen BK215.out 0
   have hfz15_1 := blk_frozen BK215.out 1
   have hfz15_2 := blk_frozen BK215.out 2
   have hfz15_3 := blk_frozen BK215.out 3
   have hcz16_0 := Sh.bc BK216.out 0
   have hcz16_1 := Sh.bc BK216.out 1
   have hfz16_0 := blk_frozen BK216.out 0
   have hfz16_1 := blk_frozen BK216.out 1
   go_wp2_with (first | ((with_reducible refine Sh.k 39 ?_); refine Sh.gB (some 10) Try.func39 #[.agg #[.int .i64 a0_0, .int .i64 a0_1, .slice A0_2 l0_2.length c0_2, .slice A0_3 l0_3.length c0_3], .slice A1_0 l1_0.length c1_0] (spec_l7Asks.calls k a0_0 a0_1 _ _ l0_2 _ _ l0_3 _ _ l1_0 false _ (Sh.cB HR0_2.out) HC0_2.out (Sh.cB HR0_3.out) HC0_3.out (Sh.cB HR1_0.out) HC1_0.out A6.out) fun w17 hb => ?_; replace BK215 := Sh.ab BK215 hb; replace BK216 := Sh.ab BK216 hb; replace HB := Sh.hb hb; (try clear hb); (try clear hb2); (try clear hk); (try clear hi)))
   go_meet
   case rel => exact ⟨_, (true), (Sh.es), H', ⟨Sh.om⟩, ⟨by refine Sh.pl ?_; exact BK215.out⟩, ⟨by refine Sh.pl ?_; exact BK216.out⟩, ⟨Sh.bw⟩⟩
 case rest =>
  clear HC3
  try clear hcz10_0
  try clear hcz10_1
  try clear hcz12_0
  try clear hcz12_1
  try clear hcz13_0
  try clear hcz13_1
  try clear hcz13_2
  try clear hcz13_3
  try clear hcz15_0
  try clear hcz15_1
  try clear hcz15_2
  try clear hcz15_3
  try clear hcz16_0
  try clear hcz16_1
  try clear hcz9_0
  try clear hcz9_1
  try clear hcz9_2
  try clear hcz9_3
  try clear hfz10_0
  try clear hfz10_1
  try clear hfz12_0
  try clear hfz12_1
  try clear hfz13_0
  try clear hfz13_1
  try clear hfz13_2
  try clear hfz13_3
  try clear hfz15_0
  try clear hfz15_1
  try clear hfz15_2
  try clear hfz15_3
  try clear hfz16_0
  try clear hfz16_1
  try clear hfz9_0
  try clear hfz9_1
  try clear hfz9_2
  try clear hfz9_3
  obtain ⟨kq, x19_2, rfl, HA, HJ2, BK215, BK216, HB⟩ := hcut
  cases kq with
  | zero => exact absurd HA.out (by simp [spec_l7Command.j0])
  | succ kj2 =>
   have H := HA.out
   clear HA
   simp only [spec_l7Command.j0] at H
   by_cases c18 : x19_2 = true
   ·subst c18
    rw [if_pos rfl] at H
    obtain rfl := Option.some.inj H
    go_wp2
    go_ret
    exact ⟨Sh.eR, Sh.bw⟩
   ·replace c18 := Bool.eq_false_iff.mpr c18
    subst c18
    rw [Sh.nf] at H
    have H' := am_ H
    clear H
    have hnb19 := NB216_215.out
    have hnc19 := NB215_216.out
    have hcz20_0 := Sh.bc BK216.out 0
    have hcz20_1 := Sh.bc BK216.out 1
    have hfz20_0 := blk_frozen BK216.out 0
    have hfz20_1 := blk_frozen BK216.out 1
    go_wp2
    go_loopg [23] kj2 (fun kq v23 w' => ∃ (x23_2 : Int), v23 = .int .i64 x23_2 ∧ Aside0 (spec_l7Command.l0 kq l1_1 (l1_1.length : Int) x23_2 a0_0 a0_1 l0_2 l0_3 l1_0 l1_1 = some r) ∧ Aside0 (kq ≤ kj2) ∧ Aside0 (w'.heap[gb215]? = some (.cells #[.int .i64 a0_0, .int .i64 a0_1, (.slice A0_2 l0_2.length c0_2), (.slice A0_3 l0_3.length c0_3)] 33 (0, 0))) ∧ Aside0 (w'.heap[gb216]? = some (.cells #[(.slice A1_0 l1_0.length c1_0), (.slice A1_1 l1_1.length c1_1)] 50 (0, 0))) ∧ Aside0 (Below w.heap.size w w'))
    case atStart => exact ⟨(0), (Sh.es), H', ⟨Nat.le_refl _⟩, ⟨by refine Sh.pl ?_; exact BK215.out⟩, ⟨by refine Sh.pl ?_; exact BK216.out⟩, ⟨Sh.bw⟩⟩
    case round =>
     clear H'
     try clear hcz10_0
     try clear hcz10_1
     try clear hcz12_0
     try clear hcz12_1
     try clear hcz13_0
     try clear hcz13_1
     try clear hcz13_2
     try clear hcz13_3
     try clear hcz15_0
     try clear hcz15_1
     try clear hcz15_2
     try clear hcz15_3
     try clear hcz16_0
     try clear hcz16_1
     try clear hcz20_0
     try clear hcz20_1
     try clear hcz9_0
     try clear hcz9_1
     try clear hcz9_2
     try clear hcz9_3
     try clear hfz10_0
     try clear hfz10_1
     try clear hfz12_0
     try clear hfz12_1
     try clear hfz13_0
     try clear hfz13_1
     try clear hfz13_2
     try clear hfz13_3
     try clear hfz15_0
     try clear hfz15_1
     try clear hfz15_2
     try clear hfz15_3
     try clear hfz16_0
     try clear hfz16_1
     try clear hfz20_0
     try clear hfz20_1
     try clear hfz9_0
     try clear hfz9_1
     try clear hfz9_2
     try clear hfz9_3
     obtain ⟨x23_2, rfl, HA, HK2, BK215, BK216, HB⟩ := hrel
     cases gk with
     | zero => exact absurd HA.out (by simp [spec_l7Command.l0])
     | succ k2 =>
      have H := HA.out
      clear HA
      simp only [spec_l7Command.l0] at H
      by_cases c21 : x23_2 < (l1_1.length : Int)
      ·rw [if_pos c21] at H
       have c21b0 := decide_eq_true c21
       clear c21
       by_cases c22 : 0 ≤ x23_2
       ·rw [if_pos c22] at H
        have c22b0 := decide_eq_true c22
        clear c22
        by_cases c23 : x23_2 < (l1_1.length : Int)
        ·rw [if_pos c23] at H
         have c23b0 := decide_eq_true c23
         clear c23
         obtain ⟨t220, A24, H⟩ := Sh.ba H
         by_cases c25 : t220 = true
         ·subst c25
          rw [if_pos rfl] at H
          by_cases c26 : x23_2 > 0
          ·rw [if_pos c26] at H
           have c26b0 : decide (0 < x23_2) = true := decide_eq_true c26
           clear c26
           obtain ⟨ji27, hj1⟩ : ∃ j_ : Int, (wrap64 (x23_2 - 1)) = j_ := ⟨_, rfl⟩
           replace H : (if 0 ≤ (ji27) then (if (ji27) < (l1_1.length : Int) then (if ((rd_T52 l1_1 (ji27)).f0) ≥ ((rd_T52 l1_1 x23_2).f0) then (some false) else ((spec_l2Kind.f k2 a0_0 a0_1 ((rd_T52 l1_1 x23_2).f1)).bind fun t222 => (if t222 = 1 then (spec_l7Command.l0 k2 l1_1 (l1_1.length : Int) (wrap64 (x23_2 + 1)) a0_0 a0_1 l0_2 l0_3 l1_0 l1_1) else (some false)))) else (none)) else (none)) = some r := by first | (rw [hj1] at H; exact H) | (simp only [hj1] at H ⊢; exact H)
           (try rw [hj1] at A24)
           have hji27w : (IntKind.i64.wrap (x23_2 - 1)) = ji27 := (i64_w _).trans hj1
           by_cases c28 : 0 ≤ (ji27)
           ·rw [if_pos c28] at H
            have c28b0 := decide_eq_true c28
            clear c28
            by_cases c29 : (ji27) < (l1_1.length : Int)
            ·rw [if_pos c29] at H
             have c29b0 := decide_eq_true c29
             clear c29
             by_cases c30 : ((rd_T52 l1_1 (ji27)).f0) ≥ ((rd_T52 l1_1 x23_2).f0)
             ·rw [if_pos c30] at H
              have c30b0 : decide (((rd_T52 l1_1 x23_2).f0) ≤ ((rd_T52 l1_1 (ji27)).f0)) = true := decide_eq_true c30
              clear c30
              obtain rfl := Option.some.inj H
              have p218 : 0 ≤ (x23_2 : Int) := Sh.od
              have q218 : x23_2 < (l1_1.length : Int) := Sh.od
              obtain ⟨ad218, A218_1, c218_1, e218, hx218_0, hx218_1, hl218_1, hi218_1⟩ := at_T52 HR1_1.out x23_2 p218 q218
              cases e218
              try replace hx218_0 := Sh.cw hx218_0
              try replace hx218_1 := Sh.cw hx218_1
              have HR218_1 := am_ hi218_1
              have HC218_1 := am_ hl218_1
              clear hi218_1 hl218_1
              replace p218 := eq_true p218
              replace q218 := eq_true q218
              try go_wp2_with (first | ((with_reducible refine Sh.d 6 ?_); (try (refine gate_guard (by rfl) ?_; dsimp only)); refine Sh.bx (N := 6) (cs := #[.int .i64 0, .slice none 0 0]) (t := 52) (h := ?_); intro gb219 hg w31 hbox hb; have BK219 := am_ hbox; have GE219 := Sh.ag w hg; replace HB := Sh.hb hb; have NB215_219 := am_ (Sh.nl hg BK215.out); have NB219_215 := am_ (Sh.ng hg BK215.out); replace BK215 := Sh.ab BK215 hb; have NB216_219 := am_ (Sh.nl hg BK216.out); have NB219_216 := am_ (Sh.ng hg BK216.out); replace BK216 := Sh.ab BK216 hb; clear hb hbox hg; have hnb32 := NB219_215.out; have hnc32 := NB215_219.out; have hnb33 := NB219_216.out; have hnc33 := NB216_219.out; obtain ⟨hcz34_0, hcz34_1, hfz34_0, hfz34_1⟩ := Sh.b2 BK219.out))
              have n0_ : Aside0 (((w31.setCell ⟨gb219, 0, none⟩ (.int .i64 ((rd_T52 l1_1 x23_2).f0))).setCell ⟨gb219, 1, none⟩ (.slice A218_1 ((rd_T52 l1_1 x23_2).f1).length c218_1)).heap[gb215]? = some (.cells #[.int .i64 a0_0, .int .i64 a0_1, .slice A0_2 l0_2.length c0_2, .slice A0_3 l0_3.length c0_3] 33 (0, 0))) := ⟨by refine Sh.pl ?_; refine blk_far ?_ NB215_219.out _; refine Sh.pl ?_; refine blk_far ?_ NB215_219.out _; refine Sh.pl ?_; exact BK215.out⟩
              have n1_ : Aside0 (((w31.setCell ⟨gb219, 0, none⟩ (.int .i64 ((rd_T52 l1_1 x23_2).f0))).setCell ⟨gb219, 1, none⟩ (.slice A218_1 ((rd_T52 l1_1 x23_2).f1).length c218_1)).heap[gb216]? = some (.cells #[.slice A1_0 l1_0.length c1_0, .slice (some ad218) l1_1.length c1_1] 50 (0, 0))) := ⟨by refine Sh.pl ?_; refine blk_far ?_ NB216_219.out _; refine Sh.pl ?_; refine blk_far ?_ NB216_219.out _; refine Sh.pl ?_; exact BK216.out⟩
              have n2_ : Aside0 (((w31.setCell ⟨gb219, 0, none⟩ (.int .i64 ((rd_T52 l1_1 x23_2).f0))).setCell ⟨gb219, 1, none⟩ (.slice A218_1 ((rd_T52 l1_1 x23_2).f1).length c218_1)).heap[gb219]? = some (.cells #[.int .i64 ((rd_T52 l1_1 x23_2).f0), .slice A218_1 ((rd_T52 l1_1 x23_2).f1).length c218_1] 52 (0, 0))) := ⟨by refine Sh.pl ?_; refine blk_put (cs := #[.int .i64 ((rd_T52 l1_1 x23_2).f0), .slice none 0 0]) ?_ 1 _ rfl; refine Sh.pl ?_; refine blk_put (cs := #[.int .i64 0, .slice none 0 0]) ?_ 0 _ rfl; refine Sh.pl ?_; exact BK219.out⟩
              have n3_ : Aside0 (Below w.heap.size w ((w31.setCell ⟨gb219, 0, none⟩ (.int .i64 ((rd_T52 l1_1 x23_2).f0))).setCell ⟨gb219, 1, none⟩ (.slice A218_1 ((rd_T52 l1_1 x23_2).f1).length c218_1))) := ⟨Sh.bw⟩
              (try clear BK215)
              (try clear BK216)
              (try clear BK219)
              (try clear HB)
              generalize ((w31.setCell ⟨gb219, 0, none⟩ (.int .i64 ((rd_T52 l1_1 x23_2).f0))).setCell ⟨gb219, 1, none⟩ (.slice A218_1 ((rd_T52 l1_1 x23_2).f1).length c218_1)) = w35 at n0_ n1_ n2_ n3_ ⊢
              have BK215 := n0_
              have BK216 := n1_
              have BK219 := n2_
              have HB := n3_
              clear n0_ n1_ n2_ n3_
              replace BK215 := am_ (blk_drew BK215.out)
              replace BK216 := am_ (blk_drew BK216.out)
              replace BK219 := am_ (blk_drew BK219.out)
              replace HB := am_ (below_drew1 HB.out)
              have p221 : 0 ≤ ((ji27) : Int) := Sh.od
              have q221 : (ji27) < (l1_1.length : Int) := Sh.od
              obtain ⟨ad221, A221_1, c221_1, e221, hx221_0, hx221_1, hl221_1, hi221_1⟩ := at_T52 HR1_1.out (ji27) p221 q221
              have hw221_1 := hx221_1
              have hw221_0 := hx221_0
              obtain rfl : ad218 = ad221 := (by injection e221)
              try replace hx221_0 := Sh.cw hx221_0
              try replace hx221_1 := Sh.cw hx221_1
              have HR221_1 := am_ hi221_1
              have HC221_1 := am_ hl221_1
              clear hi221_1 hl221_1
              replace p221 := eq_true p221
              replace q221 := eq_true q221
              refine start_ (n := 33) (S := fun w' => w'.cell? ⟨gb219, 0, none⟩ = some (.int .i64 ((rd_T52 l1_1 x23_2).f0)) ∧ w'.cell? ⟨gb219, 1, none⟩ = some (.slice A218_1 ((rd_T52 l1_1 x23_2).f1).length c218_1) ∧ w'.cell? ⟨gb215, 0, none⟩ = some (.int .i64 a0_0) ∧ w'.cell? ⟨gb215, 1, none⟩ = some (.int .i64 a0_1) ∧ w'.cell? ⟨gb215, 2, none⟩ = some (.slice A0_2 l0_2.length c0_2) ∧ w'.cell? ⟨gb215, 3, none⟩ = some (.slice A0_3 l0_3.length c0_3) ∧ w'.cell? ⟨gb216, 0, none⟩ = some (.slice A1_0 l1_0.length c1_0) ∧ w'.cell? ⟨gb216, 1, none⟩ = some (.slice (some ad218) l1_1.length c1_1) ∧ w'.cell? (ad218.add (((ji27)).toNat * 2)) = some (.int .i64 ((rd_T52 l1_1 (ji27)).f0)) ∧ w'.cell? ⟨(ad218.add (((ji27)).toNat * 2)).block, (ad218.add (((ji27)).toNat * 2)).off + 1, none⟩ = some (.slice A221_1 ((rd_T52 l1_1 (ji27)).f1).length c221_1)) (ds := []) (Sh.nm 33 0) (by kernel_rfl) rfl rfl Sh.cs (fun hHeld => ?_); refine with_tabW spec_l7Command.tab6 spec_l7Command.bits6 (fun HT_ HW_ => ?_)
              generalize w35.drew = w36 at BK215 BK216 BK219 HB HR221_1 hx221_0 hx221_1 hHeld ⊢
              refine Sh.qA 0 ?_; refine Sh.qA 2 ?_; refine Sh.qT 1 hHeld ?_; refine Sh.qT 3 hHeld ?_; refine Sh.qA 4 ?_
              refine Sh.oC 5 Try.func19 #[.int .i64 ((rd_T52 l1_1 x23_2).f0), .int .i64 0, .int .i64 (wrap64 (a0_1 - 1))] fun K hK => ?_
              with_reducible refine (spec_l1In.calls ((rd_T52 l1_1 x23_2).f0) 0 (wrap64 (a0_1 - 1)) true _ A24.out).mono ?_
              rintro e w' ⟨rfl, ⟨nd, rfl⟩⟩
              refine ⟨_, rfl, ?_⟩
              refine Sh.kN hK Sh.cs fun hHeld => ?_
              clear hK K
              refine Sh.qA 6 ?_; refine Sh.qA 7 ?_; refine Sh.qA 8 ?_; refine Sh.qA 9 ?_; refine Sh.qA 10 ?_; refine Sh.qA 11 ?_; refine Sh.qA 13 ?_; refine Sh.qA 14 ?_; refine Sh.qA 18 ?_; refine Sh.qT 12 hHeld ?_; refine Sh.qA 15 ?_; refine Sh.qA 16 ?_; refine Sh.qT 17 hHeld ?_; refine Sh.qT 19 hHeld ?_; refine Sh.qA 20 ?_; refine Sh.qA 21 ?_; refine Sh.qA 22 ?_; refine Sh.qA 23 ?_; refine Sh.qU 24 ?_; refine Sh.qU 25 ?_; refine Sh.qU 26 ?_; refine Sh.qU 27 ?_; refine Sh.qU 28 ?_; refine Sh.qU 29 ?_; refine Sh.qU 30 ?_; refine Sh.qU 31 ?_; refine Sh.qA 32 ?_
              refine done_ (done_of HT_.out (by kernel_rfl)) ?_
              try go_wp2
              go_ret
              exact ⟨by first | rfl | (simp [errW_none, errW_some] <;> rfl) | (simp only [← hj1]; first | rfl | (simp [errW_none, errW_some] <;> rfl)) | (simp [*, errW_none, errW_some] <;> rfl), Sh.bw⟩
             ·rw [if_neg c30] at H
              have c30b0 : decide (((rd_T52 l1_1 x23_2).f0) ≤ ((rd_T52 l1_1 (ji27)).f0)) = false := decide_eq_false c30
              clear c30
              obtain ⟨t222, A37, H⟩ := Sh.ba H
              by_cases c38 : t222 = 1
              ·rw [if_pos c38] at H
               have c38b0 : (t222 == 1) = true := beq_iff_eq.mpr c38
               have c38b1 : (t222 != 1) = false := bne_eq_false_iff_eq.mpr c38
               clear c38
               have H' := am_ H
               clear H
               have p218 : 0 ≤ (x23_2 : Int) := Sh.od
               have q218 : x23_2 < (l1_1.length : Int) := Sh.od
               obtain ⟨ad218, A218_1, c218_1, e218, hx218_0, hx218_1, hl218_1, hi218_1⟩ := at_T52 HR1_1.out x23_2 p218 q218
               cases e218
               try replace hx218_0 := Sh.cw hx218_0
               try replace hx218_1 := Sh.cw hx218_1
               have HR218_1 := am_ hi218_1
               have HC218_1 := am_ hl218_1
               clear hi218_1 hl218_1
               replace p218 := eq_true p218
               replace q218 := eq_true q218
               try go_wp2_with (first | ((with_reducible refine Sh.d 6 ?_); (try (refine gate_guard (by rfl) ?_; dsimp only)); refine Sh.bx (N := 6) (cs := #[.int .i64 0, .slice none 0 0]) (t := 52) (h := ?_); intro gb219 hg w39 hbox hb; have BK219 := am_ hbox; have GE219 := Sh.ag w hg; replace HB := Sh.hb hb; have NB215_219 := am_ (Sh.nl hg BK215.out); have NB219_215 := am_ (Sh.ng hg BK215.out); replace BK215 := Sh.ab BK215 hb; have NB216_219 := am_ (Sh.nl hg BK216.out); have NB219_216 := am_ (Sh.ng hg BK216.out); replace BK216 := Sh.ab BK216 hb; clear hb hbox hg; have hnb40 := NB219_215.out; have hnc40 := NB215_219.out; have hnb41 := NB219_216.out; have hnc41 := NB216_219.out; obtain ⟨hcz42_0, hcz42_1, hfz42_0, hfz42_1⟩ := Sh.b2 BK219.out))
               have n0_ : Aside0 (((w39.setCell ⟨gb219, 0, none⟩ (.int .i64 ((rd_T52 l1_1 x23_2).f0))).setCell ⟨gb219, 1, none⟩ (.slice A218_1 ((rd_T52 l1_1 x23_2).f1).length c218_1)).heap[gb215]? = some (.cells #[.int .i64 a0_0, .int .i64 a0_1, .slice A0_2 l0_2.length c0_2, .slice A0_3 l0_3.length c0_3] 33 (0, 0))) := ⟨by refine Sh.pl ?_; refine blk_far ?_ NB215_219.out _; refine Sh.pl ?_; refine blk_far ?_ NB215_219.out _; refine Sh.pl ?_; exact BK215.out⟩
               have n1_ : Aside0 (((w39.setCell ⟨gb219, 0, none⟩ (.int .i64 ((rd_T52 l1_1 x23_2).f0))).setCell ⟨gb219, 1, none⟩ (.slice A218_1 ((rd_T52 l1_1 x23_2).f1).length c218_1)).heap[gb216]? = some (.cells #[.slice A1_0 l1_0.length c1_0, .slice (some ad218) l1_1.length c1_1] 50 (0, 0))) := ⟨by refine Sh.pl ?_; refine blk_far ?_ NB216_219.out _; refine Sh.pl ?_; refine blk_far ?_ NB216_219.out _; refine Sh.pl ?_; exact BK216.out⟩
               have n2_ : Aside0 (((w39.setCell ⟨gb219, 0, none⟩ (.int .i64 ((rd_T52 l1_1 x23_2).f0))).setCell ⟨gb219, 1, none⟩ (.slice A218_1 ((rd_T52 l1_1 x23_2).f1).length c218_1)).heap[gb219]? = some (.cells #[.int .i64 ((rd_T52 l1_1 x23_2).f0), .slice A218_1 ((rd_T52 l1_1 x23_2).f1).length c218_1] 52 (0, 0))) := ⟨by refine Sh.pl ?_; refine blk_put (cs := #[.int .i64 ((rd_T52 l1_1 x23_2).f0), .slice none 0 0]) ?_ 1 _ rfl; refine Sh.pl ?_; refine blk_put (cs := #[.int .i64 0, .slice none 0 0]) ?_ 0 _ rfl; refine Sh.pl ?_; exact BK219.out⟩
               have n3_ : Aside0 (Below w.heap.size w ((w39.setCell ⟨gb219, 0, none⟩ (.int .i64 ((rd_T52 l1_1 x23_2).f0))).setCell ⟨gb219, 1, none⟩ (.slice A218_1 ((rd_T52 l1_1 x23_2).f1).length c218_1))) := ⟨Sh.bw⟩
               (try clear BK215)
               (try clear BK216)
               (try clear BK219)
               (try clear HB)
               generalize ((w39.setCell ⟨gb219, 0, none⟩ (.int .i64 ((rd_T52 l1_1 x23_2).f0))).setCell ⟨gb219, 1, none⟩ (.slice A218_1 ((rd_T52 l1_1 x23_2).f1).length c218_1)) = w43 at n0_ n1_ n2_ n3_ ⊢
               have BK215 := n0_
               have BK216 := n1_
               have BK219 := n2_
               have HB := n3_
               clear n0_ n1_ n2_ n3_
               replace BK215 := am_ (blk_drew BK215.out)
               replace BK216 := am_ (blk_drew BK216.out)
               replace BK219 := am_ (blk_drew BK219.out)
               replace HB := am_ (below_drew1 HB.out)
               have p221 : 0 ≤ ((ji27) : Int) := Sh.od
               have q221 : (ji27) < (l1_1.length : Int) := Sh.od
               obtain ⟨ad221, A221_1, c221_1, e221, hx221_0, hx221_1, hl221_1, hi221_1⟩ := at_T52 HR1_1.out (ji27) p221 q221
               have hw221_1 := hx221_1
               have hw221_0 := hx221_0
               obtain rfl : ad218 = ad221 := (by injection e221)
               try replace hx221_0 := Sh.cw hx221_0
               try replace hx221_1 := Sh.cw hx221_1
               have HR221_1 := am_ hi221_1
               have HC221_1 := am_ hl221_1
               clear hi221_1 hl221_1
               replace p221 := eq_true p221
               replace q221 := eq_true q221
               refine start_ (n := 33) (S := fun w' => w'.cell? ⟨gb219, 0, none⟩ = some (.int .i64 ((rd_T52 l1_1 x23_2).f0)) ∧ w'.cell? ⟨gb219, 1, none⟩ = some (.slice A218_1 ((rd_T52 l1_1 x23_2).f1).length c218_1) ∧ w'.cell? ⟨gb215, 0, none⟩ = some (.int .i64 a0_0) ∧ w'.cell? ⟨gb215, 1, none⟩ = some (.int .i64 a0_1) ∧ w'.cell? ⟨gb215, 2, none⟩ = some (.slice A0_2 l0_2.length c0_2) ∧ w'.cell? ⟨gb215, 3, none⟩ = some (.slice A0_3 l0_3.length c0_3) ∧ w'.cell? ⟨gb216, 0, none⟩ = some (.slice A1_0 l1_0.length c1_0) ∧ w'.cell? ⟨gb216, 1, none⟩ = some (.slice (some ad218) l1_1.length c1_1) ∧ w'.cell? (ad218.add (((ji27)).toNat * 2)) = some (.int .i64 ((rd_T52 l1_1 (ji27)).f0)) ∧ w'.cell? ⟨(ad218.add (((ji27)).toNat * 2)).block, (ad218.add (((ji27)).toNat * 2)).off + 1, none⟩ = some (.slice A221_1 ((rd_T52 l1_1 (ji27)).f1).length c221_1)) (ds := []) (Sh.nm 33 0) (by kernel_rfl) rfl rfl Sh.cs (fun hHeld => ?_); refine with_tabW spec_l7Command.tab6 spec_l7Command.bits6 (fun HT_ HW_ => ?_)
               generalize w43.drew = w44 at BK215 BK216 BK219 HB HR221_1 hx221_0 hx221_1 hHeld ⊢
               refine Sh.qA 0 ?_; refine Sh.qA 2 ?_; refine Sh.qT 1 hHeld ?_; refine Sh.qT 3 hHeld ?_; refine Sh.qA 4 ?_
               refine Sh.oC 5 Try.func19 #[.int .i64 ((rd_T52 l1_1 x23_2).f0), .int .i64 0, .int .i64 (wrap64 (a0_1 - 1))] fun K hK => ?_
               with_reducible refine (spec_l1In.calls ((rd_T52 l1_1 x23_2).f0) 0 (wrap64 (a0_1 - 1)) true _ A24.out).mono ?_
               rintro e w' ⟨rfl, ⟨nd, rfl⟩⟩
               refine ⟨_, rfl, ?_⟩
               refine Sh.kN hK Sh.cs fun hHeld => ?_
               clear hK K
               refine Sh.qA 6 ?_; refine Sh.qA 7 ?_; refine Sh.qA 8 ?_; refine Sh.qA 9 ?_; refine Sh.qA 10 ?_; refine Sh.qA 11 ?_; refine Sh.qA 13 ?_; refine Sh.qA 14 ?_; refine Sh.qA 18 ?_; refine Sh.qT 12 hHeld ?_; refine Sh.qA 15 ?_; refine Sh.qA 16 ?_; refine Sh.qT 17 hHeld ?_; refine Sh.qT 19 hHeld ?_; refine Sh.qA 20 ?_; refine Sh.qA 21 ?_; refine Sh.qA 22 ?_; refine Sh.qA 23 ?_; refine Sh.qA 24 ?_; refine Sh.qA 26 ?_; refine Sh.qA 28 ?_; refine Sh.qT 25 hHeld ?_; refine Sh.qT 27 hHeld ?_; refine Sh.qT 29 hHeld ?_
               refine Sh.oC 30 Try.func58 #[.int .i64 a0_0, .int .i64 a0_1, .slice A218_1 ((rd_T52 l1_1 x23_2).f1).length c218_1] fun K hK => ?_
               with_reducible refine (spec_l2Kind.calls k2 a0_0 a0_1 _ _ ((rd_T52 l1_1 x23_2).f1) t222 _ (Sh.cB HR218_1.out) HC218_1.out A37.out).mono ?_
               rintro e w45 ⟨rfl, hb⟩
               refine ⟨_, rfl, ?_⟩
               replace BK215 := Sh.ab BK215 hb
               replace BK216 := Sh.ab BK216 hb
               replace BK219 := Sh.ab BK219 hb
               replace HB := Sh.hb hb
               (try clear hb)
               (try clear hb2)
               (try clear hk)
               (try clear hi)
               refine Sh.kN hK Sh.cs fun hHeld => ?_
               clear hK K
               refine Sh.qA 31 ?_; refine Sh.qA 32 ?_
               refine done_ (done_of HT_.out (by kernel_rfl)) ?_
               try go_wp2
               go_roundg k2
               case measure => have := HJ2.out; have := HK2.out; omega
               case rel => exact ⟨(wrap64 (x23_2 + 1)), (Sh.es), H', ⟨by have := HJ2.out; have := HK2.out; omega⟩, ⟨by refine Sh.pl ?_; exact BK215.out⟩, ⟨by refine Sh.pl ?_; exact BK216.out⟩, ⟨Sh.bw⟩⟩
              ·rw [if_neg c38] at H
               have c38b0 : (t222 == 1) = false := beq_eq_false_iff_ne.mpr c38
               have c38b1 : (t222 != 1) = true := bne_iff_ne.mpr c38
               obtain rfl := Option.some.inj H
               have p218 : 0 ≤ (x23_2 : Int) := Sh.od
               have q218 : x23_2 < (l1_1.length : Int) := Sh.od
               obtain ⟨ad218, A218_1, c218_1, e218, hx218_0, hx218_1, hl218_1, hi218_1⟩ := at_T52 HR1_1.out x23_2 p218 q218
               cases e218
               try replace hx218_0 := Sh.cw hx218_0
               try replace hx218_1 := Sh.cw hx218_1
               have HR218_1 := am_ hi218_1
               have HC218_1 := am_ hl218_1
               clear hi218_1 hl218_1
               replace p218 := eq_true p218
               replace q218 := eq_true q218
               try go_wp2_with (first | ((with_reducible refine Sh.d 6 ?_); (try (refine gate_guard (by rfl) ?_; dsimp only)); refine Sh.bx (N := 6) (cs := #[.int .i64 0, .slice none 0 0]) (t := 52) (h := ?_); intro gb219 hg w46 hbox hb; have BK219 := am_ hbox; have GE219 := Sh.ag w hg; replace HB := Sh.hb hb; have NB215_219 := am_ (Sh.nl hg BK215.out); have NB219_215 := am_ (Sh.ng hg BK215.out); replace BK215 := Sh.ab BK215 hb; have NB216_219 := am_ (Sh.nl hg BK216.out); have NB219_216 := am_ (Sh.ng hg BK216.out); replace BK216 := Sh.ab BK216 hb; clear hb hbox hg; have hnb47 := NB219_215.out; have hnc47 := NB215_219.out; have hnb48 := NB219_216.out; have hnc48 := NB216_219.out; obtain ⟨hcz49_0, hcz49_1, hfz49_0, hfz49_1⟩ := Sh.b2 BK219.out))
               have n0_ : Aside0 (((w46.setCell ⟨gb219, 0, none⟩ (.int .i64 ((rd_T52 l1_1 x23_2).f0))).setCell ⟨gb219, 1, none⟩ (.slice A218_1 ((rd_T52 l1_1 x23_2).f1).length c218_1)).heap[gb215]? = some (.cells #[.int .i64 a0_0, .int .i64 a0_1, .slice A0_2 l0_2.length c0_2, .slice A0_3 l0_3.length c0_3] 33 (0, 0))) := ⟨by refine Sh.pl ?_; refine blk_far ?_ NB215_219.out _; refine Sh.pl ?_; refine blk_far ?_ NB215_219.out _; refine Sh.pl ?_; exact BK215.out⟩
               have n1_ : Aside0 (((w46.setCell ⟨gb219, 0, none⟩ (.int .i64 ((rd_T52 l1_1 x23_2).f0))).setCell ⟨gb219, 1, none⟩ (.slice A218_1 ((rd_T52 l1_1 x23_2).f1).length c218_1)).heap[gb216]? = some (.cells #[.slice A1_0 l1_0.length c1_0, .slice (some ad218) l1_1.length c1_1] 50 (0, 0))) := ⟨by refine Sh.pl ?_; refine blk_far ?_ NB216_219.out _; refine Sh.pl ?_; refine blk_far ?_ NB216_219.out _; refine Sh.pl ?_; exact BK216.out⟩
               have n2_ : Aside0 (((w46.setCell ⟨gb219, 0, none⟩ (.int .i64 ((rd_T52 l1_1 x23_2).f0))).setCell ⟨gb219, 1, none⟩ (.slice A218_1 ((rd_T52 l1_1 x23_2).f1).length c218_1)).heap[gb219]? = some (.cells #[.int .i64 ((rd_T52 l1_1 x23_2).f0), .slice A218_1 ((rd_T52 l1_1 x23_2).f1).length c218_1] 52 (0, 0))) := ⟨by refine Sh.pl ?_; refine blk_put (cs := #[.int .i64 ((rd_T52 l1_1 x23_2).f0), .slice none 0 0]) ?_ 1 _ rfl; refine Sh.pl ?_; refine blk_put (cs := #[.int .i64 0, .slice none 0 0]) ?_ 0 _ rfl; refine Sh.pl ?_; exact BK219.out⟩
               have n3_ : Aside0 (Below w.heap.size w ((w46.setCell ⟨gb219, 0, none⟩ (.int .i64 ((rd_T52 l1_1 x23_2).f0))).setCell ⟨gb219, 1, none⟩ (.slice A218_1 ((rd_T52 l1_1 x23_2).f1).length c218_1))) := ⟨Sh.bw⟩
               (try clear BK215)
               (try clear BK216)
               (try clear BK219)
               (try clear HB)
               generalize ((w46.setCell ⟨gb219, 0, none⟩ (.int .i64 ((rd_T52 l1_1 x23_2).f0))).setCell ⟨gb219, 1, none⟩ (.slice A218_1 ((rd_T52 l1_1 x23_2).f1).length c218_1)) = w50 at n0_ n1_ n2_ n3_ ⊢
               have BK215 := n0_
               have BK216 := n1_
               have BK219 := n2_
               have HB := n3_
               clear n0_ n1_ n2_ n3_
               replace BK215 := am_ (blk_drew BK215.out)
               replace BK216 := am_ (blk_drew BK216.out)
               replace BK219 := am_ (blk_drew BK219.out)
               replace HB := am_ (below_drew1 HB.out)
               have p221 : 0 ≤ ((ji27) : Int) := Sh.od
               have q221 : (ji27) < (l1_1.length : Int) := Sh.od
               obtain ⟨ad221, A221_1, c221_1, e221, hx221_0, hx221_1, hl221_1, hi221_1⟩ := at_T52 HR1_1.out (ji27) p221 q221
               have hw221_1 := hx221_1
               have hw221_0 := hx221_0
               obtain rfl : ad218 = ad221 := (by injection e221)
               try replace hx221_0 := Sh.cw hx221_0
               try replace hx221_1 := Sh.cw hx221_1
               have HR221_1 := am_ hi221_1
               have HC221_1 := am_ hl221_1
               clear hi221_1 hl221_1
               replace p221 := eq_true p221
               replace q221 := eq_true q221
               refine start_ (n := 33) (S := fun w' => w'.cell? ⟨gb219, 0, none⟩ = some (.int .i64 ((rd_T52 l1_1 x23_2).f0)) ∧ w'.cell? ⟨gb219, 1, none⟩ = some (.slice A218_1 ((rd_T52 l1_1 x23_2).f1).length c218_1) ∧ w'.cell? ⟨gb215, 0, none⟩ = some (.int .i64 a0_0) ∧ w'.cell? ⟨gb215, 1, none⟩ = some (.int .i64 a0_1) ∧ w'.cell? ⟨gb215, 2, none⟩ = some (.slice A0_2 l0_2.length c0_2) ∧ w'.cell? ⟨gb215, 3, none⟩ = some (.slice A0_3 l0_3.length c0_3) ∧ w'.cell? ⟨gb216, 0, none⟩ = some (.slice A1_0 l1_0.length c1_0) ∧ w'.cell? ⟨gb216, 1, none⟩ = some (.slice (some ad218) l1_1.length c1_1) ∧ w'.cell? (ad218.add (((ji27)).toNat * 2)) = some (.int .i64 ((rd_T52 l1_1 (ji27)).f0)) ∧ w'.cell? ⟨(ad218.add (((ji27)).toNat * 2)).block, (ad218.add (((ji27)).toNat * 2)).off + 1, none⟩ = some (.slice A221_1 ((rd_T52 l1_1 (ji27)).f1).length c221_1)) (ds := []) (Sh.nm 33 0) (by kernel_rfl) rfl rfl Sh.cs (fun hHeld => ?_); refine with_tabW spec_l7Command.tab6 spec_l7Command.bits6 (fun HT_ HW_ => ?_)
               generalize w50.drew = w51 at BK215 BK216 BK219 HB HR221_1 hx221_0 hx221_1 hHeld ⊢
               refine Sh.qA 0 ?_; refine Sh.qA 2 ?_; refine Sh.qT 1 hHeld ?_; refine Sh.qT 3 hHeld ?_; refine Sh.qA 4 ?_
               refine Sh.oC 5 Try.func19 #[.int .i64 ((rd_T52 l1_1 x23_2).f0), .int .i64 0, .int .i64 (wrap64 (a0_1 - 1))] fun K hK => ?_
               with_reducible refine (spec_l1In.calls ((rd_T52 l1_1 x23_2).f0) 0 (wrap64 (a0_1 - 1)) true _ A24.out).mono ?_
               rintro e w' ⟨rfl, ⟨nd, rfl⟩⟩
               refine ⟨_, rfl, ?_⟩
               refine Sh.kN hK Sh.cs fun hHeld => ?_
               clear hK K
               refine Sh.qA 6 ?_; refine Sh.qA 7 ?_; refine Sh.qA 8 ?_; refine Sh.qA 9 ?_; refine Sh.qA 10 ?_; refine Sh.qA 11 ?_; refine Sh.qA 13 ?_; refine Sh.qA 14 ?_; refine Sh.qA 18 ?_; refine Sh.qT 12 hHeld ?_; refine Sh.qA 15 ?_; refine Sh.qA 16 ?_; refine Sh.qT 17 hHeld ?_; refine Sh.qT 19 hHeld ?_; refine Sh.qA 20 ?_; refine Sh.qA 21 ?_; refine Sh.qA 22 ?_; refine Sh.qA 23 ?_; refine Sh.qA 24 ?_; refine Sh.qA 26 ?_; refine Sh.qA 28 ?_; refine Sh.qT 25 hHeld ?_; refine Sh.qT 27 hHeld ?_; refine Sh.qT 29 hHeld ?_
               refine Sh.oC 30 Try.func58 #[.int .i64 a0_0, .int .i64 a0_1, .slice A218_1 ((rd_T52 l1_1 x23_2).f1).length c218_1] fun K hK => ?_
               with_reducible refine (spec_l2Kind.calls k2 a0_0 a0_1 _ _ ((rd_T52 l1_1 x23_2).f1) t222 _ (Sh.cB HR218_1.out) HC218_1.out A37.out).mono ?_
               rintro e w52 ⟨rfl, hb⟩
               refine ⟨_, rfl, ?_⟩
               replace BK215 := Sh.ab BK215 hb
               replace BK216 := Sh.ab BK216 hb
               replace BK219 := Sh.ab BK219 hb
               replace HB := Sh.hb hb
               (try clear hb)
               (try clear hb2)
               (try clear hk)
               (try clear hi)
               refine Sh.kN hK Sh.cs fun hHeld => ?_
               clear hK K
               refine Sh.qA 31 ?_; refine Sh.qA 32 ?_
               refine done_ (done_of HT_.out (by kernel_rfl)) ?_
               try go_wp2
               go_ret
               exact ⟨by first | rfl | (simp [errW_none, errW_some] <;> rfl) | (simp only [← hj1]; first | rfl | (simp [errW_none, errW_some] <;> rfl)) | (simp [*, errW_none, errW_some] <;> rfl), Sh.bw⟩
            ·rw [if_neg c29] at H
             exact absurd H (by simp)
           ·rw [if_neg c28] at H
            exact absurd H (by simp)
          ·rw [if_neg c26] at H
           have c26b0 : decide (0 < x23_2) = false := decide_eq_false c26
           clear c26
           obtain ⟨t223, A53, H⟩ := Sh.ba H
           by_cases c54 : t223 = 1
           ·rw [if_pos c54] at H
            have c54b0 : (t223 == 1) = true := beq_iff_eq.mpr c54
            have c54b1 : (t223 != 1) = false := bne_eq_false_iff_eq.mpr c54
            clear c54
            have H' := am_ H
            clear H
            have p218 : 0 ≤ (x23_2 : Int) := Sh.od
            have q218 : x23_2 < (l1_1.length : Int) := Sh.od
            obtain ⟨ad218, A218_1, c218_1, e218, hx218_0, hx218_1, hl218_1, hi218_1⟩ := at_T52 HR1_1.out x23_2 p218 q218
            cases e218
            try replace hx218_0 := Sh.cw hx218_0
            try replace hx218_1 := Sh.cw hx218_1
            have HR218_1 := am_ hi218_1
            have HC218_1 := am_ hl218_1
            clear hi218_1 hl218_1
            replace p218 := eq_true p218
            replace q218 := eq_true q218
            try go_wp2_with (first | ((with_reducible refine Sh.d 6 ?_); (try (refine gate_guard (by rfl) ?_; dsimp only)); refine Sh.bx (N := 6) (cs := #[.int .i64 0, .slice none 0 0]) (t := 52) (h := ?_); intro gb219 hg w55 hbox hb; have BK219 := am_ hbox; have GE219 := Sh.ag w hg; replace HB := Sh.hb hb; have NB215_219 := am_ (Sh.nl hg BK215.out); have NB219_215 := am_ (Sh.ng hg BK215.out); replace BK215 := Sh.ab BK215 hb; have NB216_219 := am_ (Sh.nl hg BK216.out); have NB219_216 := am_ (Sh.ng hg BK216.out); replace BK216 := Sh.ab BK216 hb; clear hb hbox hg; have hnb56 := NB219_215.out; have hnc56 := NB215_219.out; have hnb57 := NB219_216.out; have hnc57 := NB216_219.out; obtain ⟨hcz58_0, hcz58_1, hfz58_0, hfz58_1⟩ := Sh.b2 BK219.out))
            have n0_ : Aside0 (((w55.setCell ⟨gb219, 0, none⟩ (.int .i64 ((rd_T52 l1_1 x23_2).f0))).setCell ⟨gb219, 1, none⟩ (.slice A218_1 ((rd_T52 l1_1 x23_2).f1).length c218_1)).heap[gb215]? = some (.cells #[.int .i64 a0_0, .int .i64 a0_1, .slice A0_2 l0_2.length c0_2, .slice A0_3 l0_3.length c0_3] 33 (0, 0))) := ⟨by refine Sh.pl ?_; refine blk_far ?_ NB215_219.out _; refine Sh.pl ?_; refine blk_far ?_ NB215_219.out _; refine Sh.pl ?_; exact BK215.out⟩
            have n1_ : Aside0 (((w55.setCell ⟨gb219, 0, none⟩ (.int .i64 ((rd_T52 l1_1 x23_2).f0))).setCell ⟨gb219, 1, none⟩ (.slice A218_1 ((rd_T52 l1_1 x23_2).f1).length c218_1)).heap[gb216]? = some (.cells #[.slice A1_0 l1_0.length c1_0, .slice (some ad218) l1_1.length c1_1] 50 (0, 0))) := ⟨by refine Sh.pl ?_; refine blk_far ?_ NB216_219.out _; refine Sh.pl ?_; refine blk_far ?_ NB216_219.out _; refine Sh.pl ?_; exact BK216.out⟩
            have n2_ : Aside0 (((w55.setCell ⟨gb219, 0, none⟩ (.int .i64 ((rd_T52 l1_1 x23_2).f0))).setCell ⟨gb219, 1, none⟩ (.slice A218_1 ((rd_T52 l1_1 x23_2).f1).length c218_1)).heap[gb219]? = some (.cells #[.int .i64 ((rd_T52 l1_1 x23_2).f0), .slice A218_1 ((rd_T52 l1_1 x23_2).f1).length c218_1] 52 (0, 0))) := ⟨by refine Sh.pl ?_; refine blk_put (cs := #[.int .i64 ((rd_T52 l1_1 x23_2).f0), .slice none 0 0]) ?_ 1 _ rfl; refine Sh.pl ?_; refine blk_put (cs := #[.int .i64 0, .slice none 0 0]) ?_ 0 _ rfl; refine Sh.pl ?_; exact BK219.out⟩
            have n3_ : Aside0 (Below w.heap.size w ((w55.setCell ⟨gb219, 0, none⟩ (.int .i64 ((rd_T52 l1_1 x23_2).f0))).setCell ⟨gb219, 1, none⟩ (.slice A218_1 ((rd_T52 l1_1 x23_2).f1).length c218_1))) := ⟨Sh.bw⟩
            (try clear BK215)
            (try clear BK216)
            (try clear BK219)
            (try clear HB)
            generalize ((w55.setCell ⟨gb219, 0, none⟩ (.int .i64 ((rd_T52 l1_1 x23_2).f0))).setCell ⟨gb219, 1, none⟩ (.slice A218_1 ((rd_T52 l1_1 x23_2).f1).length c218_1)) = w59 at n0_ n1_ n2_ n3_ ⊢
            have BK215 := n0_
            have BK216 := n1_
            have BK219 := n2_
            have HB := n3_
            clear n0_ n1_ n2_ n3_
            replace BK215 := am_ (blk_drew BK215.out)
            replace BK216 := am_ (blk_drew BK216.out)
            replace BK219 := am_ (blk_drew BK219.out)
            replace HB := am_ (below_drew1 HB.out)
            refine start_ (n := 33) (S := fun w' => w'.cell? ⟨gb219, 0, none⟩ = some (.int .i64 ((rd_T52 l1_1 x23_2).f0)) ∧ w'.cell? ⟨gb219, 1, none⟩ = some (.slice A218_1 ((rd_T52 l1_1 x23_2).f1).length c218_1) ∧ w'.cell? ⟨gb215, 0, none⟩ = some (.int .i64 a0_0) ∧ w'.cell? ⟨gb215, 1, none⟩ = some (.int .i64 a0_1) ∧ w'.cell? ⟨gb215, 2, none⟩ = some (.slice A0_2 l0_2.length c0_2) ∧ w'.cell? ⟨gb215, 3, none⟩ = some (.slice A0_3 l0_3.length c0_3)) (ds := []) (Sh.nm 33 0) (by kernel_rfl) rfl rfl Sh.cs (fun hHeld => ?_); refine with_tabW spec_l7Command.tab6 spec_l7Command.bits6 (fun HT_ HW_ => ?_)
            generalize w59.drew = w60 at BK215 BK216 BK219 HB hHeld ⊢
            refine Sh.qA 0 ?_; refine Sh.qA 2 ?_; refine Sh.qT 1 hHeld ?_; refine Sh.qT 3 hHeld ?_; refine Sh.qA 4 ?_
            refine Sh.oC 5 Try.func19 #[.int .i64 ((rd_T52 l1_1 x23_2).f0), .int .i64 0, .int .i64 (wrap64 (a0_1 - 1))] fun K hK => ?_
            with_reducible refine (spec_l1In.calls ((rd_T52 l1_1 x23_2).f0) 0 (wrap64 (a0_1 - 1)) true _ A24.out).mono ?_
            rintro e w' ⟨rfl, ⟨nd, rfl⟩⟩
            refine ⟨_, rfl, ?_⟩
            refine Sh.kN hK Sh.cs fun hHeld => ?_
            clear hK K
            refine Sh.qA 6 ?_; refine Sh.qA 7 ?_; refine Sh.qA 8 ?_; refine Sh.qA 9 ?_; refine Sh.qA 10 ?_; refine Sh.qU 11 ?_; refine Sh.qU 12 ?_; refine Sh.qU 13 ?_; refine Sh.qU 14 ?_; refine Sh.qU 15 ?_; refine Sh.qU 16 ?_; refine Sh.qU 17 ?_; refine Sh.qU 18 ?_; refine Sh.qU 19 ?_; refine Sh.qU 20 ?_; refine Sh.qA 21 ?_; refine Sh.qA 22 ?_; refine Sh.qA 23 ?_; refine Sh.qA 24 ?_; refine Sh.qA 26 ?_; refine Sh.qA 28 ?_; refine Sh.qT 25 hHeld ?_; refine Sh.qT 27 hHeld ?_; refine Sh.qT 29 hHeld ?_
            refine Sh.oC 30 Try.func58 #[.int .i64 a0_0, .int .i64 a0_1, .slice A218_1 ((rd_T52 l1_1 x23_2).f1).length c218_1] fun K hK => ?_
            with_reducible refine (spec_l2Kind.calls k2 a0_0 a0_1 _ _ ((rd_T52 l1_1 x23_2).f1) t223 _ (Sh.cB HR218_1.out) HC218_1.out A53.out).mono ?_
            rintro e w61 ⟨rfl, hb⟩
            refine ⟨_, rfl, ?_⟩
            replace BK215 := Sh.ab BK215 hb
            replace BK216 := Sh.ab BK216 hb
            replace BK219 := Sh.ab BK219 hb
            replace HB := Sh.hb hb
            (try clear hb)
            (try clear hb2)
            (try clear hk)
            (try clear hi)
            refine Sh.kN hK Sh.cs fun hHeld => ?_
            clear hK K
            refine Sh.qA 31 ?_; refine Sh.qA 32 ?_
            refine done_ (done_of HT_.out (by kernel_rfl)) ?_
            try go_wp2
            go_roundg k2
            case measure => have := HJ2.out; have := HK2.out; omega
            case rel => exact ⟨(wrap64 (x23_2 + 1)), (Sh.es), H', ⟨by have := HJ2.out; have := HK2.out; omega⟩, ⟨by refine Sh.pl ?_; exact BK215.out⟩, ⟨by refine Sh.pl ?_; exact BK216.out⟩, ⟨Sh.bw⟩⟩
           ·rw [if_neg c54] at H
            have c54b0 : (t223 == 1) = false := beq_eq_false_iff_ne.mpr c54
            have c54b1 : (t223 != 1) = true := bne_iff_ne.mpr c54
            obtain rfl := Option.some.inj H
            have p218 : 0 ≤ (x23_2 : Int) := Sh.od
            have q218 : x23_2 < (l1_1.length : Int) := Sh.od
            obtain ⟨ad218, A218_1, c218_1, e218, hx218_0, hx218_1, hl218_1, hi218_1⟩ := at_T52 HR1_1.out x23_2 p218 q218
            cases e218
            try replace hx218_0 := Sh.cw hx218_0
            try replace hx218_1 := Sh.cw hx218_1
            have HR218_1 := am_ hi218_1
            have HC218_1 := am_ hl218_1
            clear hi218_1 hl218_1
            replace p218 := eq_true p218
            replace q218 := eq_true q218
            try go_wp2_with (first | ((with_reducible refine Sh.d 6 ?_); (try (refine gate_guard (by rfl) ?_; dsimp only)); refine Sh.bx (N := 6) (cs := #[.int .i64 0, .slice none 0 0]) (t := 52) (h := ?_); intro gb219 hg w62 hbox hb; have BK219 := am_ hbox; have GE219 := Sh.ag w hg; replace HB := Sh.hb hb; have NB215_219 := am_ (Sh.nl hg BK215.out); have NB219_215 := am_ (Sh.ng hg BK215.out); replace BK215 := Sh.ab BK215 hb; have NB216_219 := am_ (Sh.nl hg BK216.out); have NB219_216 := am_ (Sh.ng hg BK216.out); replace BK216 := Sh.ab BK216 hb; clear hb hbox hg; have hnb63 := NB219_215.out; have hnc63 := NB215_219.out; have hnb64 := NB219_216.out; have hnc64 := NB216_219.out; obtain ⟨hcz65_0, hcz65_1, hfz65_0, hfz65_1⟩ := Sh.b2 BK219.out))
            have n0_ : Aside0 (((w62.setCell ⟨gb219, 0, none⟩ (.int .i64 ((rd_T52 l1_1 x23_2).f0))).setCell ⟨gb219, 1, none⟩ (.slice A218_1 ((rd_T52 l1_1 x23_2).f1).length c218_1)).heap[gb215]? = some (.cells #[.int .i64 a0_0, .int .i64 a0_1, .slice A0_2 l0_2.length c0_2, .slice A0_3 l0_3.length c0_3] 33 (0, 0))) := ⟨by refine Sh.pl ?_; refine blk_far ?_ NB215_219.out _; refine Sh.pl ?_; refine blk_far ?_ NB215_219.out _; refine Sh.pl ?_; exact BK215.out⟩
            have n1_ : Aside0 (((w62.setCell ⟨gb219, 0, none⟩ (.int .i64 ((rd_T52 l1_1 x23_2).f0))).setCell ⟨gb219, 1, none⟩ (.slice A218_1 ((rd_T52 l1_1 x23_2).f1).length c218_1)).heap[gb216]? = some (.cells #[.slice A1_0 l1_0.length c1_0, .slice (some ad218) l1_1.length c1_1] 50 (0, 0))) := ⟨by refine Sh.pl ?_; refine blk_far ?_ NB216_219.out _; refine Sh.pl ?_; refine blk_far ?_ NB216_219.out _; refine Sh.pl ?_; exact BK216.out⟩
            have n2_ : Aside0 (((w62.setCell ⟨gb219, 0, none⟩ (.int .i64 ((rd_T52 l1_1 x23_2).f0))).setCell ⟨gb219, 1, none⟩ (.slice A218_1 ((rd_T52 l1_1 x23_2).f1).length c218_1)).heap[gb219]? = some (.cells #[.int .i64 ((rd_T52 l1_1 x23_2).f0), .slice A218_1 ((rd_T52 l1_1 x23_2).f1).length c218_1] 52 (0, 0))) := ⟨by refine Sh.pl ?_; refine blk_put (cs := #[.int .i64 ((rd_T52 l1_1 x23_2).f0), .slice none 0 0]) ?_ 1 _ rfl; refine Sh.pl ?_; refine blk_put (cs := #[.int .i64 0, .slice none 0 0]) ?_ 0 _ rfl; refine Sh.pl ?_; exact BK219.out⟩
            have n3_ : Aside0 (Below w.heap.size w ((w62.setCell ⟨gb219, 0, none⟩ (.int .i64 ((rd_T52 l1_1 x23_2).f0))).setCell ⟨gb219, 1, none⟩ (.slice A218_1 ((rd_T52 l1_1 x23_2).f1).length c218_1))) := ⟨Sh.bw⟩
            (try clear BK215)
            (try clear BK216)
            (try clear BK219)
            (try clear HB)
            generalize ((w62.setCell ⟨gb219, 0, none⟩ (.int .i64 ((rd_T52 l1_1 x23_2).f0))).setCell ⟨gb219, 1, none⟩ (.slice A218_1 ((rd_T52 l1_1 x23_2).f1).length c218_1)) = w66 at n0_ n1_ n2_ n3_ ⊢
            have BK215 := n0_
            have BK216 := n1_
            have BK219 := n2_
            have HB := n3_
            clear n0_ n1_ n2_ n3_
            replace BK215 := am_ (blk_drew BK215.out)
            replace BK216 := am_ (blk_drew BK216.out)
            replace BK219 := am_ (blk_drew BK219.out)
            replace HB := am_ (below_drew1 HB.out)
            refine start_ (n := 33) (S := fun w' => w'.cell? ⟨gb219, 0, none⟩ = some (.int .i64 ((rd_T52 l1_1 x23_2).f0)) ∧ w'.cell? ⟨gb219, 1, none⟩ = some (.slice A218_1 ((rd_T52 l1_1 x23_2).f1).length c218_1) ∧ w'.cell? ⟨gb215, 0, none⟩ = some (.int .i64 a0_0) ∧ w'.cell? ⟨gb215, 1, none⟩ = some (.int .i64 a0_1) ∧ w'.cell? ⟨gb215, 2, none⟩ = some (.slice A0_2 l0_2.length c0_2) ∧ w'.cell? ⟨gb215, 3, none⟩ = some (.slice A0_3 l0_3.length c0_3)) (ds := []) (Sh.nm 33 0) (by kernel_rfl) rfl rfl Sh.cs (fun hHeld => ?_); refine with_tabW spec_l7Command.tab6 spec_l7Command.bits6 (fun HT_ HW_ => ?_)
            generalize w66.drew = w67 at BK215 BK216 BK219 HB hHeld ⊢
            refine Sh.qA 0 ?_; refine Sh.qA 2 ?_; refine Sh.qT 1 hHeld ?_; refine Sh.qT 3 hHeld ?_; refine Sh.qA 4 ?_
            refine Sh.oC 5 Try.func19 #[.int .i64 ((rd_T52 l1_1 x23_2).f0), .int .i64 0, .int .i64 (wrap64 (a0_1 - 1))] fun K hK => ?_
            with_reducible refine (spec_l1In.calls ((rd_T52 l1_1 x23_2).f0) 0 (wrap64 (a0_1 - 1)) true _ A24.out).mono ?_
            rintro e w' ⟨rfl, ⟨nd, rfl⟩⟩
            refine ⟨_, rfl, ?_⟩
            refine Sh.kN hK Sh.cs fun hHeld => ?_
            clear hK K
            refine Sh.qA 6 ?_; refine Sh.qA 7 ?_; refine Sh.qA 8 ?_; refine Sh.qA 9 ?_; refine Sh.qA 10 ?_; refine Sh.qU 11 ?_; refine Sh.qU 12 ?_; refine Sh.qU 13 ?_; refine Sh.qU 14 ?_; refine Sh.qU 15 ?_; refine Sh.qU 16 ?_; refine Sh.qU 17 ?_; refine Sh.qU 18 ?_; refine Sh.qU 19 ?_; refine Sh.qU 20 ?_; refine Sh.qA 21 ?_; refine Sh.qA 22 ?_; refine Sh.qA 23 ?_; refine Sh.qA 24 ?_; refine Sh.qA 26 ?_; refine Sh.qA 28 ?_; refine Sh.qT 25 hHeld ?_; refine Sh.qT 27 hHeld ?_; refine Sh.qT 29 hHeld ?_
            refine Sh.oC 30 Try.func58 #[.int .i64 a0_0, .int .i64 a0_1, .slice A218_1 ((rd_T52 l1_1 x23_2).f1).length c218_1] fun K hK => ?_
            with_reducible refine (spec_l2Kind.calls k2 a0_0 a0_1 _ _ ((rd_T52 l1_1 x23_2).f1) t223 _ (Sh.cB HR218_1.out) HC218_1.out A53.out).mono ?_
            rintro e w68 ⟨rfl, hb⟩
            refine ⟨_, rfl, ?_⟩
            replace BK215 := Sh.ab BK215 hb
            replace BK216 := Sh.ab BK216 hb
            replace BK219 := Sh.ab BK219 hb
            replace HB := Sh.hb hb
            (try clear hb)
            (try clear hb2)
            (try clear hk)
            (try clear hi)
            refine Sh.kN hK Sh.cs fun hHeld => ?_
            clear hK K
            refine Sh.qA 31 ?_; refine Sh.qA 32 ?_
            refine done_ (done_of HT_.out (by kernel_rfl)) ?_
            try go_wp2
            go_ret
            exact ⟨Sh.eR, Sh.bw⟩
         ·replace c25 := Bool.eq_false_iff.mpr c25
          subst c25
          rw [Sh.nf] at H
          obtain rfl := Option.some.inj H
          have p218 : 0 ≤ (x23_2 : Int) := Sh.od
          have q218 : x23_2 < (l1_1.length : Int) := Sh.od
          obtain ⟨ad218, A218_1, c218_1, e218, hx218_0, hx218_1, hl218_1, hi218_1⟩ := at_T52 HR1_1.out x23_2 p218 q218
          cases e218
          try replace hx218_0 := Sh.cw hx218_0
          try replace hx218_1 := Sh.cw hx218_1
          have HR218_1 := am_ hi218_1
          have HC218_1 := am_ hl218_1
          clear hi218_1 hl218_1
          replace p218 := eq_true p218
          replace q218 := eq_true q218
          try go_wp2_with (first | ((with_reducible refine Sh.d 6 ?_); (try (refine gate_guard (by rfl) ?_; dsimp only)); refine Sh.bx (N := 6) (cs := #[.int .i64 0, .slice none 0 0]) (t := 52) (h := ?_); intro gb219 hg w69 hbox hb; have BK219 := am_ hbox; have GE219 := Sh.ag w hg; replace HB := Sh.hb hb; have NB215_219 := am_ (Sh.nl hg BK215.out); have NB219_215 := am_ (Sh.ng hg BK215.out); replace BK215 := Sh.ab BK215 hb; have NB216_219 := am_ (Sh.nl hg BK216.out); have NB219_216 := am_ (Sh.ng hg BK216.out); replace BK216 := Sh.ab BK216 hb; clear hb hbox hg; have hnb70 := NB219_215.out; have hnc70 := NB215_219.out; have hnb71 := NB219_216.out; have hnc71 := NB216_219.out; obtain ⟨hcz72_0, hcz72_1, hfz72_0, hfz72_1⟩ := Sh.b2 BK219.out))
          have n0_ : Aside0 (((w69.setCell ⟨gb219, 0, none⟩ (.int .i64 ((rd_T52 l1_1 x23_2).f0))).setCell ⟨gb219, 1, none⟩ (.slice A218_1 ((rd_T52 l1_1 x23_2).f1).length c218_1)).heap[gb215]? = some (.cells #[.int .i64 a0_0, .int .i64 a0_1, .slice A0_2 l0_2.length c0_2, .slice A0_3 l0_3.length c0_3] 33 (0, 0))) := ⟨by refine Sh.pl ?_; refine blk_far ?_ NB215_219.out _; refine Sh.pl ?_; refine blk_far ?_ NB215_219.out _; refine Sh.pl ?_; exact BK215.out⟩
          have n1_ : Aside0 (((w69.setCell ⟨gb219, 0, none⟩ (.int .i64 ((rd_T52 l1_1 x23_2).f0))).setCell ⟨gb219, 1, none⟩ (.slice A218_1 ((rd_T52 l1_1 x23_2).f1).length c218_1)).heap[gb216]? = some (.cells #[.slice A1_0 l1_0.length c1_0, .slice (some ad218) l1_1.length c1_1] 50 (0, 0))) := ⟨by refine Sh.pl ?_; refine blk_far ?_ NB216_219.out _; refine Sh.pl ?_; refine blk_far ?_ NB216_219.out _; refine Sh.pl ?_; exact BK216.out⟩
          have n2_ : Aside0 (((w69.setCell ⟨gb219, 0, none⟩ (.int .i64 ((rd_T52 l1_1 x23_2).f0))).setCell ⟨gb219, 1, none⟩ (.slice A218_1 ((rd_T52 l1_1 x23_2).f1).length c218_1)).heap[gb219]? = some (.cells #[.int .i64 ((rd_T52 l1_1 x23_2).f0), .slice A218_1 ((rd_T52 l1_1 x23_2).f1).length c218_1] 52 (0, 0))) := ⟨by refine Sh.pl ?_; refine blk_put (cs := #[.int .i64 ((rd_T52 l1_1 x23_2).f0), .slice none 0 0]) ?_ 1 _ rfl; refine Sh.pl ?_; refine blk_put (cs := #[.int .i64 0, .slice none 0 0]) ?_ 0 _ rfl; refine Sh.pl ?_; exact BK219.out⟩
          have n3_ : Aside0 (Below w.heap.size w ((w69.setCell ⟨gb219, 0, none⟩ (.int .i64 ((rd_T52 l1_1 x23_2).f0))).setCell ⟨gb219, 1, none⟩ (.slice A218_1 ((rd_T52 l1_1 x23_2).f1).length c218_1))) := ⟨Sh.bw⟩
          (try clear BK215)
          (try clear BK216)
          (try clear BK219)
          (try clear HB)
          generalize ((w69.setCell ⟨gb219, 0, none⟩ (.int .i64 ((rd_T52 l1_1 x23_2).f0))).setCell ⟨gb219, 1, none⟩ (.slice A218_1 ((rd_T52 l1_1 x23_2).f1).length c218_1)) = w73 at n0_ n1_ n2_ n3_ ⊢
          have BK215 := n0_
          have BK216 := n1_
          have BK219 := n2_
          have HB := n3_
          clear n0_ n1_ n2_ n3_
          replace BK215 := am_ (blk_drew BK215.out)
          replace BK216 := am_ (blk_drew BK216.out)
          replace BK219 := am_ (blk_drew BK219.out)
          replace HB := am_ (below_drew1 HB.out)
          refine start_ (n := 33) (S := fun w' => w'.cell? ⟨gb219, 0, none⟩ = some (.int .i64 ((rd_T52 l1_1 x23_2).f0)) ∧ w'.cell? ⟨gb219, 1, none⟩ = some (.slice A218_1 ((rd_T52 l1_1 x23_2).f1).length c218_1) ∧ w'.cell? ⟨gb215, 0, none⟩ = some (.int .i64 a0_0) ∧ w'.cell? ⟨gb215, 1, none⟩ = some (.int .i64 a0_1) ∧ w'.cell? ⟨gb215, 2, none⟩ = some (.slice A0_2 l0_2.length c0_2) ∧ w'.cell? ⟨gb215, 3, none⟩ = some (.slice A0_3 l0_3.length c0_3)) (ds := []) (Sh.nm 33 0) (by kernel_rfl) rfl rfl Sh.cs (fun hHeld => ?_); refine with_tabW spec_l7Command.tab6 spec_l7Command.bits6 (fun HT_ HW_ => ?_)
          generalize w73.drew = w74 at BK215 BK216 BK219 HB hHeld ⊢
          refine Sh.qA 0 ?_; refine Sh.qA 2 ?_; refine Sh.qT 1 hHeld ?_; refine Sh.qT 3 hHeld ?_; refine Sh.qA 4 ?_
          refine Sh.oC 5 Try.func19 #[.int .i64 ((rd_T52 l1_1 x23_2).f0), .int .i64 0, .int .i64 (wrap64 (a0_1 - 1))] fun K hK => ?_
          with_reducible refine (spec_l1In.calls ((rd_T52 l1_1 x23_2).f0) 0 (wrap64 (a0_1 - 1)) false _ A24.out).mono ?_
          rintro e w' ⟨rfl, ⟨nd, rfl⟩⟩
          refine ⟨_, rfl, ?_⟩
          refine Sh.kN hK Sh.cs fun hHeld => ?_
          clear hK K
          refine Sh.qA 6 ?_; refine Sh.qA 7 ?_; refine Sh.qU 8 ?_; refine Sh.qU 9 ?_; refine Sh.qU 10 ?_; refine Sh.qU 11 ?_; refine Sh.qU 12 ?_; refine Sh.qU 13 ?_; refine Sh.qU 14 ?_; refine Sh.qU 15 ?_; refine Sh.qU 16 ?_; refine Sh.qU 17 ?_; refine Sh.qU 18 ?_; refine Sh.qU 19 ?_; refine Sh.qU 20 ?_; refine Sh.qU 21 ?_; refine Sh.qA 22 ?_; refine Sh.qA 23 ?_; refine Sh.qU 24 ?_; refine Sh.qU 25 ?_; refine Sh.qU 26 ?_; refine Sh.qU 27 ?_; refine Sh.qU 28 ?_; refine Sh.qU 29 ?_; refine Sh.qU 30 ?_; refine Sh.qU 31 ?_; refine Sh.qA 32 ?_
          refine done_ (done_of HT_.out (by kernel_rfl)) ?_
          try go_wp2
          go_ret
          exact ⟨Sh.eR, Sh.bw⟩
        ·rw [if_neg c23] at H
         exact absurd H (by simp)
       ·rw [if_neg c22] at H
        exact absurd H (by simp)
      ·rw [if_neg c21] at H
       have c21b0 := decide_eq_false c21
       clear c21
       obtain rfl := Option.some.inj H
       go_wp2
       go_ret
       exact ⟨Sh.eR, Sh.bw⟩
mutual
def spec_GoodProgram.j0 : Nat → Bool → Int → Int → List (S73) → List (S50) → Option (Bool)
 | 0, _, _, _, _, _ => none
 | k + 1, x16, x225000, x225001, x225002, x225003 => if x16 = true then (some false) else (spec_GoodProgram.l0 k x225003 (x225003.length : Int) 0 x225000 x225001 x225002 x225003)
def spec_GoodProgram.l0 : Nat → List (S50) → Int → Int → Int → Int → List (S73) → List (S50) → Option (Bool)
 | 0, _, _, _, _, _, _, _ => none
 | k + 1, x18, x19, x20, x225000, x225001, x225002, x225003 => if x20 < x19 then (if 0 ≤ x20 then (if x20 < (x18.length : Int) then ((spec_l7Command.f k x225000 x225001 x225002 x225003 ((rd_T50 x18 x20).f0) ((rd_T50 x18 x20).f1)).bind fun t229 => (if t229 = true then (spec_GoodProgram.l0 k x18 x19 (wrap64 (x20 + 1)) x225000 x225001 x225002 x225003) else (some false))) else (none)) else (none)) else (some true)
end
def spec_GoodProgram.f (k : Nat) (a0_0 : Int) (a0_1 : Int) (l0_2 : List (S73)) (l0_3 : List (S50)) : Option (Bool) := (spec_l7Asks.f k a0_0 a0_1 l0_2 l0_3 l0_2).bind fun t225 => (if t225 = true then ((spec_l1In.f (l0_3.length : Int) 1 6).bind fun t226 => (spec_GoodProgram.j0 k (!t226) a0_0 a0_1 l0_2 l0_3)) else (spec_GoodProgram.j0 k true a0_0 a0_1 l0_2 l0_3))
theorem spec_GoodProgram.mono_l : ∀ k, (∀ y0 y1 y2 y3 y4, LeO (spec_GoodProgram.j0 k y0 y1 y2 y3 y4) (spec_GoodProgram.j0 (k + 1) y0 y1 y2 y3 y4)) ∧ (∀ y0 y1 y2 y3 y4 y5 y6, LeO (spec_GoodProgram.l0 k y0 y1 y2 y3 y4 y5 y6) (spec_GoodProgram.l0 (k + 1) y0 y1 y2 y3 y4 y5 y6))
 | 0 => ⟨fun _ _ _ _ _ r h => by simp [spec_GoodProgram.j0] at h, fun _ _ _ _ _ _ _ r h => by simp [spec_GoodProgram.l0] at h⟩
 | k + 1 => by
  obtain ⟨ih0, ih1⟩ := spec_GoodProgram.mono_l k
  and_intros <;> intros
  all_goals (first | unfold spec_GoodProgram.j0 | unfold spec_GoodProgram.l0)
  all_goals repeat' with_reducible first | apply ih0 | apply ih1 | apply spec_l7Asks.mono | apply spec_l7Command.mono | exact LeO.refl _ | exact LeO.none _ | apply LeO.ite | refine LeO.bind ?_ fun _ => ?_
theorem spec_GoodProgram.mono : ∀ a0 a1 a2 a3 k, LeO (spec_GoodProgram.f k a0 a1 a2 a3) (spec_GoodProgram.f (k + 1) a0 a1 a2 a3) := by
 intro a0 a1 a2 a3 k
 obtain ⟨ih0, ih1⟩ := spec_GoodProgram.mono_l k
 unfold spec_GoodProgram.f
 repeat' with_reducible first | apply ih0 | apply ih1 | apply spec_l7Asks.mono | apply spec_l7Command.mono | exact LeO.refl _ | exact LeO.none _ | apply LeO.ite | refine LeO.bind ?_ fun _ => ?_
theorem spec_GoodProgram.calls (k : Nat) (a0_0 : Int) (a0_1 : Int) (A0_2 : Option Addr) (c0_2 : Nat) (l0_2 : List (S73)) (A0_3 : Option Addr) (c0_3 : Nat) (l0_3 : List (S50)) (r : Bool) (w : World) (hr0_2 : Kd.C k73 w A0_2 l0_2.length l0_2) (hc0_2 : l0_2.length ≤ c0_2) (hr0_3 : Kd.C k50 w A0_3 l0_3.length l0_3) (hc0_3 : l0_3.length ≤ c0_3) (h : spec_GoodProgram.f k a0_0 a0_1 l0_2 l0_3 = some r) :
  Calls Try.prog 18 #[.agg #[.int .i64 a0_0, .int .i64 a0_1, .slice A0_2 l0_2.length c0_2, .slice A0_3 l0_3.length c0_3]] w fun e w' => e = .returned (.bool r) ∧ Below w.heap.size w w' := by
 have hu33 := Try.underlying33
 have hu50 := Try.underlying50
 have HR0_2 := am_ hr0_2
 have HC0_2 := am_ hc0_2
 clear hr0_2 hc0_2
 have HR0_3 := am_ hr0_3
 have HC0_3 := am_ hc0_3
 clear hr0_3 hc0_3
 have HB := am_ (Below.refl w.heap.size w)
 have H := h
 clear h
 unfold spec_GoodProgram.f at H
 have HC2 := am_ H
 clear H
 go_enter Try.func18, Try.ntmps18
 go_upto_region 1 with (first | ((with_reducible refine Sh.d 1 ?_); (try (refine gate_guard (by rfl) ?_; dsimp only)); refine Sh.bz w (N := 1) (cs := #[.int .i64 a0_0, .int .i64 a0_1, .slice A0_2 l0_2.length c0_2, .slice A0_3 l0_3.length c0_3]) (t := 33) (h := ?_); clear HB; intro gb224 w3 BK224 GE224 HB))
 (try simp only [Act.put, List.setIfInBounds_toArray, List.set_cons_zero, List.set_cons_succ])
 go_cut [16] (fun v16 wc => ∃ (kq : Nat) (x16_1 : Bool), v16 = .bool x16_1 ∧ Aside0 (spec_GoodProgram.j0 kq x16_1 a0_0 a0_1 l0_2 l0_3 = some r) ∧ Aside0 (kq ≤ k) ∧ Aside0 (wc.heap[gb224]? = some (.cells #[.int .i64 a0_0, .int .i64 a0_1, (.slice A0_2 l0_2.length c0_2), (.slice A0_3 l0_3.length c0_3)] 33 (0, 0))) ∧ Aside0 (Below w.heap.size w wc))
 case first =>
  have H := HC2.out
  clear HC2
  obtain ⟨t225, A4, H⟩ := Sh.ba H
  by_cases c5 : t225 = true
  ·subst c5
   rw [if_pos rfl] at H
   obtain ⟨t226, A6, H⟩ := Sh.ba H
   have H' := am_ H
   clear H
   have hcz7_0 := Sh.bc BK224.out 0
   have hcz7_1 := Sh.bc BK224.out 1
   have hcz7_2 := Sh.bc BK224.out 2
   have hcz7_3 := Sh.bc BK224.out 3
   have hfz7_0 := blk_frozen BK224.out 0
   have hfz7_1 := blk_frozen BK224.out 1
   have hfz7_2 := blk_frozen BK224.out 2
   have hfz7_3 := blk_frozen BK224.out 3
   go_wp2_with (first | ((with_reducible refine Sh.k 39 ?_); refine Sh.gB (some 8) Try.func39 #[.agg #[.int .i64 a0_0, .int .i64 a0_1, .slice A0_2 l0_2.length c0_2, .slice A0_3 l0_3.length c0_3], .slice A0_2 l0_2.length c0_2] (spec_l7Asks.calls k a0_0 a0_1 _ _ l0_2 _ _ l0_3 _ _ l0_2 true _ (Sh.cB HR0_2.out) HC0_2.out (Sh.cB HR0_3.out) HC0_3.out (Sh.cB HR0_2.out) HC0_2.out A4.out) fun w8 hb => ?_; replace BK224 := Sh.ab BK224 hb; replace HB := Sh.hb hb; (try clear hb); (try clear hb2); (try clear hk); (try clear hi); obtain ⟨hcz9_0, hcz9_1, hcz9_2, hcz9_3, hfz9_0, hfz9_1, hfz9_2, hfz9_3⟩ := Sh.b4 BK224.out) | (go_at_call 19; (with_reducible refine (spec_l1In.calls (l0_3.length : Int) 1 6 t226 _ A6.out).mono ?_); rintro e w' ⟨rfl, ⟨nd, rfl⟩⟩))
   go_meet
   case rel => exact ⟨_, (!t226), (Sh.es), H', ⟨Sh.om⟩, ⟨by refine Sh.pl ?_; exact BK224.out⟩, ⟨Sh.bw⟩⟩
  ·replace c5 := Bool.eq_false_iff.mpr c5
   subst c5
   rw [Sh.nf] at H
   have H' := am_ H
   clear H
   have hcz10_0 := Sh.bc BK224.out 0
   have hcz10_1 := Sh.bc BK224.out 1
   have hcz10_2 := Sh.bc BK224.out 2
   have hcz10_3 := Sh.bc BK224.out 3
   have hfz10_0 := blk_frozen BK224.out 0
   have hfz10_1 := blk_frozen BK224.out 1
   have hfz10_2 := blk_frozen BK224.out 2
   have hfz10_3 := blk_frozen BK224.out 3
   go_wp2_with (first | ((with_reducible refine Sh.k 39 ?_); refine Sh.gB (some 8) Try.func39 #[.agg #[.int .i64 a0_0, .int .i64 a0_1, .slice A0_2 l0_2.length c0_2, .slice A0_3 l0_3.length c0_3], .slice A0_2 l0_2.length c0_2] (spec_l7Asks.calls k a0_0 a0_1 _ _ l0_2 _ _ l0_3 _ _ l0_2 false _ (Sh.cB HR0_2.out) HC0_2.out (Sh.cB HR0_3.out) HC0_3.out (Sh.cB HR0_2.out) HC0_2.out A4.out) fun w11 hb => ?_; replace BK224 := Sh.ab BK224 hb; replace HB := Sh.hb hb; (try clear hb); (try clear hb2); (try clear hk); (try clear hi)))
   go_meet
   case rel => exact ⟨_, (true), (Sh.es), H', ⟨Sh.om⟩, ⟨by refine Sh.pl ?_; exact BK224.out⟩, ⟨Sh.bw⟩⟩
 case rest =>
  clear HC2
  try clear hcz10_0
  try clear hcz10_1
  try clear hcz10_2
  try clear hcz10_3
  try clear hcz7_0
  try clear hcz7_1
  try clear hcz7_2
  try clear hcz7_3
  try clear hcz9_0
  try clear hcz9_1
  try clear hcz9_2
  try clear hcz9_3
  try clear hfz10_0
  try clear hfz10_1
  try clear hfz10_2
  try clear hfz10_3
  try clear hfz7_0
  try clear hfz7_1
  try clear hfz7_2
  try clear hfz7_3
  try clear hfz9_0
  try clear hfz9_1
  try clear hfz9_2
  try clear hfz9_3
  obtain ⟨kq, x16_1, rfl, HA, HJ1, BK224, HB⟩ := hcut
  cases kq with
  | zero => exact absurd HA.out (by simp [spec_GoodProgram.j0])
  | succ kj1 =>
   have H := HA.out
   clear HA
   simp only [spec_GoodProgram.j0] at H
   by_cases c12 : x16_1 = true
   ·subst c12
    rw [if_pos rfl] at H
    obtain rfl := Option.some.inj H
    go_wp2
    go_ret
    exact ⟨Sh.eR, Sh.bw⟩
   ·replace c12 := Bool.eq_false_iff.mpr c12
    subst c12
    rw [Sh.nf] at H
    have H' := am_ H
    clear H
    have hcz13_0 := Sh.bc BK224.out 0
    have hcz13_1 := Sh.bc BK224.out 1
    have hcz13_2 := Sh.bc BK224.out 2
    have hcz13_3 := Sh.bc BK224.out 3
    have hfz13_0 := blk_frozen BK224.out 0
    have hfz13_1 := blk_frozen BK224.out 1
    have hfz13_2 := blk_frozen BK224.out 2
    have hfz13_3 := blk_frozen BK224.out 3
    go_wp2
    go_loopg [20] kj1 (fun kq v20 w' => ∃ (x20_2 : Int), v20 = .int .i64 x20_2 ∧ Aside0 (spec_GoodProgram.l0 kq l0_3 (l0_3.length : Int) x20_2 a0_0 a0_1 l0_2 l0_3 = some r) ∧ Aside0 (kq ≤ kj1) ∧ Aside0 (w'.heap[gb224]? = some (.cells #[.int .i64 a0_0, .int .i64 a0_1, (.slice A0_2 l0_2.length c0_2), (.slice A0_3 l0_3.length c0_3)] 33 (0, 0))) ∧ Aside0 (Below w.heap.size w w'))
    case atStart => exact ⟨(0), (Sh.es), H', ⟨Nat.le_refl _⟩, ⟨by refine Sh.pl ?_; exact BK224.out⟩, ⟨Sh.bw⟩⟩
    case round =>
     clear H'
     try clear hcz10_0
     try clear hcz10_1
     try clear hcz10_2
     try clear hcz10_3
     try clear hcz13_0
     try clear hcz13_1
     try clear hcz13_2
     try clear hcz13_3
     try clear hcz7_0
     try clear hcz7_1
     try clear hcz7_2
     try clear hcz7_3
     try clear hcz9_0
     try clear hcz9_1
     try clear hcz9_2
     try clear hcz9_3
     try clear hfz10_0
     try clear hfz10_1
     try clear hfz10_2
     try clear hfz10_3
     try clear hfz13_0
     try clear hfz13_1
     try clear hfz13_2
     try clear hfz13_3
     try clear hfz7_0
     try clear hfz7_1
     try clear hfz7_2
     try clear hfz7_3
     try clear hfz9_0
     try clear hfz9_1
     try clear hfz9_2
     try clear hfz9_3
     obtain ⟨x20_2, rfl, HA, HK2, BK224, HB⟩ := hrel
     cases gk with
     | zero => exact absurd HA.out (by simp [spec_GoodProgram.l0])
     | succ k2 =>
      have H := HA.out
      clear HA
      simp only [spec_GoodProgram.l0] at H
      by_cases c14 : x20_2 < (l0_3.length : Int)
      ·rw [if_pos c14] at H
       have c14b0 := decide_eq_true c14
       clear c14
       by_cases c15 : 0 ≤ x20_2
       ·rw [if_pos c15] at H
        have c15b0 := decide_eq_true c15
        clear c15
        by_cases c16 : x20_2 < (l0_3.length : Int)
        ·rw [if_pos c16] at H
         have c16b0 := decide_eq_true c16
         clear c16
         obtain ⟨t229, A17, H⟩ := Sh.ba H
         by_cases c18 : t229 = true
         ·subst c18
          rw [if_pos rfl] at H
          have H' := am_ H
          clear H
          have p227 : 0 ≤ (x20_2 : Int) := Sh.od
          have q227 : x20_2 < (l0_3.length : Int) := Sh.od
          obtain ⟨ad227, A227_0, c227_0, A227_1, c227_1, e227, hx227_0, hx227_1, hl227_0, hi227_0, hl227_1, hi227_1⟩ := at_T50 HR0_3.out x20_2 p227 q227
          cases e227
          try replace hx227_0 := Sh.cw hx227_0
          try replace hx227_1 := Sh.cw hx227_1
          have HR227_0 := am_ hi227_0
          have HC227_0 := am_ hl227_0
          clear hi227_0 hl227_0
          have HR227_1 := am_ hi227_1
          have HC227_1 := am_ hl227_1
          clear hi227_1 hl227_1
          replace p227 := eq_true p227
          replace q227 := eq_true q227
          go_wp2_with (first | ((with_reducible refine Sh.d 4 ?_); (try (refine gate_guard (by rfl) ?_; dsimp only)); refine Sh.bx (N := 4) (cs := #[.slice none 0 0, .slice none 0 0]) (t := 50) (h := ?_); intro gb228 hg w19 hbox hb; have BK228 := am_ hbox; have GE228 := Sh.ag w hg; replace HB := Sh.hb hb; have NB224_228 := am_ (Sh.nl hg BK224.out); have NB228_224 := am_ (Sh.ng hg BK224.out); replace BK224 := Sh.ab BK224 hb; clear hb hbox hg; have hnb20 := NB228_224.out; have hnc20 := NB224_228.out; obtain ⟨hcz21_0, hcz21_1, hfz21_0, hfz21_1⟩ := Sh.b2 BK228.out; obtain ⟨hcz22_0, hcz22_1, hcz22_2, hcz22_3, hfz22_0, hfz22_1, hfz22_2, hfz22_3⟩ := Sh.b4 BK224.out) | ((with_reducible refine Sh.k 40 ?_); refine Sh.gB (some 26) Try.func40 #[.agg #[.int .i64 a0_0, .int .i64 a0_1, .slice A0_2 l0_2.length c0_2, .slice (some ad227) l0_3.length c0_3], .agg #[.slice A227_0 ((rd_T50 l0_3 x20_2).f0).length c227_0, .slice A227_1 ((rd_T50 l0_3 x20_2).f1).length c227_1]] (spec_l7Command.calls k2 a0_0 a0_1 _ _ l0_2 _ _ l0_3 _ _ ((rd_T50 l0_3 x20_2).f0) _ _ ((rd_T50 l0_3 x20_2).f1) true _ (Sh.cB HR0_2.out) HC0_2.out (Sh.cB HR0_3.out) HC0_3.out (Sh.cB HR227_0.out) HC227_0.out (Sh.cB HR227_1.out) HC227_1.out A17.out) fun w23 hb => ?_; replace BK224 := am_ (blk_below (g := gb224) (o := .cells #[.int .i64 a0_0, .int .i64 a0_1, .slice A0_2 l0_2.length c0_2, .slice (some ad227) l0_3.length c0_3] 33 (0, 0)) (by refine Sh.pl ?_; refine blk_far ?_ NB224_228.out _; refine Sh.pl ?_; refine blk_far ?_ NB224_228.out _; refine Sh.pl ?_; exact BK224.out) hb); replace BK228 := am_ (blk_below (g := gb228) (o := .cells #[.slice A227_0 ((rd_T50 l0_3 x20_2).f0).length c227_0, .slice A227_1 ((rd_T50 l0_3 x20_2).f1).length c227_1] 50 (0, 0)) (by refine Sh.pl ?_; refine blk_put (cs := #[.slice A227_0 ((rd_T50 l0_3 x20_2).f0).length c227_0, .slice none 0 0]) ?_ 1 _ rfl; refine Sh.pl ?_; refine blk_put (cs := #[.slice none 0 0, .slice none 0 0]) ?_ 0 _ rfl; refine Sh.pl ?_; exact BK228.out) hb); replace HB := Sh.hb hb; (try clear hb); (try clear hb2); (try clear hk); (try clear hi)))
          go_roundg k2
          case measure => have := HJ1.out; have := HK2.out; omega
          case rel => exact ⟨(wrap64 (x20_2 + 1)), (Sh.es), H', ⟨by have := HJ1.out; have := HK2.out; omega⟩, ⟨by refine Sh.pl ?_; exact BK224.out⟩, ⟨Sh.bw⟩⟩
         ·replace c18 := Bool.eq_false_iff.mpr c18
          subst c18
          rw [Sh.nf] at H
          obtain rfl := Option.some.inj H
          have p227 : 0 ≤ (x20_2 : Int) := Sh.od
          have q227 : x20_2 < (l0_3.length : Int) := Sh.od
          obtain ⟨ad227, A227_0, c227_0, A227_1, c227_1, e227, hx227_0, hx227_1, hl227_0, hi227_0, hl227_1, hi227_1⟩ := at_T50 HR0_3.out x20_2 p227 q227
          cases e227
          try replace hx227_0 := Sh.cw hx227_0
          try replace hx227_1 := Sh.cw hx227_1
          have HR227_0 := am_ hi227_0
          have HC227_0 := am_ hl227_0
          clear hi227_0 hl227_0
          have HR227_1 := am_ hi227_1
          have HC227_1 := am_ hl227_1
          clear hi227_1 hl227_1
          replace p227 := eq_true p227
          replace q227 := eq_true q227
          go_wp2_with (first | ((with_reducible refine Sh.d 4 ?_); (try (refine gate_guard (by rfl) ?_; dsimp only)); refine Sh.bx (N := 4) (cs := #[.slice none 0 0, .slice none 0 0]) (t := 50) (h := ?_); intro gb228 hg w24 hbox hb; have BK228 := am_ hbox; have GE228 := Sh.ag w hg; replace HB := Sh.hb hb; have NB224_228 := am_ (Sh.nl hg BK224.out); have NB228_224 := am_ (Sh.ng hg BK224.out); replace BK224 := Sh.ab BK224 hb; clear hb hbox hg; have hnb25 := NB228_224.out; have hnc25 := NB224_228.out; obtain ⟨hcz26_0, hcz26_1, hfz26_0, hfz26_1⟩ := Sh.b2 BK228.out; obtain ⟨hcz27_0, hcz27_1, hcz27_2, hcz27_3, hfz27_0, hfz27_1, hfz27_2, hfz27_3⟩ := Sh.b4 BK224.out) | ((with_reducible refine Sh.k 40 ?_); refine Sh.gB (some 26) Try.func40 #[.agg #[.int .i64 a0_0, .int .i64 a0_1, .slice A0_2 l0_2.length c0_2, .slice (some ad227) l0_3.length c0_3], .agg #[.slice A227_0 ((rd_T50 l0_3 x20_2).f0).length c227_0, .slice A227_1 ((rd_T50 l0_3 x20_2).f1).length c227_1]] (spec_l7Command.calls k2 a0_0 a0_1 _ _ l0_2 _ _ l0_3 _ _ ((rd_T50 l0_3 x20_2).f0) _ _ ((rd_T50 l0_3 x20_2).f1) false _ (Sh.cB HR0_2.out) HC0_2.out (Sh.cB HR0_3.out) HC0_3.out (Sh.cB HR227_0.out) HC227_0.out (Sh.cB HR227_1.out) HC227_1.out A17.out) fun w28 hb => ?_; replace BK224 := am_ (blk_below (g := gb224) (o := .cells #[.int .i64 a0_0, .int .i64 a0_1, .slice A0_2 l0_2.length c0_2, .slice (some ad227) l0_3.length c0_3] 33 (0, 0)) (by refine Sh.pl ?_; refine blk_far ?_ NB224_228.out _; refine Sh.pl ?_; refine blk_far ?_ NB224_228.out _; refine Sh.pl ?_; exact BK224.out) hb); replace BK228 := am_ (blk_below (g := gb228) (o := .cells #[.slice A227_0 ((rd_T50 l0_3 x20_2).f0).length c227_0, .slice A227_1 ((rd_T50 l0_3 x20_2).f1).length c227_1] 50 (0, 0)) (by refine Sh.pl ?_; refine blk_put (cs := #[.slice A227_0 ((rd_T50 l0_3 x20_2).f0).length c227_0, .slice none 0 0]) ?_ 1 _ rfl; refine Sh.pl ?_; refine blk_put (cs := #[.slice none 0 0, .slice none 0 0]) ?_ 0 _ rfl; refine Sh.pl ?_; exact BK228.out) hb); replace HB := Sh.hb hb; (try clear hb); (try clear hb2); (try clear hk); (try clear hi)))
          go_ret
          exact ⟨Sh.eR, Sh.bw⟩
        ·rw [if_neg c16] at H
         exact absurd H (by simp)
       ·rw [if_neg c15] at H
        exact absurd H (by simp)
      ·rw [if_neg c14] at H
       have c14b0 := decide_eq_false c14
       clear c14
       obtain rfl := Option.some.inj H
       go_wp2
       go_ret
       exact ⟨Sh.eR, Sh.bw⟩
def spec_l1Put.l0 : Nat → List Int → Int → Int → Option (List Int)
 | 0, _, _, _ => none
 | k + 1, x0, x1, x5 => if x5 < (x0.length : Int) then (if 0 ≤ x5 then (if (rd x0 x5) < x1 then (spec_l1Put.l0 k x0 x1 (wrap64 (x5 + 1))) else (if (rd x0 x5) = x1 then (some x0) else ((some (([] : List Int) : List Int)).bind fun y232 => (if x5 ≤ (x0.length : Int) then ((some (x0.take (x5 : Int).toNat : List Int)).bind fun y235 => (if y232.length + y235.length < 17592186044416 then ((some (y232 ++ y235 : List Int)).bind fun y239 => (if y239.length < 17592186044416 then ((some (y239 ++ [x1] : List Int)).bind fun y242 => ((some (x0.drop (x5 : Int).toNat : List Int)).bind fun y245 => (if y242.length + y245.length < 17592186044416 then (some (y242 ++ y245)) else (none)))) else (none))) else (none))) else (none))))) else (none)) else ((some (([] : List Int) : List Int)).bind fun y252 => (if 0 ≤ x5 then (if x5 ≤ (x0.length : Int) then ((some (x0.take (x5 : Int).toNat : List Int)).bind fun y255 => (if y252.length + y255.length < 17592186044416 then ((some (y252 ++ y255 : List Int)).bind fun y259 => (if y259.length < 17592186044416 then ((some (y259 ++ [x1] : List Int)).bind fun y262 => ((some (x0.drop (x5 : Int).toNat : List Int)).bind fun y265 => (if y262.length + y265.length < 17592186044416 then (some (y262 ++ y265)) else (none)))) else (none))) else (none))) else (none)) else (none)))
def spec_l1Put.f (k : Nat) (l0 : List Int) (a1 : Int) : Option (List Int) := spec_l1Put.l0 k l0 a1 0
theorem spec_l1Put.mono_l : ∀ k, (∀ y0 y1 y2, LeO (spec_l1Put.l0 k y0 y1 y2) (spec_l1Put.l0 (k + 1) y0 y1 y2))
 | 0 => fun _ _ _ r h => by simp [spec_l1Put.l0] at h
 | k + 1 => by
  have ih0 := spec_l1Put.mono_l k
  ·intro y0 y1 y2
   unfold spec_l1Put.l0
   repeat' with_reducible first | apply ih0 | exact LeO.refl _ | exact LeO.none _ | apply LeO.ite | refine LeO.bind ?_ fun _ => ?_
theorem spec_l1Put.mono : ∀ a0 a1 k, LeO (spec_l1Put.f k a0 a1) (spec_l1Put.f (k + 1) a0 a1) := by
 intro a0 a1 k
 have ih0 := spec_l1Put.mono_l k
 unfold spec_l1Put.f
 repeat' with_reducible first | apply ih0 | exact LeO.refl _ | exact LeO.none _ | apply LeO.ite | refine LeO.bind ?_ fun _ => ?_
theorem spec_l1Put.calls (k : Nat) (P0_ : Nat → Prop) (u9000_ : Value) (l0 : List Int) (a1 : Int) (r : List Int) (w0 w : World) (hB : Below w0.heap.size w0 w) (ho0 : Kd.R (Kd.int .i64) 3 w w0.heap.size P0_ u9000_ l0) (h : spec_l1Put.f k l0 a1 = some r) :
  Calls Try.prog 21 #[u9000_, .int .i64 a1] w fun e w' => ∃ v0_ : Value, e = .returned (v0_) ∧ Kd.R (Kd.int .i64) 3 w' w0.heap.size (fun k_ => (P0_ k_ ∨ w.heap.size ≤ k_)) v0_ r ∧ Below w0.heap.size w0 w' ∧ Kept w w' (fun k_ => P0_ k_) := by
 have HO0 := am_ (show Kd.R (Kd.int .i64) 3 w w0.heap.size (fun k_ => (P0_ k_ ∨ w.heap.size ≤ k_)) u9000_ l0 from Kd.R_mono ho0 (fun k_ hk => (.inl hk)))
 have HK := am_ (Kept.refl w (fun k_ => P0_ k_))
 have HW0 := am_ hB.size
 have HB := am_ hB
 clear hB
 have H := h
 clear h
 unfold spec_l1Put.f at H
 have H' := am_ H
 clear H
 go_enter Try.func21, Try.ntmps21
 go_wp2
 go_loopg [5] k (fun kq v5 w' => ∃ (x5_1 : Int), v5 = .int .i64 x5_1 ∧ Aside0 (spec_l1Put.l0 kq l0 a1 x5_1 = some r) ∧ Aside0 (kq ≤ k) ∧ Aside0 (Kd.R (Kd.int .i64) 3 w' w0.heap.size (fun k_ => (P0_ k_ ∨ w.heap.size ≤ k_)) u9000_ l0) ∧ Aside0 (Kept w w' (fun k_ => P0_ k_)) ∧ Aside0 (Below w0.heap.size w0 w'))
 case atStart => exact ⟨(0), (Sh.es), H', ⟨Nat.le_refl _⟩, ⟨Sh.rl HO0.out⟩, ⟨by repeat (first | (with_reducible first | exact HK.out | apply Kept.alloc | apply Kept.drewN | apply Kept.drew) | exact HK.out)⟩, ⟨Sh.bw⟩⟩
 case round =>
  clear H'
  obtain ⟨x5_1, rfl, HA, HK1, HO_0, HK, HB⟩ := hrel
  cases gk with
  | zero => exact absurd HA.out (by simp [spec_l1Put.l0])
  | succ k1 =>
   have H := HA.out
   clear HA
   simp only [spec_l1Put.l0] at H
   by_cases c3 : x5_1 < (l0.length : Int)
   ·rw [if_pos c3] at H
    have c3b0 := decide_eq_true c3
    clear c3
    by_cases c4 : 0 ≤ x5_1
    ·rw [if_pos c4] at H
     have c4b0 := decide_eq_true c4
     clear c4
     by_cases c5 : (rd l0 x5_1) < a1
     ·rw [if_pos c5] at H
      have c5b0 := decide_eq_true c5
      clear c5
      have H' := am_ H
      clear H
      obtain ⟨Ao6, co6, eo6⟩ := Kd.R_slice HO_0.out
      subst eo6
      have p230 : 0 ≤ (x5_1 : Int) := Sh.od
      have q230 : x5_1 < (l0.length : Int) := Sh.od
      obtain ⟨ad230, e230, hx230_0⟩ := Kd.at_int (Kd.R_reads' HO_0.out).2.2 x5_1 p230 q230
      cases e230
      replace p230 := eq_true p230
      replace q230 := eq_true q230
      go_wp2
      go_roundg k1
      case measure => have := HK1.out; omega
      case rel => exact ⟨(wrap64 (x5_1 + 1)), (Sh.es), H', ⟨by have := HK1.out; omega⟩, ⟨Sh.rl HO_0.out⟩, ⟨by repeat (first | (with_reducible first | exact HK.out | apply Kept.alloc | apply Kept.drewN | apply Kept.drew) | exact HK.out)⟩, ⟨Sh.bw⟩⟩
     ·rw [if_neg c5] at H
      have c5b0 := decide_eq_false c5
      clear c5
      by_cases c7 : (rd l0 x5_1) = a1
      ·rw [if_pos c7] at H
       have c7b0 : ((rd l0 x5_1) == a1) = true := beq_iff_eq.mpr c7
       have c7b1 : ((rd l0 x5_1) != a1) = false := bne_eq_false_iff_eq.mpr c7
       clear c7
       obtain rfl := Option.some.inj H
       obtain ⟨Ao8, co8, eo8⟩ := Kd.R_slice HO_0.out
       subst eo8
       have p230 : 0 ≤ (x5_1 : Int) := Sh.od
       have q230 : x5_1 < (l0.length : Int) := Sh.od
       obtain ⟨ad230, e230, hx230_0⟩ := Kd.at_int (Kd.R_reads' HO_0.out).2.2 x5_1 p230 q230
       cases e230
       replace p230 := eq_true p230
       replace q230 := eq_true q230
       have p231 : 0 ≤ (x5_1 : Int) := Sh.od
       have q231 : x5_1 < (l0.length : Int) := Sh.od
       obtain ⟨ad231, e231, hx231_0⟩ := Kd.at_int (Kd.R_reads' HO_0.out).2.2 x5_1 p231 q231
       obtain rfl : ad230 = ad231 := (by injection e231)
       replace p231 := eq_true p231
       replace q231 := eq_true q231
       go_wp2
       go_ret
       exact ⟨_, Sh.eR, Sh.rl HO_0.out, Sh.bw, by repeat (first | (with_reducible first | exact HK.out | apply Kept.alloc | apply Kept.drewN | apply Kept.drew) | exact HK.out)⟩
      ·rw [if_neg c7] at H
       have c7b0 : ((rd l0 x5_1) == a1) = false := beq_eq_false_iff_ne.mpr c7
       have c7b1 : ((rd l0 x5_1) != a1) = true := bne_iff_ne.mpr c7
       obtain ⟨y232, hy232⟩ : ∃ y_ : List Int, y_ = (([] : List Int)) := ⟨_, rfl⟩
       replace H : (if x5_1 ≤ (l0.length : Int) then ((some (l0.take (x5_1 : Int).toNat : List Int)).bind fun y235 => (if y232.length + y235.length < 17592186044416 then ((some (y232 ++ y235 : List Int)).bind fun y239 => (if y239.length < 17592186044416 then ((some (y239 ++ [a1] : List Int)).bind fun y242 => ((some (l0.drop (x5_1 : Int).toNat : List Int)).bind fun y245 => (if y242.length + y245.length < 17592186044416 then (some (y242 ++ y245)) else (none)))) else (none))) else (none))) else (none)) = some r := by first | (rw [hy232]; with_reducible exact H) | (have H2_ := (Option.bind_some _ _).symm.trans H; rw [hy232]; with_reducible exact H2_) | (have H2_ := (Option.bind_some _ _).symm.trans H; with_reducible exact H2_) | with_reducible exact H | (rw [hy232]; exact H) | exact H
       have Ny232 := am_ hy232
       clear hy232
       have c9b0 := eq_true (of_decide_eq_true (by first | (with_reducible assumption) | assumption) : 0 ≤ x5_1)
       by_cases c10 : x5_1 ≤ (l0.length : Int)
       ·rw [if_pos c10] at H
        have c10b0 := eq_true c10
        have c10b1 := decide_eq_true c10
        clear c10
        obtain ⟨y235, hy235⟩ : ∃ y_ : List Int, y_ = (l0.take (x5_1 : Int).toNat) := ⟨_, rfl⟩
        replace H : (if y232.length + y235.length < 17592186044416 then ((some (y232 ++ y235 : List Int)).bind fun y239 => (if y239.length < 17592186044416 then ((some (y239 ++ [a1] : List Int)).bind fun y242 => ((some (l0.drop (x5_1 : Int).toNat : List Int)).bind fun y245 => (if y242.length + y245.length < 17592186044416 then (some (y242 ++ y245)) else (none)))) else (none))) else (none)) = some r := by first | (rw [hy235]; with_reducible exact H) | (have H2_ := (Option.bind_some _ _).symm.trans H; rw [hy235]; with_reducible exact H2_) | (have H2_ := (Option.bind_some _ _).symm.trans H; with_reducible exact H2_) | with_reducible exact H | (rw [hy235]; exact H) | exact H
        have Ny235 := am_ hy235
        clear hy235
        by_cases c11 : y232.length + y235.length < 17592186044416
        ·rw [if_pos c11] at H
         have LMc11 := am_ c11
         clear c11
         obtain ⟨y239, hy239⟩ : ∃ y_ : List Int, y_ = (y232 ++ y235) := ⟨_, rfl⟩
         replace H : (if y239.length < 17592186044416 then ((some (y239 ++ [a1] : List Int)).bind fun y242 => ((some (l0.drop (x5_1 : Int).toNat : List Int)).bind fun y245 => (if y242.length + y245.length < 17592186044416 then (some (y242 ++ y245)) else (none)))) else (none)) = some r := by first | (rw [hy239]; with_reducible exact H) | (have H2_ := (Option.bind_some _ _).symm.trans H; rw [hy239]; with_reducible exact H2_) | (have H2_ := (Option.bind_some _ _).symm.trans H; with_reducible exact H2_) | with_reducible exact H | (rw [hy239]; exact H) | exact H
         have Ny239 := am_ hy239
         clear hy239
         by_cases c12 : y239.length < 17592186044416
         ·rw [if_pos c12] at H
          have LMc12 := am_ c12
          clear c12
          obtain ⟨y242, hy242⟩ : ∃ y_ : List Int, y_ = (y239 ++ [a1]) := ⟨_, rfl⟩
          replace H : ((some (l0.drop (x5_1 : Int).toNat : List Int)).bind fun y245 => (if y242.length + y245.length < 17592186044416 then (some (y242 ++ y245)) else (none))) = some r := by first | (rw [hy242]; with_reducible exact H) | (have H2_ := (Option.bind_some _ _).symm.trans H; rw [hy242]; with_reducible exact H2_) | (have H2_ := (Option.bind_some _ _).symm.trans H; with_reducible exact H2_) | with_reducible exact H | (rw [hy242]; exact H) | exact H
          have Ny242 := am_ hy242
          clear hy242
          have c13b0 := eq_true (of_decide_eq_true (by first | (with_reducible assumption) | assumption) : 0 ≤ x5_1)
          have c14b0 := eq_true (of_decide_eq_true (by first | (with_reducible assumption) | assumption) : x5_1 ≤ (l0.length : Int))
          obtain ⟨y245, hy245⟩ : ∃ y_ : List Int, y_ = (l0.drop (x5_1 : Int).toNat) := ⟨_, rfl⟩
          replace H : (if y242.length + y245.length < 17592186044416 then (some (y242 ++ y245)) else (none)) = some r := by first | (rw [hy245]; with_reducible exact H) | (have H2_ := (Option.bind_some _ _).symm.trans H; rw [hy245]; with_reducible exact H2_) | (have H2_ := (Option.bind_some _ _).symm.trans H; with_reducible exact H2_) | with_reducible exact H | (rw [hy245]; exact H) | exact H
          have Ny245 := am_ hy245
          clear hy245
          by_cases c15 : y242.length + y245.length < 17592186044416
          ·rw [if_pos c15] at H
           have LMc15 := am_ c15
           clear c15
           obtain ⟨y249, hy249⟩ : ∃ y_ : List Int, y_ = (y242 ++ y245) := ⟨_, rfl⟩
           replace H : (some y249) = some r := by first | (rw [hy249]; with_reducible exact H) | (have H2_ := (Option.bind_some _ _).symm.trans H; rw [hy249]; with_reducible exact H2_) | (have H2_ := (Option.bind_some _ _).symm.trans H; with_reducible exact H2_) | with_reducible exact H | (rw [hy249]; exact H) | exact H
           have Ny249 := am_ hy249
           clear hy249
           obtain rfl := Option.some.inj H
           obtain ⟨Ao16, co16, eo16⟩ := Kd.R_slice HO_0.out
           subst eo16
           have p230 : 0 ≤ (x5_1 : Int) := Sh.od
           have q230 : x5_1 < (l0.length : Int) := Sh.od
           obtain ⟨ad230, e230, hx230_0⟩ := Kd.at_int (Kd.R_reads' HO_0.out).2.2 x5_1 p230 q230
           cases e230
           replace p230 := eq_true p230
           replace q230 := eq_true q230
           have p231 : 0 ≤ (x5_1 : Int) := Sh.od
           have q231 : x5_1 < (l0.length : Int) := Sh.od
           obtain ⟨ad231, e231, hx231_0⟩ := Kd.at_int (Kd.R_reads' HO_0.out).2.2 x5_1 p231 q231
           obtain rfl : ad230 = ad231 := (by injection e231)
           replace p231 := eq_true p231
           replace q231 := eq_true q231
           go_wp2_with (first | ((with_reducible refine Sh.d 34 ?_); refine Kd.R_lit (Kd.int .i64) _ 3 ?hg (N := 34) ?hd (xs := ([] : List Int)) (inner := []) (ok := fun _ => True) (okp := fun _ => True) ?hr ?hp (fun _ hk => hk) trivial (Below.refl _ _) (Nat.le_refl _) (by simp) ?_; (case hd => rfl); (case hg => rfl); (case hr => first | (go_simp; done) | (go_simp; rfl)); (case hp => exact (Reps.none _ _)); intro v233 w17 ho18 hb hg_ hnew_; clear hg_ hnew_; (first | rw [← Ny232.out] at ho18 | (simp only [Int.reduceToNat] at ho18; rw [← Ny232.out] at ho18)); have HO234 := am_ (Kd.R_lower (Kd.R_new' (Kd.R_newM (M := fun k_ => (P0_ k_ ∨ w.heap.size ≤ k_)) ho18 (by first | exact HK.out.1 | exact (show Kept w _ (fun k_ => P0_ k_) from by repeat (first | (with_reducible first | exact HK.out | apply Kept.alloc | apply Kept.drewN | apply Kept.drew) | exact HK.out)).1) (fun k_ h_ => .inr h_)) (Kd.R_lt (Sh.rl HO_0.out))) (below_size Sh.bw)); replace HO_0 := am_ (Kd.R_elder' (Sh.rl HO_0.out) (Kd.R_base ho18) hb); replace HK := am_ (Kept.below (S := (fun k_ => P0_ k_)) (by repeat (first | (with_reducible first | exact HK.out | apply Kept.alloc | apply Kept.drewN | apply Kept.drew) | exact HK.out)) hb); replace HB := Sh.hb hb; clear hb ho18; have q19 : (x5_1 : Int) ≤ ((l0.length : Int) : Int) := Sh.od; obtain ⟨i019, hi019, _, hsz19, _⟩ := info_parts info3; have hroom19 : l0.length ≤ co16 := (Kd.R_reads' HO_0.out).2.1; have hC19 : Kd.C (Kd.int .i64) _ (some ad230) l0.length l0 := (Kd.R_reads' HO_0.out).2.2; have hcut19 := cut_to (P := Try.prog) 27 3 .i64 Try.underlying27 hi019 (some ad230) l0.length co16 x5_1 (of_decide_eq_true (by first | (with_reducible assumption) | assumption)) q19 hroom19; have hr19 := Kd.C_take (m := (x5_1 : Int).toNat) hC19 (by omega); have hy19 : y235.length = (x5_1 : Int).toNat := (by rw [Ny235.out, List.length_take]; omega); rw [← Ny235.out] at hr19; rw [← hy19] at hcut19; have HR238 := am_ hr19; have HC238 := am_ (show y235.length ≤ co16 from by omega); clear hr19 hC19 hroom19 hi019 hsz19; have KY19 := am_ hy19; clear hy19; have KL19 := am_ (show (x5_1 : Int).toNat ≤ l0.length from by omega); replace q19 := eq_true q19) | ((with_reducible refine gate_builtin (b := .append) (xs := #[.tmp 34, .tmp 37]) rfl ?_); at_builtin; refine Kd.R_append_rows (Kd.int .i64) (w0 := w0) w0.heap.size rfl (.tmp 34) (.tmp 37) 27 3 (.int .i64 0) 8 rfl Try.underlying27 info3 rfl (by decide) (by omega) v233 y232 y235 _ _ _ (fun k_ => (P0_ k_ ∨ w.heap.size ≤ k_) ∧ some k_ ≠ (.slice (some ad230) l0.length co16 : Value).ownBlock) (fun _ => False) rfl rfl ?aO ?aR (fun _ _ h => h) (fun _ h => h.elim) ?aF ?aB ?aS ?aL ?_; (case aR => repeat (first | exact (by repeat (first | (with_reducible exact HR238.out) | (with_reducible first | refine Kd.C_alloc ?_ _ | refine Kd.C_drewN ?_ _ | refine Kd.C_drew ?_) | exact HR238.out)) | (with_reducible first | refine Kd.C_alloc ?_ _ | refine Kd.C_drewN ?_ _ | refine Kd.C_drew ?_))); (case aB => exact Sh.bw); (case aF => exact (fun k_ hk => ⟨(.inr (Nat.le_trans (by first | exact HK.out.1 | exact (show Kept w _ (fun k_ => P0_ k_) from by repeat (first | (with_reducible first | exact HK.out | apply Kept.alloc | apply Kept.drewN | apply Kept.drew) | exact HK.out)).1) hk)), Kd.fresh' (Kd.R_lt (Sh.rl HO_0.out)) k_ hk⟩)); (case aO => exact (Sh.rl (Kd.R_mono HO234.out (fun _ h => ⟨h.1.1, h.2⟩)))); (case aS => exact (below_size Sh.bw)); (case aL => have := LMc11.out; omega); intro v240 w20 ho hb hg hat; rw [← Ny239.out] at ho; have n0_ := am_ (Kd.R_after (ok := (fun k_ => (P0_ k_ ∨ w.heap.size ≤ k_))) (Sh.rl HO_0.out) hg hat); have n1_ := am_ hb; have n2_ := am_ (Kept.of_grown (S := (fun k_ => P0_ k_)) hg (by repeat (first | (with_reducible first | exact HK.out | apply Kept.alloc | apply Kept.drewN | apply Kept.drew) | exact HK.out)) (fun k_ e_ => (HO234.out.1 k_ e_).1.1)); have n3_ := am_ ((show Kd.C (Kd.int .i64) w20 (some ad230) y235.length y235 from by rw [Ny235.out]; exact Kd.C_take (m := (x5_1 : Int).toNat) ((Kd.R_reads' (Kd.R_after (ok := (fun k_ => (P0_ k_ ∨ w.heap.size ≤ k_))) (Sh.rl HO_0.out) hg hat)).2.2) KL19.out)); have n4_ := am_ ho; clear HO_0; clear HB; clear HK; clear HR238; clear HO234; have HO_0 := n0_; have HB := n1_; have HK := n2_; have HR238 := n3_; have HO241 := n4_; clear n0_ n1_ n2_ n3_ n4_; clear ho hb hg hat) | ((with_reducible refine gate_builtin (b := .append) (xs := #[.tmp 39, .tmp 41]) rfl ?_); at_builtin; refine Kd.R_append (Kd.int .i64) (w0 := w0) w0.heap.size rfl (.tmp 39) (.tmp 41) 27 3 (.int .i64 0) 8 rfl Try.underlying27 info3 rfl (by decide) (by omega) v240 y239 a1 [.int .i64 a1] (fun k_ => (P0_ k_ ∨ w.heap.size ≤ k_) ∧ some k_ ≠ (.slice (some ad230) l0.length co16 : Value).ownBlock) (fun _ => False) rfl rfl ?aP (fun _ hk => hk.elim) ?aF ?aO ?aB ?aS ?aL ?_; (case aP => exact rfl); (case aB => exact Sh.bw); (case aF => exact (fun k_ hk => ⟨(.inr (Nat.le_trans (by first | exact HK.out.1 | exact (show Kept w _ (fun k_ => P0_ k_) from by repeat (first | (with_reducible first | exact HK.out | apply Kept.alloc | apply Kept.drewN | apply Kept.drew) | exact HK.out)).1) hk)), Kd.fresh' (Kd.R_lt (Sh.rl HO_0.out)) k_ hk⟩)); (case aO => exact (Sh.rl HO241.out)); (case aS => exact (below_size Sh.bw)); (case aL => have := LMc12.out; omega); intro v243 w21 ho hb hg hat; rw [← Ny242.out] at ho; have n0_ := am_ (Kd.R_after (ok := (fun k_ => (P0_ k_ ∨ w.heap.size ≤ k_))) (Sh.rl HO_0.out) hg hat); have n1_ := am_ hb; have n2_ := am_ (Kept.of_grown (S := (fun k_ => P0_ k_)) hg (by repeat (first | (with_reducible first | exact HK.out | apply Kept.alloc | apply Kept.drewN | apply Kept.drew) | exact HK.out)) (fun k_ e_ => (HO241.out.1 k_ e_).1)); have n3_ := am_ ((show Kd.C (Kd.int .i64) w21 (some ad230) y235.length y235 from by rw [Ny235.out]; exact Kd.C_take (m := (x5_1 : Int).toNat) ((Kd.R_reads' (Kd.R_after (ok := (fun k_ => (P0_ k_ ∨ w.heap.size ≤ k_))) (Sh.rl HO_0.out) hg hat)).2.2) KL19.out)); have n4_ := am_ ho; clear HO_0; clear HB; clear HK; clear HR238; clear HO241; have HO_0 := n0_; have HB := n1_; have HK := n2_; have HR238 := n3_; have HO244 := n4_; clear n0_ n1_ n2_ n3_ n4_; clear ho hb hg hat; have q22 : (x5_1 : Int) ≤ ((l0.length : Int) : Int) := Sh.od; obtain ⟨i022, hi022, _, hsz22, _⟩ := info_parts info3; have hroom22 : l0.length ≤ co16 := (Kd.R_reads' HO_0.out).2.1; have hC22 : Kd.C (Kd.int .i64) _ (some ad230) l0.length l0 := (Kd.R_reads' HO_0.out).2.2; have q022 : (0 : Int) ≤ (x5_1 : Int) := Sh.od; have hcut22 := cut_from (P := Try.prog) 27 3 .i64 Try.underlying27 hi022 1 hsz22 (some ad230) l0.length co16 x5_1 q022 q22; have hr22 := Kd.C_drop (m := (x5_1 : Int).toNat) (c := co16) hC22 (by omega) hroom22; obtain ⟨A22, hA22⟩ : ∃ A1, A1 = (if co16 = (x5_1 : Int).toNat then (some ad230) else ((some ad230) : Option Addr).map (·.add ((x5_1 : Int).toNat * 1))) := ⟨_, rfl⟩; obtain ⟨c22, hc22⟩ : ∃ c1, c1 = co16 - (x5_1 : Int).toNat := ⟨_, rfl⟩; have hy22 : y245.length = l0.length - (x5_1 : Int).toNat := (by rw [Ny245.out, List.length_drop] <;> omega); rw [show (l0).drop (x5_1 : Int).toNat = y245 from Ny245.out.symm] at hr22; replace hr22 : Kd.C (Kd.int .i64) _ A22 y245.length y245 := (by rw [hA22]; exact hr22); rw [← hy22, ← hA22, ← hc22] at hcut22; have HR248 := am_ hr22; have HC248 := am_ (show y245.length ≤ c22 from by rw [hy22, hc22]; exact Nat.sub_le_sub_right hroom22 _); clear hr22 hC22 hroom22 hi022 hsz22 hc22; have KY22 := am_ hy22; have KA22 := am_ hA22; clear hy22 hA22; have KL22 := am_ (show (x5_1 : Int).toNat ≤ l0.length from by omega); replace q22 := eq_true q22) | ((with_reducible refine gate_builtin (b := .append) (xs := #[.tmp 43, .tmp 46]) rfl ?_); at_builtin; refine Kd.R_append_rows (Kd.int .i64) (w0 := w0) w0.heap.size rfl (.tmp 43) (.tmp 46) 27 3 (.int .i64 0) 8 rfl Try.underlying27 info3 rfl (by decide) (by omega) v243 y242 y245 _ _ _ (fun k_ => (P0_ k_ ∨ w.heap.size ≤ k_) ∧ some k_ ≠ (.slice (some ad230) l0.length co16 : Value).ownBlock) (fun _ => False) rfl rfl ?aO ?aR (fun _ _ h => h) (fun _ h => h.elim) ?aF ?aB ?aS ?aL ?_; (case aR => repeat (first | exact (by repeat (first | (with_reducible exact HR248.out) | (with_reducible first | refine Kd.C_alloc ?_ _ | refine Kd.C_drewN ?_ _ | refine Kd.C_drew ?_) | exact HR248.out)) | (with_reducible first | refine Kd.C_alloc ?_ _ | refine Kd.C_drewN ?_ _ | refine Kd.C_drew ?_))); (case aB => exact Sh.bw); (case aF => exact (fun k_ hk => ⟨(.inr (Nat.le_trans (by first | exact HK.out.1 | exact (show Kept w _ (fun k_ => P0_ k_) from by repeat (first | (with_reducible first | exact HK.out | apply Kept.alloc | apply Kept.drewN | apply Kept.drew) | exact HK.out)).1) hk)), Kd.fresh' (Kd.R_lt (Sh.rl HO_0.out)) k_ hk⟩)); (case aO => exact (Sh.rl HO244.out)); (case aS => exact (below_size Sh.bw)); (case aL => have := LMc15.out; omega); intro v250 w23 ho hb hg hat; rw [← Ny249.out] at ho; have n0_ := am_ (Kd.R_after (ok := (fun k_ => (P0_ k_ ∨ w.heap.size ≤ k_))) (Sh.rl HO_0.out) hg hat); have n1_ := am_ hb; have n2_ := am_ (Kept.of_grown (S := (fun k_ => P0_ k_)) hg (by repeat (first | (with_reducible first | exact HK.out | apply Kept.alloc | apply Kept.drewN | apply Kept.drew) | exact HK.out)) (fun k_ e_ => (HO244.out.1 k_ e_).1)); have n3_ := am_ ((show Kd.C (Kd.int .i64) w23 (some ad230) y235.length y235 from by rw [Ny235.out]; exact Kd.C_take (m := (x5_1 : Int).toNat) ((Kd.R_reads' (Kd.R_after (ok := (fun k_ => (P0_ k_ ∨ w.heap.size ≤ k_))) (Sh.rl HO_0.out) hg hat)).2.2) KL19.out)); have n4_ := am_ ((show Kd.C (Kd.int .i64) w23 A22 y245.length y245 from by rw [Ny245.out, KA22.out]; exact Kd.C_drop (m := (x5_1 : Int).toNat) (c := co16) ((Kd.R_reads' (Kd.R_after (ok := (fun k_ => (P0_ k_ ∨ w.heap.size ≤ k_))) (Sh.rl HO_0.out) hg hat)).2.2) KL22.out ((Kd.R_reads' (Kd.R_after (ok := (fun k_ => (P0_ k_ ∨ w.heap.size ≤ k_))) (Sh.rl HO_0.out) hg hat)).2.1))); have n5_ := am_ ho; clear HO_0; clear HB; clear HK; clear HR238; clear HR248; clear HO244; have HO_0 := n0_; have HB := n1_; have HK := n2_; have HR238 := n3_; have HR248 := n4_; have HO251 := n5_; clear n0_ n1_ n2_ n3_ n4_ n5_; clear ho hb hg hat))
           go_ret
           exact ⟨_, Sh.eR, Sh.rl (Kd.R_mono HO251.out (fun _ hk => hk.1)), Sh.bw, by repeat (first | (with_reducible first | exact HK.out | apply Kept.alloc | apply Kept.drewN | apply Kept.drew) | exact HK.out)⟩
          ·rw [if_neg c15] at H
           exact absurd H (by simp)
         ·rw [if_neg c12] at H
          exact absurd H (by simp)
        ·rw [if_neg c11] at H
         exact absurd H (by simp)
       ·rw [if_neg c10] at H
        exact absurd H (by simp)
    ·rw [if_neg c4] at H
     exact absurd H (by simp)
   ·rw [if_neg c3] at H
    have c3b0 := decide_eq_false c3
    clear c3
    obtain ⟨y252, hy252⟩ : ∃ y_ : List Int, y_ = (([] : List Int)) := ⟨_, rfl⟩
    replace H : (if 0 ≤ x5_1 then (if x5_1 ≤ (l0.length : Int) then ((some (l0.take (x5_1 : Int).toNat : List Int)).bind fun y255 => (if y252.length + y255.length < 17592186044416 then ((some (y252 ++ y255 : List Int)).bind fun y259 => (if y259.length < 17592186044416 then ((some (y259 ++ [a1] : List Int)).bind fun y262 => ((some (l0.drop (x5_1 : Int).toNat : List Int)).bind fun y265 => (if y262.length + y265.length < 17592186044416 then (some (y262 ++ y265)) else (none)))) else (none))) else (none))) else (none)) else (none)) = some r := by first | (rw [hy252]; with_reducible exact H) | (have H2_ := (Option.bind_some _ _).symm.trans H; rw [hy252]; with_reducible exact H2_) | (have H2_ := (Option.bind_some _ _).symm.trans H; with_reducible exact H2_) | with_reducible exact H | (rw [hy252]; exact H) | exact H
    have Ny252 := am_ hy252
    clear hy252
    by_cases c24 : 0 ≤ x5_1
    ·rw [if_pos c24] at H
     have c24b0 := eq_true c24
     have c24b1 := decide_eq_true c24
     clear c24
     by_cases c25 : x5_1 ≤ (l0.length : Int)
     ·rw [if_pos c25] at H
      have c25b0 := eq_true c25
      have c25b1 := decide_eq_true c25
      clear c25
      obtain ⟨y255, hy255⟩ : ∃ y_ : List Int, y_ = (l0.take (x5_1 : Int).toNat) := ⟨_, rfl⟩
      replace H : (if y252.length + y255.length < 17592186044416 then ((some (y252 ++ y255 : List Int)).bind fun y259 => (if y259.length < 17592186044416 then ((some (y259 ++ [a1] : List Int)).bind fun y262 => ((some (l0.drop (x5_1 : Int).toNat : List Int)).bind fun y265 => (if y262.length + y265.length < 17592186044416 then (some (y262 ++ y265)) else (none)))) else (none))) else (none)) = some r := by first | (rw [hy255]; with_reducible exact H) | (have H2_ := (Option.bind_some _ _).symm.trans H; rw [hy255]; with_reducible exact H2_) | (have H2_ := (Option.bind_some _ _).symm.trans H; with_reducible exact H2_) | with_reducible exact H | (rw [hy255]; exact H) | exact H
      have Ny255 := am_ hy255
      clear hy255
      by_cases c26 : y252.length + y255.length < 17592186044416
      ·rw [if_pos c26] at H
       have LMc26 := am_ c26
       clear c26
       obtain ⟨y259, hy259⟩ : ∃ y_ : List Int, y_ = (y252 ++ y255) := ⟨_, rfl⟩
       replace H : (if y259.length < 17592186044416 then ((some (y259 ++ [a1] : List Int)).bind fun y262 => ((some (l0.drop (x5_1 : Int).toNat : List Int)).bind fun y265 => (if y262.length + y265.length < 17592186044416 then (some (y262 ++ y265)) else (none)))) else (none)) = some r := by first | (rw [hy259]; with_reducible exact H) | (have H2_ := (Option.bind_some _ _).symm.trans H; rw [hy259]; with_reducible exact H2_) | (have H2_ := (Option.bind_some _ _).symm.trans H; with_reducible exact H2_) | with_reducible exact H | (rw [hy259]; exact H) | exact H
       have Ny259 := am_ hy259
       clear hy259
       by_cases c27 : y259.length < 17592186044416
       ·rw [if_pos c27] at H
        have LMc27 := am_ c27
        clear c27
        obtain ⟨y262, hy262⟩ : ∃ y_ : List Int, y_ = (y259 ++ [a1]) := ⟨_, rfl⟩
        replace H : ((some (l0.drop (x5_1 : Int).toNat : List Int)).bind fun y265 => (if y262.length + y265.length < 17592186044416 then (some (y262 ++ y265)) else (none))) = some r := by first | (rw [hy262]; with_reducible exact H) | (have H2_ := (Option.bind_some _ _).symm.trans H; rw [hy262]; with_reducible exact H2_) | (have H2_ := (Option.bind_some _ _).symm.trans H; with_reducible exact H2_) | with_reducible exact H | (rw [hy262]; exact H) | exact H
        have Ny262 := am_ hy262
        clear hy262
        have c28b0 := eq_true (of_decide_eq_true (by first | (with_reducible assumption) | assumption) : 0 ≤ x5_1)
        have c29b0 := eq_true (of_decide_eq_true (by first | (with_reducible assumption) | assumption) : x5_1 ≤ (l0.length : Int))
        obtain ⟨y265, hy265⟩ : ∃ y_ : List Int, y_ = (l0.drop (x5_1 : Int).toNat) := ⟨_, rfl⟩
        replace H : (if y262.length + y265.length < 17592186044416 then (some (y262 ++ y265)) else (none)) = some r := by first | (rw [hy265]; with_reducible exact H) | (have H2_ := (Option.bind_some _ _).symm.trans H; rw [hy265]; with_reducible exact H2_) | (have H2_ := (Option.bind_some _ _).symm.trans H; with_reducible exact H2_) | with_reducible exact H | (rw [hy265]; exact H) | exact H
        have Ny265 := am_ hy265
        clear hy265
        by_cases c30 : y262.length + y265.length < 17592186044416
        ·rw [if_pos c30] at H
         have LMc30 := am_ c30
         clear c30
         obtain ⟨y269, hy269⟩ : ∃ y_ : List Int, y_ = (y262 ++ y265) := ⟨_, rfl⟩
         replace H : (some y269) = some r := by first | (rw [hy269]; with_reducible exact H) | (have H2_ := (Option.bind_some _ _).symm.trans H; rw [hy269]; with_reducible exact H2_) | (have H2_ := (Option.bind_some _ _).symm.trans H; with_reducible exact H2_) | with_reducible exact H | (rw [hy269]; exact H) | exact H
         have Ny269 := am_ hy269
         clear hy269
         obtain rfl := Option.some.inj H
         obtain ⟨Ao31, co31, eo31⟩ := Kd.R_slice HO_0.out
         subst eo31
         go_wp2_with (first | ((with_reducible refine Sh.d 34 ?_); refine Kd.R_lit (Kd.int .i64) _ 3 ?hg (N := 34) ?hd (xs := ([] : List Int)) (inner := []) (ok := fun _ => True) (okp := fun _ => True) ?hr ?hp (fun _ hk => hk) trivial (Below.refl _ _) (Nat.le_refl _) (by simp) ?_; (case hd => rfl); (case hg => rfl); (case hr => first | (go_simp; done) | (go_simp; rfl)); (case hp => exact (Reps.none _ _)); intro v253 w32 ho33 hb hg_ hnew_; clear hg_ hnew_; (first | rw [← Ny252.out] at ho33 | (simp only [Int.reduceToNat] at ho33; rw [← Ny252.out] at ho33)); have HO254 := am_ (Kd.R_lower (Kd.R_new' (Kd.R_newM (M := fun k_ => (P0_ k_ ∨ w.heap.size ≤ k_)) ho33 (by first | exact HK.out.1 | exact (show Kept w _ (fun k_ => P0_ k_) from by repeat (first | (with_reducible first | exact HK.out | apply Kept.alloc | apply Kept.drewN | apply Kept.drew) | exact HK.out)).1) (fun k_ h_ => .inr h_)) (Kd.R_lt (Sh.rl HO_0.out))) (below_size Sh.bw)); replace HO_0 := am_ (Kd.R_elder' (Sh.rl HO_0.out) (Kd.R_base ho33) hb); replace HK := am_ (Kept.below (S := (fun k_ => P0_ k_)) (by repeat (first | (with_reducible first | exact HK.out | apply Kept.alloc | apply Kept.drewN | apply Kept.drew) | exact HK.out)) hb); replace HB := Sh.hb hb; clear hb ho33; have q34 : (x5_1 : Int) ≤ ((l0.length : Int) : Int) := Sh.od; obtain ⟨i034, hi034, _, hsz34, _⟩ := info_parts info3; have hroom34 : l0.length ≤ co31 := (Kd.R_reads' HO_0.out).2.1; have hC34 : Kd.C (Kd.int .i64) _ Ao31 l0.length l0 := (Kd.R_reads' HO_0.out).2.2; have hcut34 := cut_to (P := Try.prog) 27 3 .i64 Try.underlying27 hi034 Ao31 l0.length co31 x5_1 (of_decide_eq_true (by first | (with_reducible assumption) | assumption)) q34 hroom34; have hr34 := Kd.C_take (m := (x5_1 : Int).toNat) hC34 (by omega); have hy34 : y255.length = (x5_1 : Int).toNat := (by rw [Ny255.out, List.length_take]; omega); rw [← Ny255.out] at hr34; rw [← hy34] at hcut34; have HR258 := am_ hr34; have HC258 := am_ (show y255.length ≤ co31 from by omega); clear hr34 hC34 hroom34 hi034 hsz34; have KY34 := am_ hy34; clear hy34; have KL34 := am_ (show (x5_1 : Int).toNat ≤ l0.length from by omega); replace q34 := eq_true q34) | ((with_reducible refine gate_builtin (b := .append) (xs := #[.tmp 34, .tmp 37]) rfl ?_); at_builtin; refine Kd.R_append_rows (Kd.int .i64) (w0 := w0) w0.heap.size rfl (.tmp 34) (.tmp 37) 27 3 (.int .i64 0) 8 rfl Try.underlying27 info3 rfl (by decide) (by omega) v253 y252 y255 _ _ _ (fun k_ => (P0_ k_ ∨ w.heap.size ≤ k_) ∧ some k_ ≠ (.slice Ao31 l0.length co31 : Value).ownBlock) (fun _ => False) rfl rfl ?aO ?aR (fun _ _ h => h) (fun _ h => h.elim) ?aF ?aB ?aS ?aL ?_; (case aR => repeat (first | exact (by repeat (first | (with_reducible exact HR258.out) | (with_reducible first | refine Kd.C_alloc ?_ _ | refine Kd.C_drewN ?_ _ | refine Kd.C_drew ?_) | exact HR258.out)) | (with_reducible first | refine Kd.C_alloc ?_ _ | refine Kd.C_drewN ?_ _ | refine Kd.C_drew ?_))); (case aB => exact Sh.bw); (case aF => exact (fun k_ hk => ⟨(.inr (Nat.le_trans (by first | exact HK.out.1 | exact (show Kept w _ (fun k_ => P0_ k_) from by repeat (first | (with_reducible first | exact HK.out | apply Kept.alloc | apply Kept.drewN | apply Kept.drew) | exact HK.out)).1) hk)), Kd.fresh' (Kd.R_lt (Sh.rl HO_0.out)) k_ hk⟩)); (case aO => exact (Sh.rl (Kd.R_mono HO254.out (fun _ h => ⟨h.1.1, h.2⟩)))); (case aS => exact (below_size Sh.bw)); (case aL => have := LMc26.out; omega); intro v260 w35 ho hb hg hat; rw [← Ny259.out] at ho; have n0_ := am_ (Kd.R_after (ok := (fun k_ => (P0_ k_ ∨ w.heap.size ≤ k_))) (Sh.rl HO_0.out) hg hat); have n1_ := am_ hb; have n2_ := am_ (Kept.of_grown (S := (fun k_ => P0_ k_)) hg (by repeat (first | (with_reducible first | exact HK.out | apply Kept.alloc | apply Kept.drewN | apply Kept.drew) | exact HK.out)) (fun k_ e_ => (HO254.out.1 k_ e_).1.1)); have n3_ := am_ ((show Kd.C (Kd.int .i64) w35 Ao31 y255.length y255 from by rw [Ny255.out]; exact Kd.C_take (m := (x5_1 : Int).toNat) ((Kd.R_reads' (Kd.R_after (ok := (fun k_ => (P0_ k_ ∨ w.heap.size ≤ k_))) (Sh.rl HO_0.out) hg hat)).2.2) KL34.out)); have n4_ := am_ ho; clear HO_0; clear HB; clear HK; clear HR258; clear HO254; have HO_0 := n0_; have HB := n1_; have HK := n2_; have HR258 := n3_; have HO261 := n4_; clear n0_ n1_ n2_ n3_ n4_; clear ho hb hg hat) | ((with_reducible refine gate_builtin (b := .append) (xs := #[.tmp 39, .tmp 41]) rfl ?_); at_builtin; refine Kd.R_append (Kd.int .i64) (w0 := w0) w0.heap.size rfl (.tmp 39) (.tmp 41) 27 3 (.int .i64 0) 8 rfl Try.underlying27 info3 rfl (by decide) (by omega) v260 y259 a1 [.int .i64 a1] (fun k_ => (P0_ k_ ∨ w.heap.size ≤ k_) ∧ some k_ ≠ (.slice Ao31 l0.length co31 : Value).ownBlock) (fun _ => False) rfl rfl ?aP (fun _ hk => hk.elim) ?aF ?aO ?aB ?aS ?aL ?_; (case aP => exact rfl); (case aB => exact Sh.bw); (case aF => exact (fun k_ hk => ⟨(.inr (Nat.le_trans (by first | exact HK.out.1 | exact (show Kept w _ (fun k_ => P0_ k_) from by repeat (first | (with_reducible first | exact HK.out | apply Kept.alloc | apply Kept.drewN | apply Kept.drew) | exact HK.out)).1) hk)), Kd.fresh' (Kd.R_lt (Sh.rl HO_0.out)) k_ hk⟩)); (case aO => exact (Sh.rl HO261.out)); (case aS => exact (below_size Sh.bw)); (case aL => have := LMc27.out; omega); intro v263 w36 ho hb hg hat; rw [← Ny262.out] at ho; have n0_ := am_ (Kd.R_after (ok := (fun k_ => (P0_ k_ ∨ w.heap.size ≤ k_))) (Sh.rl HO_0.out) hg hat); have n1_ := am_ hb; have n2_ := am_ (Kept.of_grown (S := (fun k_ => P0_ k_)) hg (by repeat (first | (with_reducible first | exact HK.out | apply Kept.alloc | apply Kept.drewN | apply Kept.drew) | exact HK.out)) (fun k_ e_ => (HO261.out.1 k_ e_).1)); have n3_ := am_ ((show Kd.C (Kd.int .i64) w36 Ao31 y255.length y255 from by rw [Ny255.out]; exact Kd.C_take (m := (x5_1 : Int).toNat) ((Kd.R_reads' (Kd.R_after (ok := (fun k_ => (P0_ k_ ∨ w.heap.size ≤ k_))) (Sh.rl HO_0.out) hg hat)).2.2) KL34.out)); have n4_ := am_ ho; clear HO_0; clear HB; clear HK; clear HR258; clear HO261; have HO_0 := n0_; have HB := n1_; have HK := n2_; have HR258 := n3_; have HO264 := n4_; clear n0_ n1_ n2_ n3_ n4_; clear ho hb hg hat; have q37 : (x5_1 : Int) ≤ ((l0.length : Int) : Int) := Sh.od; obtain ⟨i037, hi037, _, hsz37, _⟩ := info_parts info3; have hroom37 : l0.length ≤ co31 := (Kd.R_reads' HO_0.out).2.1; have hC37 : Kd.C (Kd.int .i64) _ Ao31 l0.length l0 := (Kd.R_reads' HO_0.out).2.2; have q037 : (0 : Int) ≤ (x5_1 : Int) := Sh.od; have hcut37 := cut_from (P := Try.prog) 27 3 .i64 Try.underlying27 hi037 1 hsz37 Ao31 l0.length co31 x5_1 q037 q37; have hr37 := Kd.C_drop (m := (x5_1 : Int).toNat) (c := co31) hC37 (by omega) hroom37; obtain ⟨A37, hA37⟩ : ∃ A1, A1 = (if co31 = (x5_1 : Int).toNat then Ao31 else (Ao31 : Option Addr).map (·.add ((x5_1 : Int).toNat * 1))) := ⟨_, rfl⟩; obtain ⟨c37, hc37⟩ : ∃ c1, c1 = co31 - (x5_1 : Int).toNat := ⟨_, rfl⟩; have hy37 : y265.length = l0.length - (x5_1 : Int).toNat := (by rw [Ny265.out, List.length_drop] <;> omega); rw [show (l0).drop (x5_1 : Int).toNat = y265 from Ny265.out.symm] at hr37; replace hr37 : Kd.C (Kd.int .i64) _ A37 y265.length y265 := (by rw [hA37]; exact hr37); rw [← hy37, ← hA37, ← hc37] at hcut37; have HR268 := am_ hr37; have HC268 := am_ (show y265.length ≤ c37 from by rw [hy37, hc37]; exact Nat.sub_le_sub_right hroom37 _); clear hr37 hC37 hroom37 hi037 hsz37 hc37; have KY37 := am_ hy37; have KA37 := am_ hA37; clear hy37 hA37; have KL37 := am_ (show (x5_1 : Int).toNat ≤ l0.length from by omega); replace q37 := eq_true q37) | ((with_reducible refine gate_builtin (b := .append) (xs := #[.tmp 43, .tmp 46]) rfl ?_); at_builtin; refine Kd.R_append_rows (Kd.int .i64) (w0 := w0) w0.heap.size rfl (.tmp 43) (.tmp 46) 27 3 (.int .i64 0) 8 rfl Try.underlying27 info3 rfl (by decide) (by omega) v263 y262 y265 _ _ _ (fun k_ => (P0_ k_ ∨ w.heap.size ≤ k_) ∧ some k_ ≠ (.slice Ao31 l0.length co31 : Value).ownBlock) (fun _ => False) rfl rfl ?aO ?aR (fun _ _ h => h) (fun _ h => h.elim) ?aF ?aB ?aS ?aL ?_; (case aR => repeat (first | exact (by repeat (first | (with_reducible exact HR268.out) | (with_reducible first | refine Kd.C_alloc ?_ _ | refine Kd.C_drewN ?_ _ | refine Kd.C_drew ?_) | exact HR268.out)) | (with_reducible first | refine Kd.C_alloc ?_ _ | refine Kd.C_drewN ?_ _ | refine Kd.C_drew ?_))); (case aB => exact Sh.bw); (case aF => exact (fun k_ hk => ⟨(.inr (Nat.le_trans (by first | exact HK.out.1 | exact (show Kept w _ (fun k_ => P0_ k_) from by repeat (first | (with_reducible first | exact HK.out | apply Kept.alloc | apply Kept.drewN | apply Kept.drew) | exact HK.out)).1) hk)), Kd.fresh' (Kd.R_lt (Sh.rl HO_0.out)) k_ hk⟩)); (case aO => exact (Sh.rl HO264.out)); (case aS => exact (below_size Sh.bw)); (case aL => have := LMc30.out; omega); intro v270 w38 ho hb hg hat; rw [← Ny269.out] at ho; have n0_ := am_ (Kd.R_after (ok := (fun k_ => (P0_ k_ ∨ w.heap.size ≤ k_))) (Sh.rl HO_0.out) hg hat); have n1_ := am_ hb; have n2_ := am_ (Kept.of_grown (S := (fun k_ => P0_ k_)) hg (by repeat (first | (with_reducible first | exact HK.out | apply Kept.alloc | apply Kept.drewN | apply Kept.drew) | exact HK.out)) (fun k_ e_ => (HO264.out.1 k_ e_).1)); have n3_ := am_ ((show Kd.C (Kd.int .i64) w38 Ao31 y255.length y255 from by rw [Ny255.out]; exact Kd.C_take (m := (x5_1 : Int).toNat) ((Kd.R_reads' (Kd.R_after (ok := (fun k_ => (P0_ k_ ∨ w.heap.size ≤ k_))) (Sh.rl HO_0.out) hg hat)).2.2) KL34.out)); have n4_ := am_ ((show Kd.C (Kd.int .i64) w38 A37 y265.length y265 from by rw [Ny265.out, KA37.out]; exact Kd.C_drop (m := (x5_1 : Int).toNat) (c := co31) ((Kd.R_reads' (Kd.R_after (ok := (fun k_ => (P0_ k_ ∨ w.heap.size ≤ k_))) (Sh.rl HO_0.out) hg hat)).2.2) KL37.out ((Kd.R_reads' (Kd.R_after (ok := (fun k_ => (P0_ k_ ∨ w.heap.size ≤ k_))) (Sh.rl HO_0.out) hg hat)).2.1))); have n5_ := am_ ho; clear HO_0; clear HB; clear HK; clear HR258; clear HR268; clear HO264; have HO_0 := n0_; have HB := n1_; have HK := n2_; have HR258 := n3_; have HR268 := n4_; have HO271 := n5_; clear n0_ n1_ n2_ n3_ n4_ n5_; clear ho hb hg hat))
         go_ret
         exact ⟨_, Sh.eR, Sh.rl (Kd.R_mono HO271.out (fun _ hk => hk.1)), Sh.bw, by repeat (first | (with_reducible first | exact HK.out | apply Kept.alloc | apply Kept.drewN | apply Kept.drew) | exact HK.out)⟩
        ·rw [if_neg c30] at H
         exact absurd H (by simp)
       ·rw [if_neg c27] at H
        exact absurd H (by simp)
      ·rw [if_neg c26] at H
       exact absurd H (by simp)
     ·rw [if_neg c25] at H
      exact absurd H (by simp)
    ·rw [if_neg c24] at H
     exact absurd H (by simp)
end Go.Proofs.Ytjenmoopbmklfaa.P
