/- Go functions of this seat as Lean functions, and the proofs that the calls come to what these say; printed by a program of this session. No condition. -/
import Derived.Test.YtngefmofelengaaGreatP0
import Derived.Test.YtngefmofelengaaGreatMFnExactBackFrom1
set_option linter.unusedVariables false
set_option linter.unusedSimpArgs false
set_option maxHeartbeats 40000000
set_option maxRecDepth 100000
namespace Go.Proofs.YtngefmofelengaaGreat.P
open Go.RowKit Go.Proofs.YtngefmofelengaaGreatW.PrintWords Go.Proofs.YtngefmofelengaaGreatW.PrintLast Go.Proofs.YtngefmofelengaaGreatW.PrintMore Go.Proofs.YtngefmofelengaaGreat.Hof
attribute [local go_sem] max2_int min2_int max_two min_two max_three min_three max_four min_four
mutual
def spec_l7Command.j0 : Nat → Bool → Int → Int → List (S79) → List (S95) → List (S79) → List (S124) → Option (Bool)
 | 0, _, _, _, _, _, _, _ => none
 | k + 1, x19, x216000, x216001, x216002, x216003, x217000, x217001 => if x19 = true then (some false) else (spec_l7Command.l0 k x217001 (x217001.length : Int) 0 x216000 x216001 x216002 x216003 x217000 x217001)
def spec_l7Command.l0 : Nat → List (S124) → Int → Int → Int → Int → List (S79) → List (S95) → List (S79) → List (S124) → Option (Bool)
 | 0, _, _, _, _, _, _, _, _, _ => none
 | k + 1, x21, x22, x23, x216000, x216001, x216002, x216003, x217000, x217001 => if x23 < x22 then (if 0 ≤ x23 then (if x23 < (x21.length : Int) then ((spec_l1In.f ((rd_T124 x21 x23).f0) 0 (wrap64 (x216001 - 1))).bind fun t220 => (if t220 = true then (if x23 > 0 then (if 0 ≤ (wrap64 (x23 - 1)) then (if (wrap64 (x23 - 1)) < (x217001.length : Int) then (if ((rd_T124 x217001 (wrap64 (x23 - 1))).f0) ≥ ((rd_T124 x21 x23).f0) then (some false) else ((spec_l2Kind.f k x216000 x216001 ((rd_T124 x21 x23).f1)).bind fun t222 => (if t222 = 1 then (spec_l7Command.l0 k x21 x22 (wrap64 (x23 + 1)) x216000 x216001 x216002 x216003 x217000 x217001) else (some false)))) else (none)) else (none)) else ((spec_l2Kind.f k x216000 x216001 ((rd_T124 x21 x23).f1)).bind fun t223 => (if t223 = 1 then (spec_l7Command.l0 k x21 x22 (wrap64 (x23 + 1)) x216000 x216001 x216002 x216003 x217000 x217001) else (some false)))) else (some false))) else (none)) else (none)) else (some true)
end
def spec_l7Command.f (k : Nat) (a0_0 : Int) (a0_1 : Int) (l0_2 : List (S79)) (l0_3 : List (S95)) (l1_0 : List (S79)) (l1_1 : List (S124)) : Option (Bool) := (spec_l7Asks.f k a0_0 a0_1 l0_2 l0_3 l1_0).bind fun t217 => (if t217 = true then (spec_l7Command.j0 k (decide ((l1_1.length : Int) > a0_1)) a0_0 a0_1 l0_2 l0_3 l1_0 l1_1) else (spec_l7Command.j0 k true a0_0 a0_1 l0_2 l0_3 l1_0 l1_1))
theorem spec_l7Command.mono_l : ∀ k, (∀ y0 y1 y2 y3 y4 y5 y6, LeO (spec_l7Command.j0 k y0 y1 y2 y3 y4 y5 y6) (spec_l7Command.j0 (k + 1) y0 y1 y2 y3 y4 y5 y6)) ∧ (∀ y0 y1 y2 y3 y4 y5 y6 y7 y8, LeO (spec_l7Command.l0 k y0 y1 y2 y3 y4 y5 y6 y7 y8) (spec_l7Command.l0 (k + 1) y0 y1 y2 y3 y4 y5 y6 y7 y8))
 | 0 => ⟨fun _ _ _ _ _ _ _ r h => by simp [spec_l7Command.j0] at h, fun _ _ _ _ _ _ _ _ _ r h => by simp [spec_l7Command.l0] at h⟩
 | k + 1 => by
  obtain ⟨ih0, ih1⟩ := spec_l7Command.mono_l k
  and_intros <;> intros
  all_goals (first | unfold spec_l7Command.j0 | unfold spec_l7Command.l0)
  all_goals repeat' with_reducible first | apply ih0 | apply ih1 | apply spec_l2Kind.mono | apply spec_l7Asks.mono | exact LeO.refl _ | exact LeO.none _ | apply LeO.ite | refine LeO.bind ?_ fun _ => ?_
theorem spec_l7Command.mono : ∀ a0 a1 a2 a3 a4 a5 k, LeO (spec_l7Command.f k a0 a1 a2 a3 a4 a5) (spec_l7Command.f (k + 1) a0 a1 a2 a3 a4 a5) := by
 intro a0 a1 a2 a3 a4 a5 k
 obtain ⟨ih0, ih1⟩ := spec_l7Command.mono_l k
 unfold spec_l7Command.f
 repeat' with_reducible first | apply ih0 | apply ih1 | apply spec_l2Kind.mono | apply spec_l7Asks.mono | exact LeO.refl _ | exact LeO.none _ | apply LeO.ite | refine LeO.bind ?_ fun _ => ?_
def spec_l7Command.T6 : Bool × List (List Nat × List Nat) := (true, [([], []), ([0], [0]), ([], []), ([2], [2]), ([3], [3]), ([1, 4], [1, 4]), ([5], [5]), ([6, 5], [6]), ([7], [7]), ([8, 7], [7, 8]), ([9, 7, 7], [7, 9]), ([10], [10]), ([11, 10], [10, 11]), ([10], [10]), ([13, 10], [10, 13]), ([12, 14, 10], [10, 12, 14]), ([15, 10], [10, 15]), ([16, 10], [10, 16]), ([10], [10]), ([18, 10], [10, 18]), ([17, 19, 10], [10, 17, 19]), ([10, 20, 7], [7, 10, 20]), ([7, 21], [7, 21]), ([22, 10], [22]), ([23], [23]), ([24, 23], [23, 24]), ([23], [23]), ([26, 23], [23, 26]), ([23], [23]), ([28, 23], [23, 28]), ([25, 27, 29, 23, 23], [23, 25, 27, 29]), ([30, 23], [23, 30]), ([23, 31], [23, 31])])
def spec_l7Command.B6 : List Nat := [0, 1, 0, 4, 12, 31, 63, 127, 255, 511, 1023, 2047, 4095, 2047, 10239, 32767, 65535, 131071, 2047, 264191, 1048575, 2097151, 4194303, 8388607, 16777215, 33554431, 16777215, 83886079, 16777215, 285212671, 1073741823, 2147483647, 4294967295]
theorem spec_l7Command.tab6 : rtab .any (opsOf Tryz.f116 6) = spec_l7Command.T6 := by kernel_rfl
theorem spec_l7Command.bits6 : waitsOk spec_l7Command.T6.2 spec_l7Command.B6 = true := by kernel_rfl
theorem spec_l7Command.calls (k : Nat) (a0_0 : Int) (a0_1 : Int) (A0_2 : Option Addr) (c0_2 : Nat) (l0_2 : List (S79)) (A0_3 : Option Addr) (c0_3 : Nat) (l0_3 : List (S95)) (A1_0 : Option Addr) (c1_0 : Nat) (l1_0 : List (S79)) (A1_1 : Option Addr) (c1_1 : Nat) (l1_1 : List (S124)) (r : Bool) (w : World) (hr0_2 : Kd.C k79 w A0_2 l0_2.length l0_2) (hc0_2 : l0_2.length ≤ c0_2) (hr0_3 : Kd.C k95 w A0_3 l0_3.length l0_3) (hc0_3 : l0_3.length ≤ c0_3) (hr1_0 : Kd.C k79 w A1_0 l1_0.length l1_0) (hc1_0 : l1_0.length ≤ c1_0) (hr1_1 : Kd.C k124 w A1_1 l1_1.length l1_1) (hc1_1 : l1_1.length ≤ c1_1) (h : spec_l7Command.f k a0_0 a0_1 l0_2 l0_3 l1_0 l1_1 = some r) :
  Calls Tryz.prog 116 #[.agg #[.int .i64 a0_0, .int .i64 a0_1, .slice A0_2 l0_2.length c0_2, .slice A0_3 l0_3.length c0_3], .agg #[.slice A1_0 l1_0.length c1_0, .slice A1_1 l1_1.length c1_1]] w fun e w' => e = .returned (.bool r) ∧ Below w.heap.size w w' := by
 have hu33 := Tryz.underlying33
 have hu95 := Tryz.underlying95
 have hu124 := Tryz.underlying124
 have HR0_2 := am_ hr0_2
 have HC0_2 := am_ hc0_2
 clear hr0_2 hc0_2
 have HR0_3 := am_ hr0_3
 have HC0_3 := am_ hc0_3
 clear hr0_3 hc0_3
 have HR1_0 := am_ hr1_0
 have HC1_0 := am_ hc1_0
 clear hr1_0 hc1_0
 have HR1_1 := am_ hr1_1
 have HC1_1 := am_ hc1_1
 clear hr1_1 hc1_1
 have HB := am_ (Below.refl w.heap.size w)
 have H := h
 clear h
 unfold spec_l7Command.f at H
 have HC3 := am_ H
 clear H
 go_enter Tryz.func116, Tryz.ntmps116
 go_upto_region 1 with (first | ((with_reducible refine Sh.d 2 ?_); (try (refine gate_guard (by rfl) ?_; dsimp only)); refine Sh.bz w (N := 2) (cs := #[.int .i64 a0_0, .int .i64 a0_1, .slice A0_2 l0_2.length c0_2, .slice A0_3 l0_3.length c0_3]) (t := 33) (h := ?_); clear HB; intro gb215 w4 BK215 GE215 HB) | ((with_reducible refine Sh.d 3 ?_); (try (refine gate_guard (by rfl) ?_; dsimp only)); refine Sh.bx (N := 3) (cs := #[.slice A1_0 l1_0.length c1_0, .slice A1_1 l1_1.length c1_1]) (t := 95) (h := ?_); intro gb216 hg w5 hbox hb; have BK216 := am_ hbox; have GE216 := Sh.ag w hg; replace HB := Sh.hb hb; have NB215_216 := am_ (Sh.nl hg BK215.out); have NB216_215 := am_ (Sh.ng hg BK215.out); replace BK215 := Sh.ab BK215 hb; clear hb hbox hg))
 (try simp only [Act.put, List.setIfInBounds_toArray, List.set_cons_zero, List.set_cons_succ])
 go_cut [19] (fun v19 wc => ∃ (kq : Nat) (x19_2 : Bool), v19 = .bool x19_2 ∧ Aside0 (spec_l7Command.j0 kq x19_2 a0_0 a0_1 l0_2 l0_3 l1_0 l1_1 = some r) ∧ Aside0 (kq ≤ k) ∧ Aside0 (wc.heap[gb215]? = some (.cells #[.int .i64 a0_0, .int .i64 a0_1, (.slice A0_2 l0_2.length c0_2), (.slice A0_3 l0_3.length c0_3)] 33 (0, 0))) ∧ Aside0 (wc.heap[gb216]? = some (.cells #[(.slice A1_0 l1_0.length c1_0), (.slice A1_1 l1_1.length c1_1)] 95 (0, 0))) ∧ Aside0 (Below w.heap.size w wc))
 case first =>
  have H := HC3.out
  clear HC3
  obtain ⟨t217, A6, H⟩ := Sh.ba H
  by_cases c7 : t217 = true
  ·subst c7
   rw [if_pos rfl] at H
   have H' := am_ H
   clear H
   have hnb8 := NB215_216.out
   have hnc8 := NB216_215.out
   have hcz9_0 := Sh.bc BK215.out 0
   have hcz9_1 := Sh.bc BK215.out 1
   have hcz9_2 := Sh.bc BK215.out 2
   have hcz9_3 := Sh.bc BK215.out 3
   have hfz9_0 := blk_frozen BK215.out 0
   have hfz9_1 := blk_frozen BK215.out 1
   have hfz9_2 := blk_frozen BK215.out 2
   have hfz9_3 := blk_frozen BK215.out 3
   have hcz10_0 := Sh.bc BK216.out 0
   have hcz10_1 := Sh.bc BK216.out 1
   have hfz10_0 := blk_frozen BK216.out 0
   have hfz10_1 := blk_frozen BK216.out 1
   go_wp2_with (first | ((with_reducible refine Sh.k 58 ?_); refine Sh.gB (some 10) Tryz.func58 #[.agg #[.int .i64 a0_0, .int .i64 a0_1, .slice A0_2 l0_2.length c0_2, .slice A0_3 l0_3.length c0_3], .slice A1_0 l1_0.length c1_0] (spec_l7Asks.calls k a0_0 a0_1 _ _ l0_2 _ _ l0_3 _ _ l1_0 true _ (Sh.cB HR0_2.out) HC0_2.out (Sh.cB HR0_3.out) HC0_3.out (Sh.cB HR1_0.out) HC1_0.out A6.out) fun w11 hb => ?_; replace BK215 := Sh.ab BK215 hb; replace BK216 := Sh.ab BK216 hb; replace HB := Sh.hb hb; (try clear hb); obtain ⟨hcz12_0, hcz12_1, hfz12_0, hfz12_1⟩ := Sh.b2 BK216.out; obtain ⟨hcz13_0, hcz13_1, hcz13_2, hcz13_3, hfz13_0, hfz13_1, hfz13_2, hfz13_3⟩ := Sh.b4 BK215.out))
   go_meet
   case rel => exact ⟨_, (decide ((l1_1.length : Int) > a0_1)), (Sh.es), H', ⟨Sh.om⟩, ⟨by refine Sh.pl ?_; exact BK215.out⟩, ⟨by refine Sh.pl ?_; exact BK216.out⟩, ⟨Sh.bw⟩⟩
  ·replace c7 := Bool.eq_false_iff.mpr c7
   subst c7
   rw [Sh.nf] at H
   have H' := am_ H
   clear H
   have hnb14 := NB215_216.out
   have hnc14 := NB216_215.out
   have hcz15_0 := Sh.bc BK215.out 0
   have hcz15_1 := Sh.bc BK215.out 1
   have hcz15_2 := Sh.bc BK215.out 2
   have hcz15_3 := Sh.bc BK215.out 3
   have hfz15_0 := blk_frozen BK215.out 0
   have hfz15_1 := blk_frozen BK215.out 1
   have hfz15_2 := blk_frozen BK215.out 2
   have hfz15_3 := blk_frozen BK215.out 3
   have hcz16_0 := Sh.bc BK216.out 0
   have hcz16_1 := Sh.bc BK216.out 1
   have hfz16_0 := blk_frozen BK216.out 0
   have hfz16_1 := blk_frozen BK216.out 1
   go_wp2_with (first | ((with_reducible refine Sh.k 58 ?_); refine Sh.gB (some 10) Tryz.func58 #[.agg #[.int .i64 a0_0, .int .i64 a0_1, .slice A0_2 l0_2.length c0_2, .slice A0_3 l0_3.length c0_3], .slice A1_0 l1_0.length c1_0] (spec_l7Asks.calls k a0_0 a0_1 _ _ l0_2 _ _ l0_3 _ _ l1_0 false _ (Sh.cB HR0_2.out) HC0_2.out (Sh.cB HR0_3.out) HC0_3.out (Sh.cB HR1_0.out) HC1_0.out A6.out) fun w17 hb => ?_; replace BK215 := Sh.ab BK215 hb; replace BK216 := Sh.ab BK216 hb; replace HB := Sh.hb hb; (try clear hb)))
   go_meet
   case rel => exact ⟨_, (true), (Sh.es), H', ⟨Sh.om⟩, ⟨by refine Sh.pl ?_; exact BK215.out⟩, ⟨by refine Sh.pl ?_; exact BK216.out⟩, ⟨Sh.bw⟩⟩
 case rest =>
  clear HC3
  try clear hcz10_0
  try clear hcz10_1
  try clear hcz12_0
  try clear hcz12_1
  try clear hcz13_0
  try clear hcz13_1
  try clear hcz13_2
  try clear hcz13_3
  try clear hcz15_0
  try clear hcz15_1
  try clear hcz15_2
  try clear hcz15_3
  try clear hcz16_0
  try clear hcz16_1
  try clear hcz9_0
  try clear hcz9_1
  try clear hcz9_2
  try clear hcz9_3
  try clear hfz10_0
  try clear hfz10_1
  try clear hfz12_0
  try clear hfz12_1
  try clear hfz13_0
  try clear hfz13_1
  try clear hfz13_2
  try clear hfz13_3
  try clear hfz15_0
  try clear hfz15_1
  try clear hfz15_2
  try clear hfz15_3
  try clear hfz16_0
  try clear hfz16_1
  try clear hfz9_0
  try clear hfz9_1
  try clear hfz9_2
  try clear hfz9_3
  obtain ⟨kq, x19_2, rfl, HA, HJ2, BK215, BK216, HB⟩ := hcut
  cases kq with
  | zero => exact absurd HA.out (by simp [spec_l7Command.j0])
  | succ kj2 =>
   have H := HA.out
   clear HA
   simp only [spec_l7Command.j0] at H
   by_cases c18 : x19_2 = true
   ·subst c18
    rw [if_pos rfl] at H
    obtain rfl := Option.some.inj H
    go_wp2
    go_ret
    exact ⟨Sh.eR, Sh.bw⟩
   ·replace c18 := Bool.eq_false_iff.mpr c18
    subst c18
    rw [Sh.nf] at H
    have H' := am_ H
    clear H
    have hnb19 := NB216_215.out
    have hnc19 := NB215_216.out
    have hcz20_0 := Sh.bc BK216.out 0
    have hcz20_1 := Sh.bc BK216.out 1
    have hfz20_0 := blk_frozen BK216.out 0
    have hfz20_1 := blk_frozen BK216.out 1
    go_wp2
    go_loopg [23] kj2 (fun kq v23 w' => ∃ (x23_2 : Int), v23 = .int .i64 x23_2 ∧ Aside0 (spec_l7Command.l0 kq l1_1 (l1_1.length : Int) x23_2 a0_0 a0_1 l0_2 l0_3 l1_0 l1_1 = some r) ∧ Aside0 (kq ≤ kj2) ∧ Aside0 (w'.heap[gb215]? = some (.cells #[.int .i64 a0_0, .int .i64 a0_1, (.slice A0_2 l0_2.length c0_2), (.slice A0_3 l0_3.length c0_3)] 33 (0, 0))) ∧ Aside0 (w'.heap[gb216]? = some (.cells #[(.slice A1_0 l1_0.length c1_0), (.slice A1_1 l1_1.length c1_1)] 95 (0, 0))) ∧ Aside0 (Below w.heap.size w w'))
    case atStart => exact ⟨(0), (Sh.es), H', ⟨Nat.le_refl _⟩, ⟨by refine Sh.pl ?_; exact BK215.out⟩, ⟨by refine Sh.pl ?_; exact BK216.out⟩, ⟨Sh.bw⟩⟩
    case round =>
     clear H'
     try clear hcz10_0
     try clear hcz10_1
     try clear hcz12_0
     try clear hcz12_1
     try clear hcz13_0
     try clear hcz13_1
     try clear hcz13_2
     try clear hcz13_3
     try clear hcz15_0
     try clear hcz15_1
     try clear hcz15_2
     try clear hcz15_3
     try clear hcz16_0
     try clear hcz16_1
     try clear hcz20_0
     try clear hcz20_1
     try clear hcz9_0
     try clear hcz9_1
     try clear hcz9_2
     try clear hcz9_3
     try clear hfz10_0
     try clear hfz10_1
     try clear hfz12_0
     try clear hfz12_1
     try clear hfz13_0
     try clear hfz13_1
     try clear hfz13_2
     try clear hfz13_3
     try clear hfz15_0
     try clear hfz15_1
     try clear hfz15_2
     try clear hfz15_3
     try clear hfz16_0
     try clear hfz16_1
     try clear hfz20_0
     try clear hfz20_1
     try clear hfz9_0
     try clear hfz9_1
     try clear hfz9_2
     try clear hfz9_3
     obtain ⟨x23_2, rfl, HA, HK2, BK215, BK216, HB⟩ := hrel
     cases gk with
     | zero => exact absurd HA.out (by simp [spec_l7Command.l0])
     | succ k2 =>
      have H := HA.out
      clear HA
      simp only [spec_l7Command.l0] at H
      by_cases c21 : x23_2 < (l1_1.length : Int)
      ·rw [if_pos c21] at H
       replace c21 := decide_eq_true c21
       by_cases c22 : 0 ≤ x23_2
       ·rw [if_pos c22] at H
        replace c22 := decide_eq_true c22
        by_cases c23 : x23_2 < (l1_1.length : Int)
        ·rw [if_pos c23] at H
         replace c23 := decide_eq_true c23
         obtain ⟨t220, A24, H⟩ := Sh.ba H
         by_cases c25 : t220 = true
         ·subst c25
          rw [if_pos rfl] at H
          by_cases c26 : x23_2 > 0
          ·rw [if_pos c26] at H
           have c26b0 : decide (0 < x23_2) = true := decide_eq_true c26
           clear c26
           obtain ⟨ji27, hj1⟩ : ∃ j_ : Int, (wrap64 (x23_2 - 1)) = j_ := ⟨_, rfl⟩
           replace H : (if 0 ≤ (ji27) then (if (ji27) < (l1_1.length : Int) then (if ((rd_T124 l1_1 (ji27)).f0) ≥ ((rd_T124 l1_1 x23_2).f0) then (some false) else ((spec_l2Kind.f k2 a0_0 a0_1 ((rd_T124 l1_1 x23_2).f1)).bind fun t222 => (if t222 = 1 then (spec_l7Command.l0 k2 l1_1 (l1_1.length : Int) (wrap64 (x23_2 + 1)) a0_0 a0_1 l0_2 l0_3 l1_0 l1_1) else (some false)))) else (none)) else (none)) = some r := by first | (rw [hj1] at H; exact H) | (simp only [hj1] at H ⊢; exact H)
           (try rw [hj1] at A24)
           have hji27w : (IntKind.i64.wrap (x23_2 - 1)) = ji27 := (i64_w _).trans hj1
           by_cases c28 : 0 ≤ (ji27)
           ·rw [if_pos c28] at H
            replace c28 := decide_eq_true c28
            by_cases c29 : (ji27) < (l1_1.length : Int)
            ·rw [if_pos c29] at H
             replace c29 := decide_eq_true c29
             by_cases c30 : ((rd_T124 l1_1 (ji27)).f0) ≥ ((rd_T124 l1_1 x23_2).f0)
             ·rw [if_pos c30] at H
              have c30b0 : decide (((rd_T124 l1_1 x23_2).f0) ≤ ((rd_T124 l1_1 (ji27)).f0)) = true := decide_eq_true c30
              clear c30
              obtain rfl := Option.some.inj H
              have p218 : 0 ≤ (x23_2 : Int) := Sh.od
              have q218 : x23_2 < (l1_1.length : Int) := Sh.od
              obtain ⟨ad218, A218_1, c218_1, e218, hx218_0, hx218_1, hl218_1, hi218_1⟩ := at_T124 HR1_1.out x23_2 p218 q218
              cases e218
              try replace hx218_0 := Sh.cw hx218_0
              try replace hx218_1 := Sh.cw hx218_1
              have HR218_1 := am_ hi218_1
              have HC218_1 := am_ hl218_1
              clear hi218_1 hl218_1
              replace p218 := eq_true p218
              replace q218 := eq_true q218
              try go_wp2_with (first | ((with_reducible refine Sh.d 6 ?_); (try (refine gate_guard (by rfl) ?_; dsimp only)); refine Sh.bx (N := 6) (cs := #[.int .i64 0, .slice none 0 0]) (t := 124) (h := ?_); intro gb219 hg w31 hbox hb; have BK219 := am_ hbox; have GE219 := Sh.ag w hg; replace HB := Sh.hb hb; have NB215_219 := am_ (Sh.nl hg BK215.out); have NB219_215 := am_ (Sh.ng hg BK215.out); replace BK215 := Sh.ab BK215 hb; have NB216_219 := am_ (Sh.nl hg BK216.out); have NB219_216 := am_ (Sh.ng hg BK216.out); replace BK216 := Sh.ab BK216 hb; clear hb hbox hg; have hnb32 := NB219_215.out; have hnc32 := NB215_219.out; have hnb33 := NB219_216.out; have hnc33 := NB216_219.out; obtain ⟨hcz34_0, hcz34_1, hfz34_0, hfz34_1⟩ := Sh.b2 BK219.out))
              have n0_ : Aside0 (((w31.setCell ⟨gb219, 0, none⟩ (.int .i64 ((rd_T124 l1_1 x23_2).f0))).setCell ⟨gb219, 1, none⟩ (.slice A218_1 ((rd_T124 l1_1 x23_2).f1).length c218_1)).heap[gb215]? = some (.cells #[.int .i64 a0_0, .int .i64 a0_1, .slice A0_2 l0_2.length c0_2, .slice A0_3 l0_3.length c0_3] 33 (0, 0))) := ⟨by refine Sh.pl ?_; refine blk_far ?_ NB215_219.out _; refine Sh.pl ?_; refine blk_far ?_ NB215_219.out _; refine Sh.pl ?_; exact BK215.out⟩
              have n1_ : Aside0 (((w31.setCell ⟨gb219, 0, none⟩ (.int .i64 ((rd_T124 l1_1 x23_2).f0))).setCell ⟨gb219, 1, none⟩ (.slice A218_1 ((rd_T124 l1_1 x23_2).f1).length c218_1)).heap[gb216]? = some (.cells #[.slice A1_0 l1_0.length c1_0, .slice (some ad218) l1_1.length c1_1] 95 (0, 0))) := ⟨by refine Sh.pl ?_; refine blk_far ?_ NB216_219.out _; refine Sh.pl ?_; refine blk_far ?_ NB216_219.out _; refine Sh.pl ?_; exact BK216.out⟩
              have n2_ : Aside0 (((w31.setCell ⟨gb219, 0, none⟩ (.int .i64 ((rd_T124 l1_1 x23_2).f0))).setCell ⟨gb219, 1, none⟩ (.slice A218_1 ((rd_T124 l1_1 x23_2).f1).length c218_1)).heap[gb219]? = some (.cells #[.int .i64 ((rd_T124 l1_1 x23_2).f0), .slice A218_1 ((rd_T124 l1_1 x23_2).f1).length c218_1] 124 (0, 0))) := ⟨by refine Sh.pl ?_; refine blk_put (cs := #[.int .i64 ((rd_T124 l1_1 x23_2).f0), .slice none 0 0]) ?_ 1 _ rfl; refine Sh.pl ?_; refine blk_put (cs := #[.int .i64 0, .slice none 0 0]) ?_ 0 _ rfl; refine Sh.pl ?_; exact BK219.out⟩
              have n3_ : Aside0 (Below w.heap.size w ((w31.setCell ⟨gb219, 0, none⟩ (.int .i64 ((rd_T124 l1_1 x23_2).f0))).setCell ⟨gb219, 1, none⟩ (.slice A218_1 ((rd_T124 l1_1 x23_2).f1).length c218_1))) := ⟨Sh.bw⟩
              (try clear BK215)
              (try clear BK216)
              (try clear BK219)
              (try clear HB)
              generalize ((w31.setCell ⟨gb219, 0, none⟩ (.int .i64 ((rd_T124 l1_1 x23_2).f0))).setCell ⟨gb219, 1, none⟩ (.slice A218_1 ((rd_T124 l1_1 x23_2).f1).length c218_1)) = w35 at n0_ n1_ n2_ n3_ ⊢
              have BK215 := n0_
              have BK216 := n1_
              have BK219 := n2_
              have HB := n3_
              clear n0_ n1_ n2_ n3_
              replace BK215 := am_ (blk_drew BK215.out)
              replace BK216 := am_ (blk_drew BK216.out)
              replace BK219 := am_ (blk_drew BK219.out)
              replace HB := am_ (below_drew1 HB.out)
              have p221 : 0 ≤ ((ji27) : Int) := Sh.od
              have q221 : (ji27) < (l1_1.length : Int) := Sh.od
              obtain ⟨ad221, A221_1, c221_1, e221, hx221_0, hx221_1, hl221_1, hi221_1⟩ := at_T124 HR1_1.out (ji27) p221 q221
              have hw221_1 := hx221_1
              have hw221_0 := hx221_0
              obtain rfl : ad218 = ad221 := (by injection e221)
              try replace hx221_0 := Sh.cw hx221_0
              try replace hx221_1 := Sh.cw hx221_1
              have HR221_1 := am_ hi221_1
              have HC221_1 := am_ hl221_1
              clear hi221_1 hl221_1
              replace p221 := eq_true p221
              replace q221 := eq_true q221
              refine start_ (n := 33) (S := fun w' => w'.cell? ⟨gb219, 0, none⟩ = some (.int .i64 ((rd_T124 l1_1 x23_2).f0)) ∧ w'.cell? ⟨gb219, 1, none⟩ = some (.slice A218_1 ((rd_T124 l1_1 x23_2).f1).length c218_1) ∧ w'.cell? ⟨gb215, 0, none⟩ = some (.int .i64 a0_0) ∧ w'.cell? ⟨gb215, 1, none⟩ = some (.int .i64 a0_1) ∧ w'.cell? ⟨gb215, 2, none⟩ = some (.slice A0_2 l0_2.length c0_2) ∧ w'.cell? ⟨gb215, 3, none⟩ = some (.slice A0_3 l0_3.length c0_3) ∧ w'.cell? ⟨gb216, 0, none⟩ = some (.slice A1_0 l1_0.length c1_0) ∧ w'.cell? ⟨gb216, 1, none⟩ = some (.slice (some ad218) l1_1.length c1_1) ∧ w'.cell? (ad218.add (((ji27)).toNat * 2)) = some (.int .i64 ((rd_T124 l1_1 (ji27)).f0)) ∧ w'.cell? ⟨(ad218.add (((ji27)).toNat * 2)).block, (ad218.add (((ji27)).toNat * 2)).off + 1, none⟩ = some (.slice A221_1 ((rd_T124 l1_1 (ji27)).f1).length c221_1)) (ds := []) (Sh.nm 33 0) (by kernel_rfl) rfl rfl Sh.cs (fun hHeld => ?_); refine with_tabW spec_l7Command.tab6 spec_l7Command.bits6 (fun HT_ HW_ => ?_)
              generalize w35.drew = w36 at BK215 BK216 BK219 HB HR221_1 hx221_0 hx221_1 hHeld ⊢
              refine Sh.qA 0 ?_; refine Sh.qA 2 ?_; refine Sh.qT 1 hHeld ?_; refine Sh.qT 3 hHeld ?_; refine Sh.qA 4 ?_
              refine Sh.oC 5 Tryz.func48 #[.int .i64 ((rd_T124 l1_1 x23_2).f0), .int .i64 0, .int .i64 (wrap64 (a0_1 - 1))] fun K hK => ?_
              with_reducible refine (spec_l1In.calls ((rd_T124 l1_1 x23_2).f0) 0 (wrap64 (a0_1 - 1)) true _ A24.out).mono ?_
              rintro e w' ⟨rfl, ⟨nd, rfl⟩⟩
              refine ⟨_, rfl, ?_⟩
              refine Sh.kN hK Sh.cs fun hHeld => ?_
              clear hK K
              refine Sh.qA 6 ?_; refine Sh.qA 7 ?_; refine Sh.qA 8 ?_; refine Sh.qA 9 ?_; refine Sh.qA 10 ?_; refine Sh.qA 11 ?_; refine Sh.qA 13 ?_; refine Sh.qA 14 ?_; refine Sh.qA 18 ?_; refine Sh.qT 12 hHeld ?_; refine Sh.qA 15 ?_; refine Sh.qA 16 ?_; refine Sh.qT 17 hHeld ?_; refine Sh.qT 19 hHeld ?_; refine Sh.qA 20 ?_; refine Sh.qA 21 ?_; refine Sh.qA 22 ?_; refine Sh.qA 23 ?_; refine Sh.qU 24 ?_; refine Sh.qU 25 ?_; refine Sh.qU 26 ?_; refine Sh.qU 27 ?_; refine Sh.qU 28 ?_; refine Sh.qU 29 ?_; refine Sh.qU 30 ?_; refine Sh.qU 31 ?_; refine Sh.qA 32 ?_
              refine done_ (done_of HT_.out (by kernel_rfl)) ?_
              try go_wp2
              go_ret
              exact ⟨by first | rfl | (simp [errW_none, errW_some] <;> rfl) | (simp only [← hj1]; first | rfl | (simp [errW_none, errW_some] <;> rfl)) | (simp [*, errW_none, errW_some] <;> rfl), Sh.bw⟩
             ·rw [if_neg c30] at H
              have c30b0 : decide (((rd_T124 l1_1 x23_2).f0) ≤ ((rd_T124 l1_1 (ji27)).f0)) = false := decide_eq_false c30
              clear c30
              obtain ⟨t222, A37, H⟩ := Sh.ba H
              by_cases c38 : t222 = 1
              ·rw [if_pos c38] at H
               have c38b0 : (t222 == 1) = true := beq_iff_eq.mpr c38
               have c38b1 : (t222 != 1) = false := bne_eq_false_iff_eq.mpr c38
               clear c38
               have H' := am_ H
               clear H
               have p218 : 0 ≤ (x23_2 : Int) := Sh.od
               have q218 : x23_2 < (l1_1.length : Int) := Sh.od
               obtain ⟨ad218, A218_1, c218_1, e218, hx218_0, hx218_1, hl218_1, hi218_1⟩ := at_T124 HR1_1.out x23_2 p218 q218
               cases e218
               try replace hx218_0 := Sh.cw hx218_0
               try replace hx218_1 := Sh.cw hx218_1
               have HR218_1 := am_ hi218_1
               have HC218_1 := am_ hl218_1
               clear hi218_1 hl218_1
               replace p218 := eq_true p218
               replace q218 := eq_true q218
               try go_wp2_with (first | ((with_reducible refine Sh.d 6 ?_); (try (refine gate_guard (by rfl) ?_; dsimp only)); refine Sh.bx (N := 6) (cs := #[.int .i64 0, .slice none 0 0]) (t := 124) (h := ?_); intro gb219 hg w39 hbox hb; have BK219 := am_ hbox; have GE219 := Sh.ag w hg; replace HB := Sh.hb hb; have NB215_219 := am_ (Sh.nl hg BK215.out); have NB219_215 := am_ (Sh.ng hg BK215.out); replace BK215 := Sh.ab BK215 hb; have NB216_219 := am_ (Sh.nl hg BK216.out); have NB219_216 := am_ (Sh.ng hg BK216.out); replace BK216 := Sh.ab BK216 hb; clear hb hbox hg; have hnb40 := NB219_215.out; have hnc40 := NB215_219.out; have hnb41 := NB219_216.out; have hnc41 := NB216_219.out; obtain ⟨hcz42_0, hcz42_1, hfz42_0, hfz42_1⟩ := Sh.b2 BK219.out))
               have n0_ : Aside0 (((w39.setCell ⟨gb219, 0, none⟩ (.int .i64 ((rd_T124 l1_1 x23_2).f0))).setCell ⟨gb219, 1, none⟩ (.slice A218_1 ((rd_T124 l1_1 x23_2).f1).length c218_1)).heap[gb215]? = some (.cells #[.int .i64 a0_0, .int .i64 a0_1, .slice A0_2 l0_2.length c0_2, .slice A0_3 l0_3.length c0_3] 33 (0, 0))) := ⟨by refine Sh.pl ?_; refine blk_far ?_ NB215_219.out _; refine Sh.pl ?_; refine blk_far ?_ NB215_219.out _; refine Sh.pl ?_; exact BK215.out⟩
               have n1_ : Aside0 (((w39.setCell ⟨gb219, 0, none⟩ (.int .i64 ((rd_T124 l1_1 x23_2).f0))).setCell ⟨gb219, 1, none⟩ (.slice A218_1 ((rd_T124 l1_1 x23_2).f1).length c218_1)).heap[gb216]? = some (.cells #[.slice A1_0 l1_0.length c1_0, .slice (some ad218) l1_1.length c1_1] 95 (0, 0))) := ⟨by refine Sh.pl ?_; refine blk_far ?_ NB216_219.out _; refine Sh.pl ?_; refine blk_far ?_ NB216_219.out _; refine Sh.pl ?_; exact BK216.out⟩
               have n2_ : Aside0 (((w39.setCell ⟨gb219, 0, none⟩ (.int .i64 ((rd_T124 l1_1 x23_2).f0))).setCell ⟨gb219, 1, none⟩ (.slice A218_1 ((rd_T124 l1_1 x23_2).f1).length c218_1)).heap[gb219]? = some (.cells #[.int .i64 ((rd_T124 l1_1 x23_2).f0), .slice A218_1 ((rd_T124 l1_1 x23_2).f1).length c218_1] 124 (0, 0))) := ⟨by refine Sh.pl ?_; refine blk_put (cs := #[.int .i64 ((rd_T124 l1_1 x23_2).f0), .slice none 0 0]) ?_ 1 _ rfl; refine Sh.pl ?_; refine blk_put (cs := #[.int .i64 0, .slice none 0 0]) ?_ 0 _ rfl; refine Sh.pl ?_; exact BK219.out⟩
               have n3_ : Aside0 (Below w.heap.size w ((w39.setCell ⟨gb219, 0, none⟩ (.int .i64 ((rd_T124 l1_1 x23_2).f0))).setCell ⟨gb219, 1, none⟩ (.slice A218_1 ((rd_T124 l1_1 x23_2).f1).length c218_1))) := ⟨Sh.bw⟩
               (try clear BK215)
               (try clear BK216)
               (try clear BK219)
               (try clear HB)
               generalize ((w39.setCell ⟨gb219, 0, none⟩ (.int .i64 ((rd_T124 l1_1 x23_2).f0))).setCell ⟨gb219, 1, none⟩ (.slice A218_1 ((rd_T124 l1_1 x23_2).f1).length c218_1)) = w43 at n0_ n1_ n2_ n3_ ⊢
               have BK215 := n0_
               have BK216 := n1_
               have BK219 := n2_
               have HB := n3_
               clear n0_ n1_ n2_ n3_
               replace BK215 := am_ (blk_drew BK215.out)
               replace BK216 := am_ (blk_drew BK216.out)
               replace BK219 := am_ (blk_drew BK219.out)
               replace HB := am_ (below_drew1 HB.out)
               have p221 : 0 ≤ ((ji27) : Int) := Sh.od
               have q221 : (ji27) < (l1_1.length : Int) := Sh.od
               obtain ⟨ad221, A221_1, c221_1, e221, hx221_0, hx221_1, hl221_1, hi221_1⟩ := at_T124 HR1_1.out (ji27) p221 q221
               have hw221_1 := hx221_1
               have hw221_0 := hx221_0
               obtain rfl : ad218 = ad221 := (by injection e221)
               try replace hx221_0 := Sh.cw hx221_0
               try replace hx221_1 := Sh.cw hx221_1
               have HR221_1 := am_ hi221_1
               have HC221_1 := am_ hl221_1
               clear hi221_1 hl221_1
               replace p221 := eq_true p221
               replace q221 := eq_true q221
               refine start_ (n := 33) (S := fun w' => w'.cell? ⟨gb219, 0, none⟩ = some (.int .i64 ((rd_T124 l1_1 x23_2).f0)) ∧ w'.cell? ⟨gb219, 1, none⟩ = some (.slice A218_1 ((rd_T124 l1_1 x23_2).f1).length c218_1) ∧ w'.cell? ⟨gb215, 0, none⟩ = some (.int .i64 a0_0) ∧ w'.cell? ⟨gb215, 1, none⟩ = some (.int .i64 a0_1) ∧ w'.cell? ⟨gb215, 2, none⟩ = some (.slice A0_2 l0_2.length c0_2) ∧ w'.cell? ⟨gb215, 3, none⟩ = some (.slice A0_3 l0_3.length c0_3) ∧ w'.cell? ⟨gb216, 0, none⟩ = some (.slice A1_0 l1_0.length c1_0) ∧ w'.cell? ⟨gb216, 1, none⟩ = some (.slice (some ad218) l1_1.length c1_1) ∧ w'.cell? (ad218.add (((ji27)).toNat * 2)) = some (.int .i64 ((rd_T124 l1_1 (ji27)).f0)) ∧ w'.cell? ⟨(ad218.add (((ji27)).toNat * 2)).block, (ad218.add (((ji27)).toNat * 2)).off + 1, none⟩ = some (.slice A221_1 ((rd_T124 l1_1 (ji27)).f1).length c221_1)) (ds := []) (Sh.nm 33 0) (by kernel_rfl) rfl rfl Sh.cs (fun hHeld => ?_); refine with_tabW spec_l7Command.tab6 spec_l7Command.bits6 (fun HT_ HW_ => ?_)
               generalize w43.drew = w44 at BK215 BK216 BK219 HB HR221_1 hx221_0 hx221_1 hHeld ⊢
               refine Sh.qA 0 ?_; refine Sh.qA 2 ?_; refine Sh.qT 1 hHeld ?_; refine Sh.qT 3 hHeld ?_; refine Sh.qA 4 ?_
               refine Sh.oC 5 Tryz.func48 #[.int .i64 ((rd_T124 l1_1 x23_2).f0), .int .i64 0, .int .i64 (wrap64 (a0_1 - 1))] fun K hK => ?_
               with_reducible refine (spec_l1In.calls ((rd_T124 l1_1 x23_2).f0) 0 (wrap64 (a0_1 - 1)) true _ A24.out).mono ?_
               rintro e w' ⟨rfl, ⟨nd, rfl⟩⟩
               refine ⟨_, rfl, ?_⟩
               refine Sh.kN hK Sh.cs fun hHeld => ?_
               clear hK K
               refine Sh.qA 6 ?_; refine Sh.qA 7 ?_; refine Sh.qA 8 ?_; refine Sh.qA 9 ?_; refine Sh.qA 10 ?_; refine Sh.qA 11 ?_; refine Sh.qA 13 ?_; refine Sh.qA 14 ?_; refine Sh.qA 18 ?_; refine Sh.qT 12 hHeld ?_; refine Sh.qA 15 ?_; refine Sh.qA 16 ?_; refine Sh.qT 17 hHeld ?_; refine Sh.qT 19 hHeld ?_; refine Sh.qA 20 ?_; refine Sh.qA 21 ?_; refine Sh.qA 22 ?_; refine Sh.qA 23 ?_; refine Sh.qA 24 ?_; refine Sh.qA 26 ?_; refine Sh.qA 28 ?_; refine Sh.qT 25 hHeld ?_; refine Sh.qT 27 hHeld ?_; refine Sh.qT 29 hHeld ?_
               refine Sh.oC 30 Tryz.func100 #[.int .i64 a0_0, .int .i64 a0_1, .slice A218_1 ((rd_T124 l1_1 x23_2).f1).length c218_1] fun K hK => ?_
               with_reducible refine (spec_l2Kind.calls k2 a0_0 a0_1 _ _ ((rd_T124 l1_1 x23_2).f1) t222 _ (Sh.cB HR218_1.out) HC218_1.out A37.out).mono ?_
               rintro e w45 ⟨rfl, hb⟩
               refine ⟨_, rfl, ?_⟩
               replace BK215 := Sh.ab BK215 hb
               replace BK216 := Sh.ab BK216 hb
               replace BK219 := Sh.ab BK219 hb
               replace HB := Sh.hb hb
               (try clear hb)
               refine Sh.kN hK Sh.cs fun hHeld => ?_
               clear hK K
               refine Sh.qA 31 ?_; refine Sh.qA 32 ?_
               refine done_ (done_of HT_.out (by kernel_rfl)) ?_
               try go_wp2
               go_roundg k2
               case measure => have := HJ2.out; have := HK2.out; omega
               case rel => exact ⟨(wrap64 (x23_2 + 1)), (Sh.es), H', ⟨by have := HJ2.out; have := HK2.out; omega⟩, ⟨by refine Sh.pl ?_; exact BK215.out⟩, ⟨by refine Sh.pl ?_; exact BK216.out⟩, ⟨Sh.bw⟩⟩
              ·rw [if_neg c38] at H
               have c38b0 : (t222 == 1) = false := beq_eq_false_iff_ne.mpr c38
               have c38b1 : (t222 != 1) = true := bne_iff_ne.mpr c38
               obtain rfl := Option.some.inj H
               have p218 : 0 ≤ (x23_2 : Int) := Sh.od
               have q218 : x23_2 < (l1_1.length : Int) := Sh.od
               obtain ⟨ad218, A218_1, c218_1, e218, hx218_0, hx218_1, hl218_1, hi218_1⟩ := at_T124 HR1_1.out x23_2 p218 q218
               cases e218
               try replace hx218_0 := Sh.cw hx218_0
               try replace hx218_1 := Sh.cw hx218_1
               have HR218_1 := am_ hi218_1
               have HC218_1 := am_ hl218_1
               clear hi218_1 hl218_1
               replace p218 := eq_true p218
               replace q218 := eq_true q218
               try go_wp2_with (first | ((with_reducible refine Sh.d 6 ?_); (try (refine gate_guard (by rfl) ?_; dsimp only)); refine Sh.bx (N := 6) (cs := #[.int .i64 0, .slice none 0 0]) (t := 124) (h := ?_); intro gb219 hg w46 hbox hb; have BK219 := am_ hbox; have GE219 := Sh.ag w hg; replace HB := Sh.hb hb; have NB215_219 := am_ (Sh.nl hg BK215.out); have NB219_215 := am_ (Sh.ng hg BK215.out); replace BK215 := Sh.ab BK215 hb; have NB216_219 := am_ (Sh.nl hg BK216.out); have NB219_216 := am_ (Sh.ng hg BK216.out); replace BK216 := Sh.ab BK216 hb; clear hb hbox hg; have hnb47 := NB219_215.out; have hnc47 := NB215_219.out; have hnb48 := NB219_216.out; have hnc48 := NB216_219.out; obtain ⟨hcz49_0, hcz49_1, hfz49_0, hfz49_1⟩ := Sh.b2 BK219.out))
               have n0_ : Aside0 (((w46.setCell ⟨gb219, 0, none⟩ (.int .i64 ((rd_T124 l1_1 x23_2).f0))).setCell ⟨gb219, 1, none⟩ (.slice A218_1 ((rd_T124 l1_1 x23_2).f1).length c218_1)).heap[gb215]? = some (.cells #[.int .i64 a0_0, .int .i64 a0_1, .slice A0_2 l0_2.length c0_2, .slice A0_3 l0_3.length c0_3] 33 (0, 0))) := ⟨by refine Sh.pl ?_; refine blk_far ?_ NB215_219.out _; refine Sh.pl ?_; refine blk_far ?_ NB215_219.out _; refine Sh.pl ?_; exact BK215.out⟩
               have n1_ : Aside0 (((w46.setCell ⟨gb219, 0, none⟩ (.int .i64 ((rd_T124 l1_1 x23_2).f0))).setCell ⟨gb219, 1, none⟩ (.slice A218_1 ((rd_T124 l1_1 x23_2).f1).length c218_1)).heap[gb216]? = some (.cells #[.slice A1_0 l1_0.length c1_0, .slice (some ad218) l1_1.length c1_1] 95 (0, 0))) := ⟨by refine Sh.pl ?_; refine blk_far ?_ NB216_219.out _; refine Sh.pl ?_; refine blk_far ?_ NB216_219.out _; refine Sh.pl ?_; exact BK216.out⟩
               have n2_ : Aside0 (((w46.setCell ⟨gb219, 0, none⟩ (.int .i64 ((rd_T124 l1_1 x23_2).f0))).setCell ⟨gb219, 1, none⟩ (.slice A218_1 ((rd_T124 l1_1 x23_2).f1).length c218_1)).heap[gb219]? = some (.cells #[.int .i64 ((rd_T124 l1_1 x23_2).f0), .slice A218_1 ((rd_T124 l1_1 x23_2).f1).length c218_1] 124 (0, 0))) := ⟨by refine Sh.pl ?_; refine blk_put (cs := #[.int .i64 ((rd_T124 l1_1 x23_2).f0), .slice none 0 0]) ?_ 1 _ rfl; refine Sh.pl ?_; refine blk_put (cs := #[.int .i64 0, .slice none 0 0]) ?_ 0 _ rfl; refine Sh.pl ?_; exact BK219.out⟩
               have n3_ : Aside0 (Below w.heap.size w ((w46.setCell ⟨gb219, 0, none⟩ (.int .i64 ((rd_T124 l1_1 x23_2).f0))).setCell ⟨gb219, 1, none⟩ (.slice A218_1 ((rd_T124 l1_1 x23_2).f1).length c218_1))) := ⟨Sh.bw⟩
               (try clear BK215)
               (try clear BK216)
               (try clear BK219)
               (try clear HB)
               generalize ((w46.setCell ⟨gb219, 0, none⟩ (.int .i64 ((rd_T124 l1_1 x23_2).f0))).setCell ⟨gb219, 1, none⟩ (.slice A218_1 ((rd_T124 l1_1 x23_2).f1).length c218_1)) = w50 at n0_ n1_ n2_ n3_ ⊢
               have BK215 := n0_
               have BK216 := n1_
               have BK219 := n2_
               have HB := n3_
               clear n0_ n1_ n2_ n3_
               replace BK215 := am_ (blk_drew BK215.out)
               replace BK216 := am_ (blk_drew BK216.out)
               replace BK219 := am_ (blk_drew BK219.out)
               replace HB := am_ (below_drew1 HB.out)
               have p221 : 0 ≤ ((ji27) : Int) := Sh.od
               have q221 : (ji27) < (l1_1.length : Int) := Sh.od
               obtain ⟨ad221, A221_1, c221_1, e221, hx221_0, hx221_1, hl221_1, hi221_1⟩ := at_T124 HR1_1.out (ji27) p221 q221
               have hw221_1 := hx221_1
               have hw221_0 := hx221_0
               obtain rfl : ad218 = ad221 := (by injection e221)
               try replace hx221_0 := Sh.cw hx221_0
               try replace hx221_1 := Sh.cw hx221_1
               have HR221_1 := am_ hi221_1
               have HC221_1 := am_ hl221_1
               clear hi221_1 hl221_1
               replace p221 := eq_true p221
               replace q221 := eq_true q221
               refine start_ (n := 33) (S := fun w' => w'.cell? ⟨gb219, 0, none⟩ = some (.int .i64 ((rd_T124 l1_1 x23_2).f0)) ∧ w'.cell? ⟨gb219, 1, none⟩ = some (.slice A218_1 ((rd_T124 l1_1 x23_2).f1).length c218_1) ∧ w'.cell? ⟨gb215, 0, none⟩ = some (.int .i64 a0_0) ∧ w'.cell? ⟨gb215, 1, none⟩ = some (.int .i64 a0_1) ∧ w'.cell? ⟨gb215, 2, none⟩ = some (.slice A0_2 l0_2.length c0_2) ∧ w'.cell? ⟨gb215, 3, none⟩ = some (.slice A0_3 l0_3.length c0_3) ∧ w'.cell? ⟨gb216, 0, none⟩ = some (.slice A1_0 l1_0.length c1_0) ∧ w'.cell? ⟨gb216, 1, none⟩ = some (.slice (some ad218) l1_1.length c1_1) ∧ w'.cell? (ad218.add (((ji27)).toNat * 2)) = some (.int .i64 ((rd_T124 l1_1 (ji27)).f0)) ∧ w'.cell? ⟨(ad218.add (((ji27)).toNat * 2)).block, (ad218.add (((ji27)).toNat * 2)).off + 1, none⟩ = some (.slice A221_1 ((rd_T124 l1_1 (ji27)).f1).length c221_1)) (ds := []) (Sh.nm 33 0) (by kernel_rfl) rfl rfl Sh.cs (fun hHeld => ?_); refine with_tabW spec_l7Command.tab6 spec_l7Command.bits6 (fun HT_ HW_ => ?_)
               generalize w50.drew = w51 at BK215 BK216 BK219 HB HR221_1 hx221_0 hx221_1 hHeld ⊢
               refine Sh.qA 0 ?_; refine Sh.qA 2 ?_; refine Sh.qT 1 hHeld ?_; refine Sh.qT 3 hHeld ?_; refine Sh.qA 4 ?_
               refine Sh.oC 5 Tryz.func48 #[.int .i64 ((rd_T124 l1_1 x23_2).f0), .int .i64 0, .int .i64 (wrap64 (a0_1 - 1))] fun K hK => ?_
               with_reducible refine (spec_l1In.calls ((rd_T124 l1_1 x23_2).f0) 0 (wrap64 (a0_1 - 1)) true _ A24.out).mono ?_
               rintro e w' ⟨rfl, ⟨nd, rfl⟩⟩
               refine ⟨_, rfl, ?_⟩
               refine Sh.kN hK Sh.cs fun hHeld => ?_
               clear hK K
               refine Sh.qA 6 ?_; refine Sh.qA 7 ?_; refine Sh.qA 8 ?_; refine Sh.qA 9 ?_; refine Sh.qA 10 ?_; refine Sh.qA 11 ?_; refine Sh.qA 13 ?_; refine Sh.qA 14 ?_; refine Sh.qA 18 ?_; refine Sh.qT 12 hHeld ?_; refine Sh.qA 15 ?_; refine Sh.qA 16 ?_; refine Sh.qT 17 hHeld ?_; refine Sh.qT 19 hHeld ?_; refine Sh.qA 20 ?_; refine Sh.qA 21 ?_; refine Sh.qA 22 ?_; refine Sh.qA 23 ?_; refine Sh.qA 24 ?_; refine Sh.qA 26 ?_; refine Sh.qA 28 ?_; refine Sh.qT 25 hHeld ?_; refine Sh.qT 27 hHeld ?_; refine Sh.qT 29 hHeld ?_
               refine Sh.oC 30 Tryz.func100 #[.int .i64 a0_0, .int .i64 a0_1, .slice A218_1 ((rd_T124 l1_1 x23_2).f1).length c218_1] fun K hK => ?_
               with_reducible refine (spec_l2Kind.calls k2 a0_0 a0_1 _ _ ((rd_T124 l1_1 x23_2).f1) t222 _ (Sh.cB HR218_1.out) HC218_1.out A37.out).mono ?_
               rintro e w52 ⟨rfl, hb⟩
               refine ⟨_, rfl, ?_⟩
               replace BK215 := Sh.ab BK215 hb
               replace BK216 := Sh.ab BK216 hb
               replace BK219 := Sh.ab BK219 hb
               replace HB := Sh.hb hb
               (try clear hb)
               refine Sh.kN hK Sh.cs fun hHeld => ?_
               clear hK K
               refine Sh.qA 31 ?_; refine Sh.qA 32 ?_
               refine done_ (done_of HT_.out (by kernel_rfl)) ?_
               try go_wp2
               go_ret
               exact ⟨by first | rfl | (simp [errW_none, errW_some] <;> rfl) | (simp only [← hj1]; first | rfl | (simp [errW_none, errW_some] <;> rfl)) | (simp [*, errW_none, errW_some] <;> rfl), Sh.bw⟩
            ·rw [if_neg c29] at H
             cases H
           ·rw [if_neg c28] at H
            cases H
          ·rw [if_neg c26] at H
           have c26b0 : decide (0 < x23_2) = false := decide_eq_false c26
           clear c26
           obtain ⟨t223, A53, H⟩ := Sh.ba H
           by_cases c54 : t223 = 1
           ·rw [if_pos c54] at H
            have c54b0 : (t223 == 1) = true := beq_iff_eq.mpr c54
            have c54b1 : (t223 != 1) = false := bne_eq_false_iff_eq.mpr c54
            clear c54
            have H' := am_ H
            clear H
            have p218 : 0 ≤ (x23_2 : Int) := Sh.od
            have q218 : x23_2 < (l1_1.length : Int) := Sh.od
            obtain ⟨ad218, A218_1, c218_1, e218, hx218_0, hx218_1, hl218_1, hi218_1⟩ := at_T124 HR1_1.out x23_2 p218 q218
            cases e218
            try replace hx218_0 := Sh.cw hx218_0
            try replace hx218_1 := Sh.cw hx218_1
            have HR218_1 := am_ hi218_1
            have HC218_1 := am_ hl218_1
            clear hi218_1 hl218_1
            replace p218 := eq_true p218
            replace q218 := eq_true q218
            try go_wp2_with (first | ((with_reducible refine Sh.d 6 ?_); (try (refine gate_guard (by rfl) ?_; dsimp only)); refine Sh.bx (N := 6) (cs := #[.int .i64 0, .slice none 0 0]) (t := 124) (h := ?_); intro gb219 hg w55 hbox hb; have BK219 := am_ hbox; have GE219 := Sh.ag w hg; replace HB := Sh.hb hb; have NB215_219 := am_ (Sh.nl hg BK215.out); have NB219_215 := am_ (Sh.ng hg BK215.out); replace BK215 := Sh.ab BK215 hb; have NB216_219 := am_ (Sh.nl hg BK216.out); have NB219_216 := am_ (Sh.ng hg BK216.out); replace BK216 := Sh.ab BK216 hb; clear hb hbox hg; have hnb56 := NB219_215.out; have hnc56 := NB215_219.out; have hnb57 := NB219_216.out; have hnc57 := NB216_219.out; obtain ⟨hcz58_0, hcz58_1, hfz58_0, hfz58_1⟩ := Sh.b2 BK219.out))
            have n0_ : Aside0 (((w55.setCell ⟨gb219, 0, none⟩ (.int .i64 ((rd_T124 l1_1 x23_2).f0))).setCell ⟨gb219, 1, none⟩ (.slice A218_1 ((rd_T124 l1_1 x23_2).f1).length c218_1)).heap[gb215]? = some (.cells #[.int .i64 a0_0, .int .i64 a0_1, .slice A0_2 l0_2.length c0_2, .slice A0_3 l0_3.length c0_3] 33 (0, 0))) := ⟨by refine Sh.pl ?_; refine blk_far ?_ NB215_219.out _; refine Sh.pl ?_; refine blk_far ?_ NB215_219.out _; refine Sh.pl ?_; exact BK215.out⟩
            have n1_ : Aside0 (((w55.setCell ⟨gb219, 0, none⟩ (.int .i64 ((rd_T124 l1_1 x23_2).f0))).setCell ⟨gb219, 1, none⟩ (.slice A218_1 ((rd_T124 l1_1 x23_2).f1).length c218_1)).heap[gb216]? = some (.cells #[.slice A1_0 l1_0.length c1_0, .slice (some ad218) l1_1.length c1_1] 95 (0, 0))) := ⟨by refine Sh.pl ?_; refine blk_far ?_ NB216_219.out _; refine Sh.pl ?_; refine blk_far ?_ NB216_219.out _; refine Sh.pl ?_; exact BK216.out⟩
            have n2_ : Aside0 (((w55.setCell ⟨gb219, 0, none⟩ (.int .i64 ((rd_T124 l1_1 x23_2).f0))).setCell ⟨gb219, 1, none⟩ (.slice A218_1 ((rd_T124 l1_1 x23_2).f1).length c218_1)).heap[gb219]? = some (.cells #[.int .i64 ((rd_T124 l1_1 x23_2).f0), .slice A218_1 ((rd_T124 l1_1 x23_2).f1).length c218_1] 124 (0, 0))) := ⟨by refine Sh.pl ?_; refine blk_put (cs := #[.int .i64 ((rd_T124 l1_1 x23_2).f0), .slice none 0 0]) ?_ 1 _ rfl; refine Sh.pl ?_; refine blk_put (cs := #[.int .i64 0, .slice none 0 0]) ?_ 0 _ rfl; refine Sh.pl ?_; exact BK219.out⟩
            have n3_ : Aside0 (Below w.heap.size w ((w55.setCell ⟨gb219, 0, none⟩ (.int .i64 ((rd_T124 l1_1 x23_2).f0))).setCell ⟨gb219, 1, none⟩ (.slice A218_1 ((rd_T124 l1_1 x23_2).f1).length c218_1))) := ⟨Sh.bw⟩
            (try clear BK215)
            (try clear BK216)
            (try clear BK219)
            (try clear HB)
            generalize ((w55.setCell ⟨gb219, 0, none⟩ (.int .i64 ((rd_T124 l1_1 x23_2).f0))).setCell ⟨gb219, 1, none⟩ (.slice A218_1 ((rd_T124 l1_1 x23_2).f1).length c218_1)) = w59 at n0_ n1_ n2_ n3_ ⊢
            have BK215 := n0_
            have BK216 := n1_
            have BK219 := n2_
            have HB := n3_
            clear n0_ n1_ n2_ n3_
            replace BK215 := am_ (blk_drew BK215.out)
            replace BK216 := am_ (blk_drew BK216.out)
            replace BK219 := am_ (blk_drew BK219.out)
            replace HB := am_ (below_drew1 HB.out)
            refine start_ (n := 33) (S := fun w' => w'.cell? ⟨gb219, 0, none⟩ = some (.int .i64 ((rd_T124 l1_1 x23_2).f0)) ∧ w'.cell? ⟨gb219, 1, none⟩ = some (.slice A218_1 ((rd_T124 l1_1 x23_2).f1).length c218_1) ∧ w'.cell? ⟨gb215, 0, none⟩ = some (.int .i64 a0_0) ∧ w'.cell? ⟨gb215, 1, none⟩ = some (.int .i64 a0_1) ∧ w'.cell? ⟨gb215, 2, none⟩ = some (.slice A0_2 l0_2.length c0_2) ∧ w'.cell? ⟨gb215, 3, none⟩ = some (.slice A0_3 l0_3.length c0_3)) (ds := []) (Sh.nm 33 0) (by kernel_rfl) rfl rfl Sh.cs (fun hHeld => ?_); refine with_tabW spec_l7Command.tab6 spec_l7Command.bits6 (fun HT_ HW_ => ?_)
            generalize w59.drew = w60 at BK215 BK216 BK219 HB hHeld ⊢
            refine Sh.qA 0 ?_; refine Sh.qA 2 ?_; refine Sh.qT 1 hHeld ?_; refine Sh.qT 3 hHeld ?_; refine Sh.qA 4 ?_
            refine Sh.oC 5 Tryz.func48 #[.int .i64 ((rd_T124 l1_1 x23_2).f0), .int .i64 0, .int .i64 (wrap64 (a0_1 - 1))] fun K hK => ?_
            with_reducible refine (spec_l1In.calls ((rd_T124 l1_1 x23_2).f0) 0 (wrap64 (a0_1 - 1)) true _ A24.out).mono ?_
            rintro e w' ⟨rfl, ⟨nd, rfl⟩⟩
            refine ⟨_, rfl, ?_⟩
            refine Sh.kN hK Sh.cs fun hHeld => ?_
            clear hK K
            refine Sh.qA 6 ?_; refine Sh.qA 7 ?_; refine Sh.qA 8 ?_; refine Sh.qA 9 ?_; refine Sh.qA 10 ?_; refine Sh.qU 11 ?_; refine Sh.qU 12 ?_; refine Sh.qU 13 ?_; refine Sh.qU 14 ?_; refine Sh.qU 15 ?_; refine Sh.qU 16 ?_; refine Sh.qU 17 ?_; refine Sh.qU 18 ?_; refine Sh.qU 19 ?_; refine Sh.qU 20 ?_; refine Sh.qA 21 ?_; refine Sh.qA 22 ?_; refine Sh.qA 23 ?_; refine Sh.qA 24 ?_; refine Sh.qA 26 ?_; refine Sh.qA 28 ?_; refine Sh.qT 25 hHeld ?_; refine Sh.qT 27 hHeld ?_; refine Sh.qT 29 hHeld ?_
            refine Sh.oC 30 Tryz.func100 #[.int .i64 a0_0, .int .i64 a0_1, .slice A218_1 ((rd_T124 l1_1 x23_2).f1).length c218_1] fun K hK => ?_
            with_reducible refine (spec_l2Kind.calls k2 a0_0 a0_1 _ _ ((rd_T124 l1_1 x23_2).f1) t223 _ (Sh.cB HR218_1.out) HC218_1.out A53.out).mono ?_
            rintro e w61 ⟨rfl, hb⟩
            refine ⟨_, rfl, ?_⟩
            replace BK215 := Sh.ab BK215 hb
            replace BK216 := Sh.ab BK216 hb
            replace BK219 := Sh.ab BK219 hb
            replace HB := Sh.hb hb
            (try clear hb)
            refine Sh.kN hK Sh.cs fun hHeld => ?_
            clear hK K
            refine Sh.qA 31 ?_; refine Sh.qA 32 ?_
            refine done_ (done_of HT_.out (by kernel_rfl)) ?_
            try go_wp2
            go_roundg k2
            case measure => have := HJ2.out; have := HK2.out; omega
            case rel => exact ⟨(wrap64 (x23_2 + 1)), (Sh.es), H', ⟨by have := HJ2.out; have := HK2.out; omega⟩, ⟨by refine Sh.pl ?_; exact BK215.out⟩, ⟨by refine Sh.pl ?_; exact BK216.out⟩, ⟨Sh.bw⟩⟩
           ·rw [if_neg c54] at H
            have c54b0 : (t223 == 1) = false := beq_eq_false_iff_ne.mpr c54
            have c54b1 : (t223 != 1) = true := bne_iff_ne.mpr c54
            obtain rfl := Option.some.inj H
            have p218 : 0 ≤ (x23_2 : Int) := Sh.od
            have q218 : x23_2 < (l1_1.length : Int) := Sh.od
            obtain ⟨ad218, A218_1, c218_1, e218, hx218_0, hx218_1, hl218_1, hi218_1⟩ := at_T124 HR1_1.out x23_2 p218 q218
            cases e218
            try replace hx218_0 := Sh.cw hx218_0
            try replace hx218_1 := Sh.cw hx218_1
            have HR218_1 := am_ hi218_1
            have HC218_1 := am_ hl218_1
            clear hi218_1 hl218_1
            replace p218 := eq_true p218
            replace q218 := eq_true q218
            try go_wp2_with (first | ((with_reducible refine Sh.d 6 ?_); (try (refine gate_guard (by rfl) ?_; dsimp only)); refine Sh.bx (N := 6) (cs := #[.int .i64 0, .slice none 0 0]) (t := 124) (h := ?_); intro gb219 hg w62 hbox hb; have BK219 := am_ hbox; have GE219 := Sh.ag w hg; replace HB := Sh.hb hb; have NB215_219 := am_ (Sh.nl hg BK215.out); have NB219_215 := am_ (Sh.ng hg BK215.out); replace BK215 := Sh.ab BK215 hb; have NB216_219 := am_ (Sh.nl hg BK216.out); have NB219_216 := am_ (Sh.ng hg BK216.out); replace BK216 := Sh.ab BK216 hb; clear hb hbox hg; have hnb63 := NB219_215.out; have hnc63 := NB215_219.out; have hnb64 := NB219_216.out; have hnc64 := NB216_219.out; obtain ⟨hcz65_0, hcz65_1, hfz65_0, hfz65_1⟩ := Sh.b2 BK219.out))
            have n0_ : Aside0 (((w62.setCell ⟨gb219, 0, none⟩ (.int .i64 ((rd_T124 l1_1 x23_2).f0))).setCell ⟨gb219, 1, none⟩ (.slice A218_1 ((rd_T124 l1_1 x23_2).f1).length c218_1)).heap[gb215]? = some (.cells #[.int .i64 a0_0, .int .i64 a0_1, .slice A0_2 l0_2.length c0_2, .slice A0_3 l0_3.length c0_3] 33 (0, 0))) := ⟨by refine Sh.pl ?_; refine blk_far ?_ NB215_219.out _; refine Sh.pl ?_; refine blk_far ?_ NB215_219.out _; refine Sh.pl ?_; exact BK215.out⟩
            have n1_ : Aside0 (((w62.setCell ⟨gb219, 0, none⟩ (.int .i64 ((rd_T124 l1_1 x23_2).f0))).setCell ⟨gb219, 1, none⟩ (.slice A218_1 ((rd_T124 l1_1 x23_2).f1).length c218_1)).heap[gb216]? = some (.cells #[.slice A1_0 l1_0.length c1_0, .slice (some ad218) l1_1.length c1_1] 95 (0, 0))) := ⟨by refine Sh.pl ?_; refine blk_far ?_ NB216_219.out _; refine Sh.pl ?_; refine blk_far ?_ NB216_219.out _; refine Sh.pl ?_; exact BK216.out⟩
            have n2_ : Aside0 (((w62.setCell ⟨gb219, 0, none⟩ (.int .i64 ((rd_T124 l1_1 x23_2).f0))).setCell ⟨gb219, 1, none⟩ (.slice A218_1 ((rd_T124 l1_1 x23_2).f1).length c218_1)).heap[gb219]? = some (.cells #[.int .i64 ((rd_T124 l1_1 x23_2).f0), .slice A218_1 ((rd_T124 l1_1 x23_2).f1).length c218_1] 124 (0, 0))) := ⟨by refine Sh.pl ?_; refine blk_put (cs := #[.int .i64 ((rd_T124 l1_1 x23_2).f0), .slice none 0 0]) ?_ 1 _ rfl; refine Sh.pl ?_; refine blk_put (cs := #[.int .i64 0, .slice none 0 0]) ?_ 0 _ rfl; refine Sh.pl ?_; exact BK219.out⟩
            have n3_ : Aside0 (Below w.heap.size w ((w62.setCell ⟨gb219, 0, none⟩ (.int .i64 ((rd_T124 l1_1 x23_2).f0))).setCell ⟨gb219, 1, none⟩ (.slice A218_1 ((rd_T124 l1_1 x23_2).f1).length c218_1))) := ⟨Sh.bw⟩
            (try clear BK215)
            (try clear BK216)
            (try clear BK219)
            (try clear HB)
            generalize ((w62.setCell ⟨gb219, 0, none⟩ (.int .i64 ((rd_T124 l1_1 x23_2).f0))).setCell ⟨gb219, 1, none⟩ (.slice A218_1 ((rd_T124 l1_1 x23_2).f1).length c218_1)) = w66 at n0_ n1_ n2_ n3_ ⊢
            have BK215 := n0_
            have BK216 := n1_
            have BK219 := n2_
            have HB := n3_
            clear n0_ n1_ n2_ n3_
            replace BK215 := am_ (blk_drew BK215.out)
            replace BK216 := am_ (blk_drew BK216.out)
            replace BK219 := am_ (blk_drew BK219.out)
            replace HB := am_ (below_drew1 HB.out)
            refine start_ (n := 33) (S := fun w' => w'.cell? ⟨gb219, 0, none⟩ = some (.int .i64 ((rd_T124 l1_1 x23_2).f0)) ∧ w'.cell? ⟨gb219, 1, none⟩ = some (.slice A218_1 ((rd_T124 l1_1 x23_2).f1).length c218_1) ∧ w'.cell? ⟨gb215, 0, none⟩ = some (.int .i64 a0_0) ∧ w'.cell? ⟨gb215, 1, none⟩ = some (.int .i64 a0_1) ∧ w'.cell? ⟨gb215, 2, none⟩ = some (.slice A0_2 l0_2.length c0_2) ∧ w'.cell? ⟨gb215, 3, none⟩ = some (.slice A0_3 l0_3.length c0_3)) (ds := []) (Sh.nm 33 0) (by kernel_rfl) rfl rfl Sh.cs (fun hHeld => ?_); refine with_tabW spec_l7Command.tab6 spec_l7Command.bits6 (fun HT_ HW_ => ?_)
            generalize w66.drew = w67 at BK215 BK216 BK219 HB hHeld ⊢
            refine Sh.qA 0 ?_; refine Sh.qA 2 ?_; refine Sh.qT 1 hHeld ?_; refine Sh.qT 3 hHeld ?_; refine Sh.qA 4 ?_
            refine Sh.oC 5 Tryz.func48 #[.int .i64 ((rd_T124 l1_1 x23_2).f0), .int .i64 0, .int .i64 (wrap64 (a0_1 - 1))] fun K hK => ?_
            with_reducible refine (spec_l1In.calls ((rd_T124 l1_1 x23_2).f0) 0 (wrap64 (a0_1 - 1)) true _ A24.out).mono ?_
            rintro e w' ⟨rfl, ⟨nd, rfl⟩⟩
            refine ⟨_, rfl, ?_⟩
            refine Sh.kN hK Sh.cs fun hHeld => ?_
            clear hK K
            refine Sh.qA 6 ?_; refine Sh.qA 7 ?_; refine Sh.qA 8 ?_; refine Sh.qA 9 ?_; refine Sh.qA 10 ?_; refine Sh.qU 11 ?_; refine Sh.qU 12 ?_; refine Sh.qU 13 ?_; refine Sh.qU 14 ?_; refine Sh.qU 15 ?_; refine Sh.qU 16 ?_; refine Sh.qU 17 ?_; refine Sh.qU 18 ?_; refine Sh.qU 19 ?_; refine Sh.qU 20 ?_; refine Sh.qA 21 ?_; refine Sh.qA 22 ?_; refine Sh.qA 23 ?_; refine Sh.qA 24 ?_; refine Sh.qA 26 ?_; refine Sh.qA 28 ?_; refine Sh.qT 25 hHeld ?_; refine Sh.qT 27 hHeld ?_; refine Sh.qT 29 hHeld ?_
            refine Sh.oC 30 Tryz.func100 #[.int .i64 a0_0, .int .i64 a0_1, .slice A218_1 ((rd_T124 l1_1 x23_2).f1).length c218_1] fun K hK => ?_
            with_reducible refine (spec_l2Kind.calls k2 a0_0 a0_1 _ _ ((rd_T124 l1_1 x23_2).f1) t223 _ (Sh.cB HR218_1.out) HC218_1.out A53.out).mono ?_
            rintro e w68 ⟨rfl, hb⟩
            refine ⟨_, rfl, ?_⟩
            replace BK215 := Sh.ab BK215 hb
            replace BK216 := Sh.ab BK216 hb
            replace BK219 := Sh.ab BK219 hb
            replace HB := Sh.hb hb
            (try clear hb)
            refine Sh.kN hK Sh.cs fun hHeld => ?_
            clear hK K
            refine Sh.qA 31 ?_; refine Sh.qA 32 ?_
            refine done_ (done_of HT_.out (by kernel_rfl)) ?_
            try go_wp2
            go_ret
            exact ⟨Sh.eR, Sh.bw⟩
         ·replace c25 := Bool.eq_false_iff.mpr c25
          subst c25
          rw [Sh.nf] at H
          obtain rfl := Option.some.inj H
          have p218 : 0 ≤ (x23_2 : Int) := Sh.od
          have q218 : x23_2 < (l1_1.length : Int) := Sh.od
          obtain ⟨ad218, A218_1, c218_1, e218, hx218_0, hx218_1, hl218_1, hi218_1⟩ := at_T124 HR1_1.out x23_2 p218 q218
          cases e218
          try replace hx218_0 := Sh.cw hx218_0
          try replace hx218_1 := Sh.cw hx218_1
          have HR218_1 := am_ hi218_1
          have HC218_1 := am_ hl218_1
          clear hi218_1 hl218_1
          replace p218 := eq_true p218
          replace q218 := eq_true q218
          try go_wp2_with (first | ((with_reducible refine Sh.d 6 ?_); (try (refine gate_guard (by rfl) ?_; dsimp only)); refine Sh.bx (N := 6) (cs := #[.int .i64 0, .slice none 0 0]) (t := 124) (h := ?_); intro gb219 hg w69 hbox hb; have BK219 := am_ hbox; have GE219 := Sh.ag w hg; replace HB := Sh.hb hb; have NB215_219 := am_ (Sh.nl hg BK215.out); have NB219_215 := am_ (Sh.ng hg BK215.out); replace BK215 := Sh.ab BK215 hb; have NB216_219 := am_ (Sh.nl hg BK216.out); have NB219_216 := am_ (Sh.ng hg BK216.out); replace BK216 := Sh.ab BK216 hb; clear hb hbox hg; have hnb70 := NB219_215.out; have hnc70 := NB215_219.out; have hnb71 := NB219_216.out; have hnc71 := NB216_219.out; obtain ⟨hcz72_0, hcz72_1, hfz72_0, hfz72_1⟩ := Sh.b2 BK219.out))
          have n0_ : Aside0 (((w69.setCell ⟨gb219, 0, none⟩ (.int .i64 ((rd_T124 l1_1 x23_2).f0))).setCell ⟨gb219, 1, none⟩ (.slice A218_1 ((rd_T124 l1_1 x23_2).f1).length c218_1)).heap[gb215]? = some (.cells #[.int .i64 a0_0, .int .i64 a0_1, .slice A0_2 l0_2.length c0_2, .slice A0_3 l0_3.length c0_3] 33 (0, 0))) := ⟨by refine Sh.pl ?_; refine blk_far ?_ NB215_219.out _; refine Sh.pl ?_; refine blk_far ?_ NB215_219.out _; refine Sh.pl ?_; exact BK215.out⟩
          have n1_ : Aside0 (((w69.setCell ⟨gb219, 0, none⟩ (.int .i64 ((rd_T124 l1_1 x23_2).f0))).setCell ⟨gb219, 1, none⟩ (.slice A218_1 ((rd_T124 l1_1 x23_2).f1).length c218_1)).heap[gb216]? = some (.cells #[.slice A1_0 l1_0.length c1_0, .slice (some ad218) l1_1.length c1_1] 95 (0, 0))) := ⟨by refine Sh.pl ?_; refine blk_far ?_ NB216_219.out _; refine Sh.pl ?_; refine blk_far ?_ NB216_219.out _; refine Sh.pl ?_; exact BK216.out⟩
          have n2_ : Aside0 (((w69.setCell ⟨gb219, 0, none⟩ (.int .i64 ((rd_T124 l1_1 x23_2).f0))).setCell ⟨gb219, 1, none⟩ (.slice A218_1 ((rd_T124 l1_1 x23_2).f1).length c218_1)).heap[gb219]? = some (.cells #[.int .i64 ((rd_T124 l1_1 x23_2).f0), .slice A218_1 ((rd_T124 l1_1 x23_2).f1).length c218_1] 124 (0, 0))) := ⟨by refine Sh.pl ?_; refine blk_put (cs := #[.int .i64 ((rd_T124 l1_1 x23_2).f0), .slice none 0 0]) ?_ 1 _ rfl; refine Sh.pl ?_; refine blk_put (cs := #[.int .i64 0, .slice none 0 0]) ?_ 0 _ rfl; refine Sh.pl ?_; exact BK219.out⟩
          have n3_ : Aside0 (Below w.heap.size w ((w69.setCell ⟨gb219, 0, none⟩ (.int .i64 ((rd_T124 l1_1 x23_2).f0))).setCell ⟨gb219, 1, none⟩ (.slice A218_1 ((rd_T124 l1_1 x23_2).f1).length c218_1))) := ⟨Sh.bw⟩
          (try clear BK215)
          (try clear BK216)
          (try clear BK219)
          (try clear HB)
          generalize ((w69.setCell ⟨gb219, 0, none⟩ (.int .i64 ((rd_T124 l1_1 x23_2).f0))).setCell ⟨gb219, 1, none⟩ (.slice A218_1 ((rd_T124 l1_1 x23_2).f1).length c218_1)) = w73 at n0_ n1_ n2_ n3_ ⊢
          have BK215 := n0_
          have BK216 := n1_
          have BK219 := n2_
          have HB := n3_
          clear n0_ n1_ n2_ n3_
          replace BK215 := am_ (blk_drew BK215.out)
          replace BK216 := am_ (blk_drew BK216.out)
          replace BK219 := am_ (blk_drew BK219.out)
          replace HB := am_ (below_drew1 HB.out)
          refine start_ (n := 33) (S := fun w' => w'.cell? ⟨gb219, 0, none⟩ = some (.int .i64 ((rd_T124 l1_1 x23_2).f0)) ∧ w'.cell? ⟨gb219, 1, none⟩ = some (.slice A218_1 ((rd_T124 l1_1 x23_2).f1).length c218_1) ∧ w'.cell? ⟨gb215, 0, none⟩ = some (.int .i64 a0_0) ∧ w'.cell? ⟨gb215, 1, none⟩ = some (.int .i64 a0_1) ∧ w'.cell? ⟨gb215, 2, none⟩ = some (.slice A0_2 l0_2.length c0_2) ∧ w'.cell? ⟨gb215, 3, none⟩ = some (.slice A0_3 l0_3.length c0_3)) (ds := []) (Sh.nm 33 0) (by kernel_rfl) rfl rfl Sh.cs (fun hHeld => ?_); refine with_tabW spec_l7Command.tab6 spec_l7Command.bits6 (fun HT_ HW_ => ?_)
          generalize w73.drew = w74 at BK215 BK216 BK219 HB hHeld ⊢
          refine Sh.qA 0 ?_; refine Sh.qA 2 ?_; refine Sh.qT 1 hHeld ?_; refine Sh.qT 3 hHeld ?_; refine Sh.qA 4 ?_
          refine Sh.oC 5 Tryz.func48 #[.int .i64 ((rd_T124 l1_1 x23_2).f0), .int .i64 0, .int .i64 (wrap64 (a0_1 - 1))] fun K hK => ?_
          with_reducible refine (spec_l1In.calls ((rd_T124 l1_1 x23_2).f0) 0 (wrap64 (a0_1 - 1)) false _ A24.out).mono ?_
          rintro e w' ⟨rfl, ⟨nd, rfl⟩⟩
          refine ⟨_, rfl, ?_⟩
          refine Sh.kN hK Sh.cs fun hHeld => ?_
          clear hK K
          refine Sh.qA 6 ?_; refine Sh.qA 7 ?_; refine Sh.qU 8 ?_; refine Sh.qU 9 ?_; refine Sh.qU 10 ?_; refine Sh.qU 11 ?_; refine Sh.qU 12 ?_; refine Sh.qU 13 ?_; refine Sh.qU 14 ?_; refine Sh.qU 15 ?_; refine Sh.qU 16 ?_; refine Sh.qU 17 ?_; refine Sh.qU 18 ?_; refine Sh.qU 19 ?_; refine Sh.qU 20 ?_; refine Sh.qU 21 ?_; refine Sh.qA 22 ?_; refine Sh.qA 23 ?_; refine Sh.qU 24 ?_; refine Sh.qU 25 ?_; refine Sh.qU 26 ?_; refine Sh.qU 27 ?_; refine Sh.qU 28 ?_; refine Sh.qU 29 ?_; refine Sh.qU 30 ?_; refine Sh.qU 31 ?_; refine Sh.qA 32 ?_
          refine done_ (done_of HT_.out (by kernel_rfl)) ?_
          try go_wp2
          go_ret
          exact ⟨Sh.eR, Sh.bw⟩
        ·rw [if_neg c23] at H
         cases H
       ·rw [if_neg c22] at H
        cases H
      ·rw [if_neg c21] at H
       replace c21 := decide_eq_false c21
       obtain rfl := Option.some.inj H
       go_wp2
       go_ret
       exact ⟨Sh.eR, Sh.bw⟩
mutual
def spec_GoodProgram.j0 : Nat → Bool → Int → Int → List (S79) → List (S95) → Option (Bool)
 | 0, _, _, _, _, _ => none
 | k + 1, x16, x225000, x225001, x225002, x225003 => if x16 = true then (some false) else (spec_GoodProgram.l0 k x225003 (x225003.length : Int) 0 x225000 x225001 x225002 x225003)
def spec_GoodProgram.l0 : Nat → List (S95) → Int → Int → Int → Int → List (S79) → List (S95) → Option (Bool)
 | 0, _, _, _, _, _, _, _ => none
 | k + 1, x18, x19, x20, x225000, x225001, x225002, x225003 => if x20 < x19 then (if 0 ≤ x20 then (if x20 < (x18.length : Int) then ((spec_l7Command.f k x225000 x225001 x225002 x225003 ((rd_T95 x18 x20).f0) ((rd_T95 x18 x20).f1)).bind fun t229 => (if t229 = true then (spec_GoodProgram.l0 k x18 x19 (wrap64 (x20 + 1)) x225000 x225001 x225002 x225003) else (some false))) else (none)) else (none)) else (some true)
end
def spec_GoodProgram.f (k : Nat) (a0_0 : Int) (a0_1 : Int) (l0_2 : List (S79)) (l0_3 : List (S95)) : Option (Bool) := (spec_l7Asks.f k a0_0 a0_1 l0_2 l0_3 l0_2).bind fun t225 => (if t225 = true then ((spec_l1In.f (l0_3.length : Int) 1 6).bind fun t226 => (spec_GoodProgram.j0 k (!t226) a0_0 a0_1 l0_2 l0_3)) else (spec_GoodProgram.j0 k true a0_0 a0_1 l0_2 l0_3))
theorem spec_GoodProgram.mono_l : ∀ k, (∀ y0 y1 y2 y3 y4, LeO (spec_GoodProgram.j0 k y0 y1 y2 y3 y4) (spec_GoodProgram.j0 (k + 1) y0 y1 y2 y3 y4)) ∧ (∀ y0 y1 y2 y3 y4 y5 y6, LeO (spec_GoodProgram.l0 k y0 y1 y2 y3 y4 y5 y6) (spec_GoodProgram.l0 (k + 1) y0 y1 y2 y3 y4 y5 y6))
 | 0 => ⟨fun _ _ _ _ _ r h => by simp [spec_GoodProgram.j0] at h, fun _ _ _ _ _ _ _ r h => by simp [spec_GoodProgram.l0] at h⟩
 | k + 1 => by
  obtain ⟨ih0, ih1⟩ := spec_GoodProgram.mono_l k
  and_intros <;> intros
  all_goals (first | unfold spec_GoodProgram.j0 | unfold spec_GoodProgram.l0)
  all_goals repeat' with_reducible first | apply ih0 | apply ih1 | apply spec_l7Asks.mono | apply spec_l7Command.mono | exact LeO.refl _ | exact LeO.none _ | apply LeO.ite | refine LeO.bind ?_ fun _ => ?_
theorem spec_GoodProgram.mono : ∀ a0 a1 a2 a3 k, LeO (spec_GoodProgram.f k a0 a1 a2 a3) (spec_GoodProgram.f (k + 1) a0 a1 a2 a3) := by
 intro a0 a1 a2 a3 k
 obtain ⟨ih0, ih1⟩ := spec_GoodProgram.mono_l k
 unfold spec_GoodProgram.f
 repeat' with_reducible first | apply ih0 | apply ih1 | apply spec_l7Asks.mono | apply spec_l7Command.mono | exact LeO.refl _ | exact LeO.none _ | apply LeO.ite | refine LeO.bind ?_ fun _ => ?_
theorem spec_GoodProgram.calls (k : Nat) (a0_0 : Int) (a0_1 : Int) (A0_2 : Option Addr) (c0_2 : Nat) (l0_2 : List (S79)) (A0_3 : Option Addr) (c0_3 : Nat) (l0_3 : List (S95)) (r : Bool) (w : World) (hr0_2 : Kd.C k79 w A0_2 l0_2.length l0_2) (hc0_2 : l0_2.length ≤ c0_2) (hr0_3 : Kd.C k95 w A0_3 l0_3.length l0_3) (hc0_3 : l0_3.length ≤ c0_3) (h : spec_GoodProgram.f k a0_0 a0_1 l0_2 l0_3 = some r) :
  Calls Tryz.prog 95 #[.agg #[.int .i64 a0_0, .int .i64 a0_1, .slice A0_2 l0_2.length c0_2, .slice A0_3 l0_3.length c0_3]] w fun e w' => e = .returned (.bool r) ∧ Below w.heap.size w w' := by
 have hu33 := Tryz.underlying33
 have hu95 := Tryz.underlying95
 have HR0_2 := am_ hr0_2
 have HC0_2 := am_ hc0_2
 clear hr0_2 hc0_2
 have HR0_3 := am_ hr0_3
 have HC0_3 := am_ hc0_3
 clear hr0_3 hc0_3
 have HB := am_ (Below.refl w.heap.size w)
 have H := h
 clear h
 unfold spec_GoodProgram.f at H
 have HC2 := am_ H
 clear H
 go_enter Tryz.func95, Tryz.ntmps95
 go_upto_region 1 with (first | ((with_reducible refine Sh.d 1 ?_); (try (refine gate_guard (by rfl) ?_; dsimp only)); refine Sh.bz w (N := 1) (cs := #[.int .i64 a0_0, .int .i64 a0_1, .slice A0_2 l0_2.length c0_2, .slice A0_3 l0_3.length c0_3]) (t := 33) (h := ?_); clear HB; intro gb224 w3 BK224 GE224 HB))
 (try simp only [Act.put, List.setIfInBounds_toArray, List.set_cons_zero, List.set_cons_succ])
 go_cut [16] (fun v16 wc => ∃ (kq : Nat) (x16_1 : Bool), v16 = .bool x16_1 ∧ Aside0 (spec_GoodProgram.j0 kq x16_1 a0_0 a0_1 l0_2 l0_3 = some r) ∧ Aside0 (kq ≤ k) ∧ Aside0 (wc.heap[gb224]? = some (.cells #[.int .i64 a0_0, .int .i64 a0_1, (.slice A0_2 l0_2.length c0_2), (.slice A0_3 l0_3.length c0_3)] 33 (0, 0))) ∧ Aside0 (Below w.heap.size w wc))
 case first =>
  have H := HC2.out
  clear HC2
  obtain ⟨t225, A4, H⟩ := Sh.ba H
  by_cases c5 : t225 = true
  ·subst c5
   rw [if_pos rfl] at H
   obtain ⟨t226, A6, H⟩ := Sh.ba H
   have H' := am_ H
   clear H
   have hcz7_0 := Sh.bc BK224.out 0
   have hcz7_1 := Sh.bc BK224.out 1
   have hcz7_2 := Sh.bc BK224.out 2
   have hcz7_3 := Sh.bc BK224.out 3
   have hfz7_0 := blk_frozen BK224.out 0
   have hfz7_1 := blk_frozen BK224.out 1
   have hfz7_2 := blk_frozen BK224.out 2
   have hfz7_3 := blk_frozen BK224.out 3
   go_wp2_with (first | ((with_reducible refine Sh.k 58 ?_); refine Sh.gB (some 8) Tryz.func58 #[.agg #[.int .i64 a0_0, .int .i64 a0_1, .slice A0_2 l0_2.length c0_2, .slice A0_3 l0_3.length c0_3], .slice A0_2 l0_2.length c0_2] (spec_l7Asks.calls k a0_0 a0_1 _ _ l0_2 _ _ l0_3 _ _ l0_2 true _ (Sh.cB HR0_2.out) HC0_2.out (Sh.cB HR0_3.out) HC0_3.out (Sh.cB HR0_2.out) HC0_2.out A4.out) fun w8 hb => ?_; replace BK224 := Sh.ab BK224 hb; replace HB := Sh.hb hb; (try clear hb); obtain ⟨hcz9_0, hcz9_1, hcz9_2, hcz9_3, hfz9_0, hfz9_1, hfz9_2, hfz9_3⟩ := Sh.b4 BK224.out) | (go_at_call 48; (with_reducible refine (spec_l1In.calls (l0_3.length : Int) 1 6 t226 _ A6.out).mono ?_); rintro e w' ⟨rfl, ⟨nd, rfl⟩⟩))
   go_meet
   case rel => exact ⟨_, (!t226), (Sh.es), H', ⟨Sh.om⟩, ⟨by refine Sh.pl ?_; exact BK224.out⟩, ⟨Sh.bw⟩⟩
  ·replace c5 := Bool.eq_false_iff.mpr c5
   subst c5
   rw [Sh.nf] at H
   have H' := am_ H
   clear H
   have hcz10_0 := Sh.bc BK224.out 0
   have hcz10_1 := Sh.bc BK224.out 1
   have hcz10_2 := Sh.bc BK224.out 2
   have hcz10_3 := Sh.bc BK224.out 3
   have hfz10_0 := blk_frozen BK224.out 0
   have hfz10_1 := blk_frozen BK224.out 1
   have hfz10_2 := blk_frozen BK224.out 2
   have hfz10_3 := blk_frozen BK224.out 3
   go_wp2_with (first | ((with_reducible refine Sh.k 58 ?_); refine Sh.gB (some 8) Tryz.func58 #[.agg #[.int .i64 a0_0, .int .i64 a0_1, .slice A0_2 l0_2.length c0_2, .slice A0_3 l0_3.length c0_3], .slice A0_2 l0_2.length c0_2] (spec_l7Asks.calls k a0_0 a0_1 _ _ l0_2 _ _ l0_3 _ _ l0_2 false _ (Sh.cB HR0_2.out) HC0_2.out (Sh.cB HR0_3.out) HC0_3.out (Sh.cB HR0_2.out) HC0_2.out A4.out) fun w11 hb => ?_; replace BK224 := Sh.ab BK224 hb; replace HB := Sh.hb hb; (try clear hb)))
   go_meet
   case rel => exact ⟨_, (true), (Sh.es), H', ⟨Sh.om⟩, ⟨by refine Sh.pl ?_; exact BK224.out⟩, ⟨Sh.bw⟩⟩
 case rest =>
  clear HC2
  try clear hcz10_0
  try clear hcz10_1
  try clear hcz10_2
  try clear hcz10_3
  try clear hcz7_0
  try clear hcz7_1
  try clear hcz7_2
  try clear hcz7_3
  try clear hcz9_0
  try clear hcz9_1
  try clear hcz9_2
  try clear hcz9_3
  try clear hfz10_0
  try clear hfz10_1
  try clear hfz10_2
  try clear hfz10_3
  try clear hfz7_0
  try clear hfz7_1
  try clear hfz7_2
  try clear hfz7_3
  try clear hfz9_0
  try clear hfz9_1
  try clear hfz9_2
  try clear hfz9_3
  obtain ⟨kq, x16_1, rfl, HA, HJ1, BK224, HB⟩ := hcut
  cases kq with
  | zero => exact absurd HA.out (by simp [spec_GoodProgram.j0])
  | succ kj1 =>
   have H := HA.out
   clear HA
   simp only [spec_GoodProgram.j0] at H
   by_cases c12 : x16_1 = true
   ·subst c12
    rw [if_pos rfl] at H
    obtain rfl := Option.some.inj H
    go_wp2
    go_ret
    exact ⟨Sh.eR, Sh.bw⟩
   ·replace c12 := Bool.eq_false_iff.mpr c12
    subst c12
    rw [Sh.nf] at H
    have H' := am_ H
    clear H
    have hcz13_0 := Sh.bc BK224.out 0
    have hcz13_1 := Sh.bc BK224.out 1
    have hcz13_2 := Sh.bc BK224.out 2
    have hcz13_3 := Sh.bc BK224.out 3
    have hfz13_0 := blk_frozen BK224.out 0
    have hfz13_1 := blk_frozen BK224.out 1
    have hfz13_2 := blk_frozen BK224.out 2
    have hfz13_3 := blk_frozen BK224.out 3
    go_wp2
    go_loopg [20] kj1 (fun kq v20 w' => ∃ (x20_2 : Int), v20 = .int .i64 x20_2 ∧ Aside0 (spec_GoodProgram.l0 kq l0_3 (l0_3.length : Int) x20_2 a0_0 a0_1 l0_2 l0_3 = some r) ∧ Aside0 (kq ≤ kj1) ∧ Aside0 (w'.heap[gb224]? = some (.cells #[.int .i64 a0_0, .int .i64 a0_1, (.slice A0_2 l0_2.length c0_2), (.slice A0_3 l0_3.length c0_3)] 33 (0, 0))) ∧ Aside0 (Below w.heap.size w w'))
    case atStart => exact ⟨(0), (Sh.es), H', ⟨Nat.le_refl _⟩, ⟨by refine Sh.pl ?_; exact BK224.out⟩, ⟨Sh.bw⟩⟩
    case round =>
     clear H'
     try clear hcz10_0
     try clear hcz10_1
     try clear hcz10_2
     try clear hcz10_3
     try clear hcz13_0
     try clear hcz13_1
     try clear hcz13_2
     try clear hcz13_3
     try clear hcz7_0
     try clear hcz7_1
     try clear hcz7_2
     try clear hcz7_3
     try clear hcz9_0
     try clear hcz9_1
     try clear hcz9_2
     try clear hcz9_3
     try clear hfz10_0
     try clear hfz10_1
     try clear hfz10_2
     try clear hfz10_3
     try clear hfz13_0
     try clear hfz13_1
     try clear hfz13_2
     try clear hfz13_3
     try clear hfz7_0
     try clear hfz7_1
     try clear hfz7_2
     try clear hfz7_3
     try clear hfz9_0
     try clear hfz9_1
     try clear hfz9_2
     try clear hfz9_3
     obtain ⟨x20_2, rfl, HA, HK2, BK224, HB⟩ := hrel
     cases gk with
     | zero => exact absurd HA.out (by simp [spec_GoodProgram.l0])
     | succ k2 =>
      have H := HA.out
      clear HA
      simp only [spec_GoodProgram.l0] at H
      by_cases c14 : x20_2 < (l0_3.length : Int)
      ·rw [if_pos c14] at H
       replace c14 := decide_eq_true c14
       by_cases c15 : 0 ≤ x20_2
       ·rw [if_pos c15] at H
        replace c15 := decide_eq_true c15
        by_cases c16 : x20_2 < (l0_3.length : Int)
        ·rw [if_pos c16] at H
         replace c16 := decide_eq_true c16
         obtain ⟨t229, A17, H⟩ := Sh.ba H
         by_cases c18 : t229 = true
         ·subst c18
          rw [if_pos rfl] at H
          have H' := am_ H
          clear H
          have p227 : 0 ≤ (x20_2 : Int) := Sh.od
          have q227 : x20_2 < (l0_3.length : Int) := Sh.od
          obtain ⟨ad227, A227_0, c227_0, A227_1, c227_1, e227, hx227_0, hx227_1, hl227_0, hi227_0, hl227_1, hi227_1⟩ := at_T95 HR0_3.out x20_2 p227 q227
          cases e227
          try replace hx227_0 := Sh.cw hx227_0
          try replace hx227_1 := Sh.cw hx227_1
          have HR227_0 := am_ hi227_0
          have HC227_0 := am_ hl227_0
          clear hi227_0 hl227_0
          have HR227_1 := am_ hi227_1
          have HC227_1 := am_ hl227_1
          clear hi227_1 hl227_1
          replace p227 := eq_true p227
          replace q227 := eq_true q227
          go_wp2_with (first | ((with_reducible refine Sh.d 4 ?_); (try (refine gate_guard (by rfl) ?_; dsimp only)); refine Sh.bx (N := 4) (cs := #[.slice none 0 0, .slice none 0 0]) (t := 95) (h := ?_); intro gb228 hg w19 hbox hb; have BK228 := am_ hbox; have GE228 := Sh.ag w hg; replace HB := Sh.hb hb; have NB224_228 := am_ (Sh.nl hg BK224.out); have NB228_224 := am_ (Sh.ng hg BK224.out); replace BK224 := Sh.ab BK224 hb; clear hb hbox hg; have hnb20 := NB228_224.out; have hnc20 := NB224_228.out; obtain ⟨hcz21_0, hcz21_1, hfz21_0, hfz21_1⟩ := Sh.b2 BK228.out; obtain ⟨hcz22_0, hcz22_1, hcz22_2, hcz22_3, hfz22_0, hfz22_1, hfz22_2, hfz22_3⟩ := Sh.b4 BK224.out) | ((with_reducible refine Sh.k 116 ?_); refine Sh.gB (some 26) Tryz.func116 #[.agg #[.int .i64 a0_0, .int .i64 a0_1, .slice A0_2 l0_2.length c0_2, .slice (some ad227) l0_3.length c0_3], .agg #[.slice A227_0 ((rd_T95 l0_3 x20_2).f0).length c227_0, .slice A227_1 ((rd_T95 l0_3 x20_2).f1).length c227_1]] (spec_l7Command.calls k2 a0_0 a0_1 _ _ l0_2 _ _ l0_3 _ _ ((rd_T95 l0_3 x20_2).f0) _ _ ((rd_T95 l0_3 x20_2).f1) true _ (Sh.cB HR0_2.out) HC0_2.out (Sh.cB HR0_3.out) HC0_3.out (Sh.cB HR227_0.out) HC227_0.out (Sh.cB HR227_1.out) HC227_1.out A17.out) fun w23 hb => ?_; replace BK224 := am_ (blk_below (g := gb224) (o := .cells #[.int .i64 a0_0, .int .i64 a0_1, .slice A0_2 l0_2.length c0_2, .slice (some ad227) l0_3.length c0_3] 33 (0, 0)) (by refine Sh.pl ?_; refine blk_far ?_ NB224_228.out _; refine Sh.pl ?_; refine blk_far ?_ NB224_228.out _; refine Sh.pl ?_; exact BK224.out) hb); replace BK228 := am_ (blk_below (g := gb228) (o := .cells #[.slice A227_0 ((rd_T95 l0_3 x20_2).f0).length c227_0, .slice A227_1 ((rd_T95 l0_3 x20_2).f1).length c227_1] 95 (0, 0)) (by refine Sh.pl ?_; refine blk_put (cs := #[.slice A227_0 ((rd_T95 l0_3 x20_2).f0).length c227_0, .slice none 0 0]) ?_ 1 _ rfl; refine Sh.pl ?_; refine blk_put (cs := #[.slice none 0 0, .slice none 0 0]) ?_ 0 _ rfl; refine Sh.pl ?_; exact BK228.out) hb); replace HB := Sh.hb hb; (try clear hb)))
          go_roundg k2
          case measure => have := HJ1.out; have := HK2.out; omega
          case rel => exact ⟨(wrap64 (x20_2 + 1)), (Sh.es), H', ⟨by have := HJ1.out; have := HK2.out; omega⟩, ⟨by refine Sh.pl ?_; exact BK224.out⟩, ⟨Sh.bw⟩⟩
         ·replace c18 := Bool.eq_false_iff.mpr c18
          subst c18
          rw [Sh.nf] at H
          obtain rfl := Option.some.inj H
          have p227 : 0 ≤ (x20_2 : Int) := Sh.od
          have q227 : x20_2 < (l0_3.length : Int) := Sh.od
          obtain ⟨ad227, A227_0, c227_0, A227_1, c227_1, e227, hx227_0, hx227_1, hl227_0, hi227_0, hl227_1, hi227_1⟩ := at_T95 HR0_3.out x20_2 p227 q227
          cases e227
          try replace hx227_0 := Sh.cw hx227_0
          try replace hx227_1 := Sh.cw hx227_1
          have HR227_0 := am_ hi227_0
          have HC227_0 := am_ hl227_0
          clear hi227_0 hl227_0
          have HR227_1 := am_ hi227_1
          have HC227_1 := am_ hl227_1
          clear hi227_1 hl227_1
          replace p227 := eq_true p227
          replace q227 := eq_true q227
          go_wp2_with (first | ((with_reducible refine Sh.d 4 ?_); (try (refine gate_guard (by rfl) ?_; dsimp only)); refine Sh.bx (N := 4) (cs := #[.slice none 0 0, .slice none 0 0]) (t := 95) (h := ?_); intro gb228 hg w24 hbox hb; have BK228 := am_ hbox; have GE228 := Sh.ag w hg; replace HB := Sh.hb hb; have NB224_228 := am_ (Sh.nl hg BK224.out); have NB228_224 := am_ (Sh.ng hg BK224.out); replace BK224 := Sh.ab BK224 hb; clear hb hbox hg; have hnb25 := NB228_224.out; have hnc25 := NB224_228.out; obtain ⟨hcz26_0, hcz26_1, hfz26_0, hfz26_1⟩ := Sh.b2 BK228.out; obtain ⟨hcz27_0, hcz27_1, hcz27_2, hcz27_3, hfz27_0, hfz27_1, hfz27_2, hfz27_3⟩ := Sh.b4 BK224.out) | ((with_reducible refine Sh.k 116 ?_); refine Sh.gB (some 26) Tryz.func116 #[.agg #[.int .i64 a0_0, .int .i64 a0_1, .slice A0_2 l0_2.length c0_2, .slice (some ad227) l0_3.length c0_3], .agg #[.slice A227_0 ((rd_T95 l0_3 x20_2).f0).length c227_0, .slice A227_1 ((rd_T95 l0_3 x20_2).f1).length c227_1]] (spec_l7Command.calls k2 a0_0 a0_1 _ _ l0_2 _ _ l0_3 _ _ ((rd_T95 l0_3 x20_2).f0) _ _ ((rd_T95 l0_3 x20_2).f1) false _ (Sh.cB HR0_2.out) HC0_2.out (Sh.cB HR0_3.out) HC0_3.out (Sh.cB HR227_0.out) HC227_0.out (Sh.cB HR227_1.out) HC227_1.out A17.out) fun w28 hb => ?_; replace BK224 := am_ (blk_below (g := gb224) (o := .cells #[.int .i64 a0_0, .int .i64 a0_1, .slice A0_2 l0_2.length c0_2, .slice (some ad227) l0_3.length c0_3] 33 (0, 0)) (by refine Sh.pl ?_; refine blk_far ?_ NB224_228.out _; refine Sh.pl ?_; refine blk_far ?_ NB224_228.out _; refine Sh.pl ?_; exact BK224.out) hb); replace BK228 := am_ (blk_below (g := gb228) (o := .cells #[.slice A227_0 ((rd_T95 l0_3 x20_2).f0).length c227_0, .slice A227_1 ((rd_T95 l0_3 x20_2).f1).length c227_1] 95 (0, 0)) (by refine Sh.pl ?_; refine blk_put (cs := #[.slice A227_0 ((rd_T95 l0_3 x20_2).f0).length c227_0, .slice none 0 0]) ?_ 1 _ rfl; refine Sh.pl ?_; refine blk_put (cs := #[.slice none 0 0, .slice none 0 0]) ?_ 0 _ rfl; refine Sh.pl ?_; exact BK228.out) hb); replace HB := Sh.hb hb; (try clear hb)))
          go_ret
          exact ⟨Sh.eR, Sh.bw⟩
        ·rw [if_neg c16] at H
         cases H
       ·rw [if_neg c15] at H
        cases H
      ·rw [if_neg c14] at H
       replace c14 := decide_eq_false c14
       obtain rfl := Option.some.inj H
       go_wp2
       go_ret
       exact ⟨Sh.eR, Sh.bw⟩
def spec_l7Small.f (k : Nat) (a0_0 : Int) (a0_1 : Int) (l0_2 : List (S79)) (l0_3 : List (S95)) : Option (Bool) := (spec_GoodProgram.f k a0_0 a0_1 l0_2 l0_3).bind fun t231 => (if t231 = true then (some (decide ((wrap64 (a0_0 * a0_1)) ≤ 5))) else (some false))
theorem spec_l7Small.mono : ∀ a0 a1 a2 a3 k, LeO (spec_l7Small.f k a0 a1 a2 a3) (spec_l7Small.f (k + 1) a0 a1 a2 a3) := by
 intro a0 a1 a2 a3 k
 unfold spec_l7Small.f
 repeat' with_reducible first | apply spec_GoodProgram.mono | exact LeO.refl _ | exact LeO.none _ | apply LeO.ite | refine LeO.bind ?_ fun _ => ?_
theorem spec_l7Small.calls (k : Nat) (a0_0 : Int) (a0_1 : Int) (A0_2 : Option Addr) (c0_2 : Nat) (l0_2 : List (S79)) (A0_3 : Option Addr) (c0_3 : Nat) (l0_3 : List (S95)) (r : Bool) (w : World) (hr0_2 : Kd.C k79 w A0_2 l0_2.length l0_2) (hc0_2 : l0_2.length ≤ c0_2) (hr0_3 : Kd.C k95 w A0_3 l0_3.length l0_3) (hc0_3 : l0_3.length ≤ c0_3) (h : spec_l7Small.f k a0_0 a0_1 l0_2 l0_3 = some r) :
  Calls Tryz.prog 47 #[.agg #[.int .i64 a0_0, .int .i64 a0_1, .slice A0_2 l0_2.length c0_2, .slice A0_3 l0_3.length c0_3]] w fun e w' => e = .returned (.bool r) ∧ Below w.heap.size w w' := by
 have hu33 := Tryz.underlying33
 have HR0_2 := am_ hr0_2
 have HC0_2 := am_ hc0_2
 clear hr0_2 hc0_2
 have HR0_3 := am_ hr0_3
 have HC0_3 := am_ hc0_3
 clear hr0_3 hc0_3
 have HB := am_ (Below.refl w.heap.size w)
 have H := h
 clear h
 unfold spec_l7Small.f at H
 obtain ⟨t231, A2, H⟩ := Sh.ba H
 by_cases c3 : t231 = true
 ·subst c3
  rw [if_pos rfl] at H
  obtain rfl := Option.some.inj H
  go_enter Tryz.func47, Tryz.ntmps47
  go_wp2_with (first | ((with_reducible refine Sh.d 1 ?_); refine Sh.bz w (N := 1) (cs := #[.int .i64 a0_0, .int .i64 a0_1, .slice A0_2 l0_2.length c0_2, .slice A0_3 l0_3.length c0_3]) (t := 33) (h := ?_); clear HB; intro gb230 w4 BK230 GE230 HB; obtain ⟨hcz5_0, hcz5_1, hcz5_2, hcz5_3, hfz5_0, hfz5_1, hfz5_2, hfz5_3⟩ := Sh.b4 BK230.out) | ((with_reducible refine Sh.k 95 ?_); refine Sh.gB (some 4) Tryz.func95 #[.agg #[.int .i64 a0_0, .int .i64 a0_1, .slice A0_2 l0_2.length c0_2, .slice A0_3 l0_3.length c0_3]] (spec_GoodProgram.calls k a0_0 a0_1 _ _ l0_2 _ _ l0_3 true _ (Sh.cB HR0_2.out) HC0_2.out (Sh.cB HR0_3.out) HC0_3.out A2.out) fun w6 hb => ?_; replace BK230 := Sh.ab BK230 hb; replace HB := Sh.hb hb; (try clear hb); obtain ⟨hcz7_0, hcz7_1, hcz7_2, hcz7_3, hfz7_0, hfz7_1, hfz7_2, hfz7_3⟩ := Sh.b4 BK230.out))
  go_ret
  exact ⟨Sh.eR, Sh.bw⟩
 ·replace c3 := Bool.eq_false_iff.mpr c3
  subst c3
  rw [Sh.nf] at H
  obtain rfl := Option.some.inj H
  go_enter Tryz.func47, Tryz.ntmps47
  go_wp2_with (first | ((with_reducible refine Sh.d 1 ?_); refine Sh.bz w (N := 1) (cs := #[.int .i64 a0_0, .int .i64 a0_1, .slice A0_2 l0_2.length c0_2, .slice A0_3 l0_3.length c0_3]) (t := 33) (h := ?_); clear HB; intro gb230 w8 BK230 GE230 HB; obtain ⟨hcz9_0, hcz9_1, hcz9_2, hcz9_3, hfz9_0, hfz9_1, hfz9_2, hfz9_3⟩ := Sh.b4 BK230.out) | ((with_reducible refine Sh.k 95 ?_); refine Sh.gB (some 4) Tryz.func95 #[.agg #[.int .i64 a0_0, .int .i64 a0_1, .slice A0_2 l0_2.length c0_2, .slice A0_3 l0_3.length c0_3]] (spec_GoodProgram.calls k a0_0 a0_1 _ _ l0_2 _ _ l0_3 false _ (Sh.cB HR0_2.out) HC0_2.out (Sh.cB HR0_3.out) HC0_3.out A2.out) fun w10 hb => ?_; replace BK230 := Sh.ab BK230 hb; replace HB := Sh.hb hb; (try clear hb)))
  go_ret
  exact ⟨Sh.eR, Sh.bw⟩
def spec_l7Many.f (a0_0 : Int) (a0_1 : Int) (l0_2 : List (S79)) (l0_3 : List (S95)) : Option (Int) := if 0 ≤ (IntKind.u64.wrap (wrap64 (a0_0 * a0_1))) then (some (shl .i64 1 (IntKind.u64.wrap (wrap64 (a0_0 * a0_1))))) else (none)
theorem spec_l7Many.calls (a0_0 : Int) (a0_1 : Int) (A0_2 : Option Addr) (c0_2 : Nat) (l0_2 : List (S79)) (A0_3 : Option Addr) (c0_3 : Nat) (l0_3 : List (S95)) (r : Int) (w : World) (hr0_2 : Kd.C k79 w A0_2 l0_2.length l0_2) (hc0_2 : l0_2.length ≤ c0_2) (hr0_3 : Kd.C k95 w A0_3 l0_3.length l0_3) (hc0_3 : l0_3.length ≤ c0_3) (h : spec_l7Many.f a0_0 a0_1 l0_2 l0_3 = some r) :
  Calls Tryz.prog 50 #[.agg #[.int .i64 a0_0, .int .i64 a0_1, .slice A0_2 l0_2.length c0_2, .slice A0_3 l0_3.length c0_3]] w fun e w' => e = .returned (.int .i64 r) ∧ Below w.heap.size w w' := by
 have hu33 := Tryz.underlying33
 have HR0_2 := am_ hr0_2
 have HC0_2 := am_ hc0_2
 clear hr0_2 hc0_2
 have HR0_3 := am_ hr0_3
 have HC0_3 := am_ hc0_3
 clear hr0_3 hc0_3
 have HB := am_ (Below.refl w.heap.size w)
 have H := h
 clear h
 unfold spec_l7Many.f at H
 obtain ⟨ji2, hj1⟩ : ∃ j_ : Int, (IntKind.u64.wrap (wrap64 (a0_0 * a0_1))) = j_ := ⟨_, rfl⟩
 replace H : (if 0 ≤ (ji2) then (some (shl .i64 1 (ji2))) else (none)) = some r := by first | (rw [hj1] at H; exact H) | (simp only [hj1] at H ⊢; exact H)
 by_cases c3 : 0 ≤ (ji2)
 ·rw [if_pos c3] at H
  have c3b0 := eq_true c3
  have c3b1 := decide_eq_true c3
  clear c3
  obtain ⟨ji4, hj2⟩ : ∃ j_ : Int, (shl .i64 1 (ji2)) = j_ := ⟨_, rfl⟩
  replace H : (some ji4) = some r := by first | (rw [hj2] at H; exact H) | (simp only [hj2] at H ⊢; exact H)
  have hji4_ : (IntKind.i64.wrap (1 * 2 ^ min (ji2).toNat 64)) = ji4 := hj2
  have hji4z : (ji2) ≤ 64 → (IntKind.i64.wrap (1 * 2 ^ (ji2).toNat)) = ji4 := shl_small hj2
  have hji4u : (IntKind.i64.wrap (2 ^ min (ji2).toNat 64)) = ji4 := by have h_ := hji4_; rw [Int.one_mul] at h_; exact h_
  have hji4v : (ji2) ≤ 64 → (IntKind.i64.wrap (2 ^ (ji2).toNat)) = ji4 := fun hle_ => by have h_ := hji4z hle_; rw [Int.one_mul] at h_; exact h_
  have hji4y : (wrap64 (1 * 2 ^ min (ji2).toNat 64)) = ji4 := (i64_w _).symm.trans hji4_
  have hji4x : (ji2) ≤ 64 → (wrap64 (1 * 2 ^ (ji2).toNat)) = ji4 := fun h_ => (i64_w _).symm.trans (hji4z h_)
  obtain rfl := Option.some.inj H
  go_enter Tryz.func50, Tryz.ntmps50
  go_wp2_with (first | ((with_reducible refine Sh.d 1 ?_); refine Sh.bz w (N := 1) (cs := #[.int .i64 a0_0, .int .i64 a0_1, .slice A0_2 l0_2.length c0_2, .slice A0_3 l0_3.length c0_3]) (t := 33) (h := ?_); clear HB; intro gb232 w5 BK232 GE232 HB; obtain ⟨hcz6_0, hcz6_1, hcz6_2, hcz6_3, hfz6_0, hfz6_1, hfz6_2, hfz6_3⟩ := Sh.b4 BK232.out))
  go_ret
  exact ⟨by first | rfl | (simp [errW_none, errW_some] <;> rfl) | (simp only [← hj1, ← hj2]; first | rfl | (simp [errW_none, errW_some] <;> rfl)) | (simp [*, errW_none, errW_some] <;> rfl), Sh.bw⟩
 ·rw [if_neg c3] at H
  cases H
def spec_l1Both.f (k : Nat) (a0 : Int) (a1 : Int) (a2 : Int) : Option (Bool) := (spec_GoodWord.f k a0 a1).bind fun t233 => (if t233 = true then ((spec_GoodWord.f k a0 a2).bind fun t234 => (some t234)) else (some false))
theorem spec_l1Both.mono : ∀ a0 a1 a2 k, LeO (spec_l1Both.f k a0 a1 a2) (spec_l1Both.f (k + 1) a0 a1 a2) := by
 intro a0 a1 a2 k
 unfold spec_l1Both.f
 repeat' with_reducible first | apply spec_GoodWord.mono | exact LeO.refl _ | exact LeO.none _ | apply LeO.ite | refine LeO.bind ?_ fun _ => ?_
theorem spec_l1Both.calls (k : Nat) (a0 : Int) (a1 : Int) (a2 : Int) (r : Bool) (w : World) (h : spec_l1Both.f k a0 a1 a2 = some r) :
  Calls Tryz.prog 167 #[.int .i64 a0, .int .u64 a1, .int .u64 a2] w fun e w' => e = .returned (.bool r) ∧ Drawn0 w w' := by
 have H := h
 clear h
 unfold spec_l1Both.f at H
 obtain ⟨t233, A4, H⟩ := Sh.ba H
 by_cases c5 : t233 = true
 ·subst c5
  rw [if_pos rfl] at H
  obtain ⟨t234, A6, H⟩ := Sh.ba H
  obtain rfl := Option.some.inj H
  go_enter Tryz.func167, Tryz.ntmps167
  go_wp2_with (first | ((with_reducible refine Sh.k 149 ?_); refine Sh.gD (some 9) Tryz.func149 #[.int .i64 a0, .int .u64 a1] (spec_GoodWord.calls k a0 a1 true _ A4.out) fun nd => ?_) | (go_at_call 149; (with_reducible refine (spec_GoodWord.calls k a0 a2 t234 _ A6.out).mono ?_); rintro e w' ⟨rfl, ⟨nd, rfl⟩⟩))
  go_ret
  exact ⟨Sh.es, Sh.dr⟩
 ·replace c5 := Bool.eq_false_iff.mpr c5
  subst c5
  rw [Sh.nf] at H
  obtain rfl := Option.some.inj H
  go_enter Tryz.func167, Tryz.ntmps167
  go_wp2_with (first | ((with_reducible refine Sh.k 149 ?_); refine Sh.gD (some 9) Tryz.func149 #[.int .i64 a0, .int .u64 a1] (spec_GoodWord.calls k a0 a1 false _ A4.out) fun nd => ?_))
  go_ret
  exact ⟨Sh.es, Sh.dr⟩
def spec_DivWord.f (k : Nat) (a0 : Int) (a1 : Int) (a2 : Int) : Option (Int × Int × Bool) := (spec_l1Both.f k a0 a1 a2).bind fun t235 => (if t235 = true then (if a2 = 0 then ((spec_l1Cut.f k a0 18446744073709551615).bind fun t236 => (some (t236, a1, true))) else (some (IntKind.u64.wrap (Int.tdiv a1 a2), Int.tmod a1 a2, true))) else (some (0, 0, false)))
theorem spec_DivWord.mono : ∀ a0 a1 a2 k, LeO (spec_DivWord.f k a0 a1 a2) (spec_DivWord.f (k + 1) a0 a1 a2) := by
 intro a0 a1 a2 k
 unfold spec_DivWord.f
 repeat' with_reducible first | apply spec_l1Both.mono | apply spec_l1Cut.mono | exact LeO.refl _ | exact LeO.none _ | apply LeO.ite | refine LeO.bind ?_ fun _ => ?_
theorem spec_DivWord.calls (k : Nat) (a0 : Int) (a1 : Int) (a2 : Int) (r1 : Int) (r2 : Int) (r3 : Bool) (w : World) (h : spec_DivWord.f k a0 a1 a2 = some (r1, r2, r3)) :
  Calls Tryz.prog 150 #[.int .i64 a0, .int .u64 a1, .int .u64 a2] w fun e w' => e = .returned (.tuple #[.int .u64 r1, .int .u64 r2, .bool r3]) ∧ Drawn0 w w' := by
 have H := h
 clear h
 unfold spec_DivWord.f at H
 obtain ⟨t235, A4, H⟩ := Sh.ba H
 by_cases c5 : t235 = true
 ·subst c5
  rw [if_pos rfl] at H
  by_cases c6 : a2 = 0
  ·rw [if_pos c6] at H
   have c6b0 : (a2 == 0) = true := beq_iff_eq.mpr c6
   have c6b1 : (a2 != 0) = false := bne_eq_false_iff_eq.mpr c6
   clear c6
   obtain ⟨t236, A7, H⟩ := Sh.ba H
   simp only [Option.some.injEq, Prod.mk.injEq] at H
   obtain ⟨rfl, rfl, rfl⟩ := H
   go_enter Tryz.func150, Tryz.ntmps150
   go_wp2_with (first | (go_at_call 167; (with_reducible refine (spec_l1Both.calls k a0 a1 a2 true _ A4.out).mono ?_); rintro e w' ⟨rfl, ⟨nd, rfl⟩⟩; (try first | exact ⟨rfl, _, World.drewN_drewN _ _ _⟩ | exact ⟨rfl, _, Eq.trans (World.drewN_drewN _ _ _) (congrArg (World.drewN _) (Nat.add_assoc _ _ _))⟩)) | (go_at_call 121; (with_reducible refine (spec_l1Cut.calls k a0 18446744073709551615 t236 _ A7.out).mono ?_); rintro e w' ⟨rfl, ⟨nd, rfl⟩⟩; (try first | exact ⟨rfl, _, World.drewN_drewN _ _ _⟩ | exact ⟨rfl, _, Eq.trans (World.drewN_drewN _ _ _) (congrArg (World.drewN _) (Nat.add_assoc _ _ _))⟩)))
   repeat (go_quiet (first | (go_at_call 167; (with_reducible refine (spec_l1Both.calls k a0 a1 a2 true _ A4.out).mono ?_); rintro e w' ⟨rfl, ⟨nd, rfl⟩⟩; (try first | exact ⟨rfl, _, World.drewN_drewN _ _ _⟩ | exact ⟨rfl, _, Eq.trans (World.drewN_drewN _ _ _) (congrArg (World.drewN _) (Nat.add_assoc _ _ _))⟩)) | (go_at_call 121; (with_reducible refine (spec_l1Cut.calls k a0 18446744073709551615 t236 _ A7.out).mono ?_); rintro e w' ⟨rfl, ⟨nd, rfl⟩⟩; (try first | exact ⟨rfl, _, World.drewN_drewN _ _ _⟩ | exact ⟨rfl, _, Eq.trans (World.drewN_drewN _ _ _) (congrArg (World.drewN _) (Nat.add_assoc _ _ _))⟩))); try go_wp2_with (first | (go_at_call 167; (with_reducible refine (spec_l1Both.calls k a0 a1 a2 true _ A4.out).mono ?_); rintro e w' ⟨rfl, ⟨nd, rfl⟩⟩; (try first | exact ⟨rfl, _, World.drewN_drewN _ _ _⟩ | exact ⟨rfl, _, Eq.trans (World.drewN_drewN _ _ _) (congrArg (World.drewN _) (Nat.add_assoc _ _ _))⟩)) | (go_at_call 121; (with_reducible refine (spec_l1Cut.calls k a0 18446744073709551615 t236 _ A7.out).mono ?_); rintro e w' ⟨rfl, ⟨nd, rfl⟩⟩; (try first | exact ⟨rfl, _, World.drewN_drewN _ _ _⟩ | exact ⟨rfl, _, Eq.trans (World.drewN_drewN _ _ _) (congrArg (World.drewN _) (Nat.add_assoc _ _ _))⟩))))
   go_ret3
   exact ⟨Sh.es, Sh.dr⟩
  ·rw [if_neg c6] at H
   have c6b0 : (a2 == 0) = false := beq_eq_false_iff_ne.mpr c6
   have c6b1 : (a2 != 0) = true := bne_iff_ne.mpr c6
   simp only [Option.some.injEq, Prod.mk.injEq] at H
   obtain ⟨rfl, rfl, rfl⟩ := H
   go_enter Tryz.func150, Tryz.ntmps150
   go_wp2_with (first | (go_at_call 167; (with_reducible refine (spec_l1Both.calls k a0 a1 a2 true _ A4.out).mono ?_); rintro e w' ⟨rfl, ⟨nd, rfl⟩⟩; (try first | exact ⟨rfl, _, World.drewN_drewN _ _ _⟩ | exact ⟨rfl, _, Eq.trans (World.drewN_drewN _ _ _) (congrArg (World.drewN _) (Nat.add_assoc _ _ _))⟩)))
   repeat (go_quiet (first | (go_at_call 167; (with_reducible refine (spec_l1Both.calls k a0 a1 a2 true _ A4.out).mono ?_); rintro e w' ⟨rfl, ⟨nd, rfl⟩⟩; (try first | exact ⟨rfl, _, World.drewN_drewN _ _ _⟩ | exact ⟨rfl, _, Eq.trans (World.drewN_drewN _ _ _) (congrArg (World.drewN _) (Nat.add_assoc _ _ _))⟩))); try go_wp2_with (first | (go_at_call 167; (with_reducible refine (spec_l1Both.calls k a0 a1 a2 true _ A4.out).mono ?_); rintro e w' ⟨rfl, ⟨nd, rfl⟩⟩; (try first | exact ⟨rfl, _, World.drewN_drewN _ _ _⟩ | exact ⟨rfl, _, Eq.trans (World.drewN_drewN _ _ _) (congrArg (World.drewN _) (Nat.add_assoc _ _ _))⟩))))
   go_ret3
   exact ⟨Sh.es, Sh.dr⟩
 ·replace c5 := Bool.eq_false_iff.mpr c5
  subst c5
  rw [Sh.nf] at H
  simp only [Option.some.injEq, Prod.mk.injEq] at H
  obtain ⟨rfl, rfl, rfl⟩ := H
  go_enter Tryz.func150, Tryz.ntmps150
  go_wp2_with (first | (go_at_call 167; (with_reducible refine (spec_l1Both.calls k a0 a1 a2 false _ A4.out).mono ?_); rintro e w' ⟨rfl, ⟨nd, rfl⟩⟩; (try first | exact ⟨rfl, _, World.drewN_drewN _ _ _⟩ | exact ⟨rfl, _, Eq.trans (World.drewN_drewN _ _ _) (congrArg (World.drewN _) (Nat.add_assoc _ _ _))⟩)))
  repeat (go_quiet (first | (go_at_call 167; (with_reducible refine (spec_l1Both.calls k a0 a1 a2 false _ A4.out).mono ?_); rintro e w' ⟨rfl, ⟨nd, rfl⟩⟩; (try first | exact ⟨rfl, _, World.drewN_drewN _ _ _⟩ | exact ⟨rfl, _, Eq.trans (World.drewN_drewN _ _ _) (congrArg (World.drewN _) (Nat.add_assoc _ _ _))⟩))); try go_wp2_with (first | (go_at_call 167; (with_reducible refine (spec_l1Both.calls k a0 a1 a2 false _ A4.out).mono ?_); rintro e w' ⟨rfl, ⟨nd, rfl⟩⟩; (try first | exact ⟨rfl, _, World.drewN_drewN _ _ _⟩ | exact ⟨rfl, _, Eq.trans (World.drewN_drewN _ _ _) (congrArg (World.drewN _) (Nat.add_assoc _ _ _))⟩))))
  go_ret3
  exact ⟨Sh.es, Sh.dr⟩
def spec_l1Shift.l0 : Nat → Int → Int → Int → Bool → Option (Int)
 | 0, _, _, _, _ => none
 | k + 1, x0, x1, x2, x3 => if x2 > 0 then (if x3 = true then ((spec_l1Cut.f k x0 (IntKind.u64.wrap (x1 * 2))).bind fun t237 => (spec_l1Shift.l0 k x0 t237 (IntKind.u64.wrap (x2 - 1)) x3)) else (spec_l1Shift.l0 k x0 (x1 / 2) (IntKind.u64.wrap (x2 - 1)) x3)) else (some x1)
def spec_l1Shift.f (k : Nat) (a0 : Int) (a1 : Int) (a2 : Int) (a3 : Bool) : Option (Int) := if a2 ≥ (IntKind.u64.wrap (a0)) then (some 0) else (spec_l1Shift.l0 k a0 a1 a2 a3)
theorem spec_l1Shift.mono_l : ∀ k, (∀ y0 y1 y2 y3, LeO (spec_l1Shift.l0 k y0 y1 y2 y3) (spec_l1Shift.l0 (k + 1) y0 y1 y2 y3))
 | 0 => fun _ _ _ _ r h => by simp [spec_l1Shift.l0] at h
 | k + 1 => by
  have ih0 := spec_l1Shift.mono_l k
  ·intro y0 y1 y2 y3
   unfold spec_l1Shift.l0
   repeat' with_reducible first | apply ih0 | apply spec_l1Cut.mono | exact LeO.refl _ | exact LeO.none _ | apply LeO.ite | refine LeO.bind ?_ fun _ => ?_
theorem spec_l1Shift.mono : ∀ a0 a1 a2 a3 k, LeO (spec_l1Shift.f k a0 a1 a2 a3) (spec_l1Shift.f (k + 1) a0 a1 a2 a3) := by
 intro a0 a1 a2 a3 k
 have ih0 := spec_l1Shift.mono_l k
 unfold spec_l1Shift.f
 repeat' with_reducible first | apply ih0 | apply spec_l1Cut.mono | exact LeO.refl _ | exact LeO.none _ | apply LeO.ite | refine LeO.bind ?_ fun _ => ?_
theorem spec_l1Shift.calls (k : Nat) (a0 : Int) (a1 : Int) (a2 : Int) (a3 : Bool) (r : Int) (w : World) (h : spec_l1Shift.f k a0 a1 a2 a3 = some r) :
  Calls Tryz.prog 151 #[.int .i64 a0, .int .u64 a1, .int .u64 a2, .bool a3] w fun e w' => e = .returned (.int .u64 r) ∧ Drawn0 w w' := by
 have H := h
 clear h
 unfold spec_l1Shift.f at H
 by_cases c5 : a2 ≥ (IntKind.u64.wrap (a0))
 ·rw [if_pos c5] at H
  have c5b0 : decide ((IntKind.u64.wrap (a0)) ≤ a2) = true := decide_eq_true c5
  clear c5
  obtain rfl := Option.some.inj H
  go_enter Tryz.func151, Tryz.ntmps151
  go_wp2
  go_ret
  exact ⟨Sh.es, Sh.dr⟩
 ·rw [if_neg c5] at H
  have c5b0 : decide ((IntKind.u64.wrap (a0)) ≤ a2) = false := decide_eq_false c5
  clear c5
  have H' := am_ H
  clear H
  go_enter Tryz.func151, Tryz.ntmps151
  go_wp2
  go_loopg [1, 2] k (fun kq v1 v2 w' => ∃ (x1_1 : Int) (x2_1 : Int), v1 = .int .u64 x1_1 ∧ v2 = .int .u64 x2_1 ∧ Aside0 (spec_l1Shift.l0 kq a0 x1_1 x2_1 a3 = some r) ∧ Aside0 (kq ≤ k) ∧ Drawn0 w w')
  case atStart => exact ⟨(a1), (a2), (Sh.es), (Sh.es), H', ⟨Nat.le_refl _⟩, Sh.dr⟩
  case round =>
   clear H'
   obtain ⟨x1_1, x2_1, rfl, rfl, HA, HK1, ⟨m1, rfl⟩⟩ := hrel
   cases gk with
   | zero => exact absurd HA.out (by simp [spec_l1Shift.l0])
   | succ k1 =>
    have H := HA.out
    clear HA
    simp only [spec_l1Shift.l0] at H
    by_cases c6 : x2_1 > 0
    ·rw [if_pos c6] at H
     have c6b0 : decide (0 < x2_1) = true := decide_eq_true c6
     clear c6
     by_cases c7 : a3 = true
     ·subst c7
      rw [if_pos rfl] at H
      obtain ⟨t237, A8, H⟩ := Sh.ba H
      have H' := am_ H
      clear H
      go_wp2_with (first | ((with_reducible refine Sh.k 121 ?_); refine Sh.gD (some 21) Tryz.func121 #[.int .i64 a0, .int .u64 (IntKind.u64.wrap (x1_1 * 2))] (spec_l1Cut.calls k1 a0 (IntKind.u64.wrap (x1_1 * 2)) t237 _ A8.out) fun nd => ?_))
      go_roundg k1
      case measure => have := HK1.out; omega
      case rel => exact ⟨(t237), (IntKind.u64.wrap (x2_1 - 1)), (Sh.es), (Sh.es), H', ⟨by have := HK1.out; omega⟩, Sh.dr⟩
     ·replace c7 := Bool.eq_false_iff.mpr c7
      subst c7
      rw [Sh.nf] at H
      have H' := am_ H
      clear H
      go_wp2
      go_roundg k1
      case measure => have := HK1.out; omega
      case rel => exact ⟨(x1_1 / 2), (IntKind.u64.wrap (x2_1 - 1)), (Sh.es), (Sh.es), H', ⟨by have := HK1.out; omega⟩, Sh.dr⟩
    ·rw [if_neg c6] at H
     have c6b0 : decide (0 < x2_1) = false := decide_eq_false c6
     clear c6
     obtain rfl := Option.some.inj H
     go_wp2
     go_ret
     exact ⟨Sh.es, Sh.dr⟩
def spec_l2Bool.f (a0 : Bool) : Option (Int) := if a0 = true then (some 1) else (some 0)
theorem spec_l2Bool.calls (a0 : Bool) (r : Int) (w : World) (h : spec_l2Bool.f a0 = some r) :
  Calls Tryz.prog 152 #[.bool a0] w fun e w' => e = .returned (.int .u64 r) ∧ Drawn0 w w' := by
 have H := h
 clear h
 unfold spec_l2Bool.f at H
 by_cases c2 : a0 = true
 ·subst c2
  rw [if_pos rfl] at H
  obtain rfl := Option.some.inj H
  go_enter Tryz.func152, Tryz.ntmps152
  go_wp2
  go_ret
  exact ⟨Sh.es, Sh.dr⟩
 ·replace c2 := Bool.eq_false_iff.mpr c2
  subst c2
  rw [Sh.nf] at H
  obtain rfl := Option.some.inj H
  go_enter Tryz.func152, Tryz.ntmps152
  go_wp2
  go_ret
  exact ⟨Sh.es, Sh.dr⟩
def spec_l1Signed.f (k : Nat) (a0 : Int) (a1 : Int) : Option (Int) := if 0 ≤ (IntKind.u64.wrap (wrap64 (a0 - 1))) then (if (Go.bits .and .u64 (shr .u64 a1 (IntKind.u64.wrap (wrap64 (a0 - 1)))) 1) = 1 then ((spec_l1Cut.f k a0 18446744073709551615).bind fun t238 => (some (wrap64 (Go.bits .or .u64 a1 (Go.bits .xor .u64 18446744073709551615 t238))))) else (some (wrap64 (a1)))) else (none)
theorem spec_l1Signed.mono : ∀ a0 a1 k, LeO (spec_l1Signed.f k a0 a1) (spec_l1Signed.f (k + 1) a0 a1) := by
 intro a0 a1 k
 unfold spec_l1Signed.f
 repeat' with_reducible first | apply spec_l1Cut.mono | exact LeO.refl _ | exact LeO.none _ | apply LeO.ite | refine LeO.bind ?_ fun _ => ?_
theorem spec_l1Signed.calls (k : Nat) (a0 : Int) (a1 : Int) (r : Int) (w : World) (h : spec_l1Signed.f k a0 a1 = some r) :
  Calls Tryz.prog 153 #[.int .i64 a0, .int .u64 a1] w fun e w' => e = .returned (.int .i64 r) ∧ Drawn0 w w' := by
 have H := h
 clear h
 unfold spec_l1Signed.f at H
 obtain ⟨ji3, hj1⟩ : ∃ j_ : Int, (IntKind.u64.wrap (wrap64 (a0 - 1))) = j_ := ⟨_, rfl⟩
 replace H : (if 0 ≤ (ji3) then (if (Go.bits .and .u64 (shr .u64 a1 (ji3)) 1) = 1 then ((spec_l1Cut.f k a0 18446744073709551615).bind fun t238 => (some (wrap64 (Go.bits .or .u64 a1 (Go.bits .xor .u64 18446744073709551615 t238))))) else (some (wrap64 (a1)))) else (none)) = some r := by first | (rw [hj1] at H; exact H) | (simp only [hj1] at H ⊢; exact H)
 by_cases c4 : 0 ≤ (ji3)
 ·rw [if_pos c4] at H
  have c4b0 := eq_true c4
  have c4b1 := decide_eq_true c4
  clear c4
  obtain ⟨ji5, hj2⟩ : ∃ j_ : Int, (shr .u64 a1 (ji3)) = j_ := ⟨_, rfl⟩
  replace H : (if (Go.bits .and .u64 (ji5) 1) = 1 then ((spec_l1Cut.f k a0 18446744073709551615).bind fun t238 => (some (wrap64 (Go.bits .or .u64 a1 (Go.bits .xor .u64 18446744073709551615 t238))))) else (some (wrap64 (a1)))) = some r := by first | (rw [hj2] at H; exact H) | (simp only [hj2] at H ⊢; exact H)
  have hji5_ : (a1 / 2 ^ min (ji3).toNat 64) = ji5 := hj2
  have hji5z : (ji3) ≤ 64 → (a1 / 2 ^ (ji3).toNat) = ji5 := shr_small hj2
  by_cases c6 : (Go.bits .and .u64 (ji5) 1) = 1
  ·rw [if_pos c6] at H
   have c6b0 : ((Go.bits .and .u64 (ji5) 1) == 1) = true := beq_iff_eq.mpr c6
   have c6b1 : ((Go.bits .and .u64 (ji5) 1) != 1) = false := bne_eq_false_iff_eq.mpr c6
   clear c6
   obtain ⟨t238, A7, H⟩ := Sh.ba H
   obtain rfl := Option.some.inj H
   go_enter Tryz.func153, Tryz.ntmps153
   go_wp2_with (first | ((with_reducible refine Sh.k 121 ?_); refine Sh.gD (some 14) Tryz.func121 #[.int .i64 a0, .int .u64 18446744073709551615] (spec_l1Cut.calls k a0 18446744073709551615 t238 _ A7.out) fun nd => ?_))
   go_ret
   exact ⟨by first | rfl | (simp; done) | (simp only [← hj1, ← hj2] <;> (first | rfl | simp)) | (simp [*]; done), Sh.dr⟩
  ·rw [if_neg c6] at H
   have c6b0 : ((Go.bits .and .u64 (ji5) 1) == 1) = false := beq_eq_false_iff_ne.mpr c6
   have c6b1 : ((Go.bits .and .u64 (ji5) 1) != 1) = true := bne_iff_ne.mpr c6
   obtain rfl := Option.some.inj H
   go_enter Tryz.func153, Tryz.ntmps153
   go_wp2
   go_ret
   exact ⟨by first | rfl | (simp; done) | (simp only [← hj1, ← hj2] <;> (first | rfl | simp)) | (simp [*]; done), Sh.dr⟩
 ·rw [if_neg c4] at H
  cases H
mutual
def spec_l2Do.j0 : Nat → Int → Int → Int → Int → Bool → Option (Int)
 | 0, _, _, _, _, _ => none
 | k + 1, x0, x2, x3, x20, x48 => if x48 = true then (some (Go.bits .and .u64 x2 x3)) else (if x20 = 9 then (spec_l2Do.j1 k x0 x2 x3 x20 (x20 == 9)) else (spec_l2Do.j1 k x0 x2 x3 x20 (x20 == 18)))
def spec_l2Do.j1 : Nat → Int → Int → Int → Int → Bool → Option (Int)
 | 0, _, _, _, _, _ => none
 | k + 1, x0, x2, x3, x20, x54 => if x54 = true then (some (Go.bits .or .u64 x2 x3)) else (if x20 = 10 then (some (Go.bits .xor .u64 x2 x3)) else (if x20 = 11 then ((spec_l1Shift.f k x0 x2 x3 true).bind fun t245 => (some t245)) else (if x20 = 12 then ((spec_l1Shift.f k x0 x2 x3 false).bind fun t246 => (some t246)) else (if x20 = 14 then ((spec_l2Bool.f (x2 == x3)).bind fun t247 => (some t247)) else (if x20 = 15 then ((spec_l2Bool.f (decide (x2 < x3))).bind fun t248 => (some t248)) else (if x20 = 16 then ((spec_l1Signed.f k x0 x2).bind fun t249 => ((spec_l1Signed.f k x0 x3).bind fun t250 => ((spec_l2Bool.f (decide (t249 < t250))).bind fun t251 => (some t251)))) else (some 0)))))))
end
def spec_l2Do.f (k : Nat) (a0 : Int) (a1 : Int) (a2 : Int) (a3 : Int) : Option (Int) := (spec_DivWord.f k a0 a2 a3).bind fun bt239 => (if a1 = 3 then ((spec_l1Cut.f k a0 (IntKind.u64.wrap (a2 + a3))).bind fun t242 => (some t242)) else (if a1 = 4 then ((spec_l1Cut.f k a0 (IntKind.u64.wrap (a2 - a3))).bind fun t243 => (some t243)) else (if a1 = 5 then ((spec_l1Cut.f k a0 (IntKind.u64.wrap (a2 * a3))).bind fun t244 => (some t244)) else (if a1 = 6 then (some bt239.1) else (if a1 = 7 then (some bt239.2.1) else (if a1 = 8 then (spec_l2Do.j0 k a0 a2 a3 a1 (a1 == 8)) else (spec_l2Do.j0 k a0 a2 a3 a1 (a1 == 17))))))))
theorem spec_l2Do.mono_l : ∀ k, (∀ y0 y1 y2 y3 y4, LeO (spec_l2Do.j0 k y0 y1 y2 y3 y4) (spec_l2Do.j0 (k + 1) y0 y1 y2 y3 y4)) ∧ (∀ y0 y1 y2 y3 y4, LeO (spec_l2Do.j1 k y0 y1 y2 y3 y4) (spec_l2Do.j1 (k + 1) y0 y1 y2 y3 y4))
 | 0 => ⟨fun _ _ _ _ _ r h => by simp [spec_l2Do.j0] at h, fun _ _ _ _ _ r h => by simp [spec_l2Do.j1] at h⟩
 | k + 1 => by
  obtain ⟨ih0, ih1⟩ := spec_l2Do.mono_l k
  and_intros <;> intros
  all_goals (first | unfold spec_l2Do.j0 | unfold spec_l2Do.j1)
  all_goals repeat' with_reducible first | apply ih0 | apply ih1 | apply spec_DivWord.mono | apply spec_l1Cut.mono | apply spec_l1Shift.mono | apply spec_l1Signed.mono | exact LeO.refl _ | exact LeO.none _ | apply LeO.ite | refine LeO.bind ?_ fun _ => ?_
theorem spec_l2Do.mono : ∀ a0 a1 a2 a3 k, LeO (spec_l2Do.f k a0 a1 a2 a3) (spec_l2Do.f (k + 1) a0 a1 a2 a3) := by
 intro a0 a1 a2 a3 k
 obtain ⟨ih0, ih1⟩ := spec_l2Do.mono_l k
 unfold spec_l2Do.f
 repeat' with_reducible first | apply ih0 | apply ih1 | apply spec_DivWord.mono | apply spec_l1Cut.mono | apply spec_l1Shift.mono | apply spec_l1Signed.mono | exact LeO.refl _ | exact LeO.none _ | apply LeO.ite | refine LeO.bind ?_ fun _ => ?_
theorem spec_l2Do.calls (k : Nat) (a0 : Int) (a1 : Int) (a2 : Int) (a3 : Int) (r : Int) (w : World) (h : spec_l2Do.f k a0 a1 a2 a3 = some r) :
  Calls Tryz.prog 122 #[.int .i64 a0, .int .i64 a1, .int .u64 a2, .int .u64 a3] w fun e w' => e = .returned (.int .u64 r) ∧ Drawn0 w w' := by
 have H := h
 clear h
 unfold spec_l2Do.f at H
 obtain ⟨⟨t239, t240, t241⟩, A50, H⟩ := Sh.bd H
 have A5 := am_ A50
 clear A50
 by_cases c6 : a1 = 3
 ·rw [if_pos c6] at H
  have c6b0 : (a1 == 3) = true := beq_iff_eq.mpr c6
  have c6b1 : (a1 != 3) = false := bne_eq_false_iff_eq.mpr c6
  clear c6
  obtain ⟨t242, A7, H⟩ := Sh.ba H
  obtain rfl := Option.some.inj H
  go_enter Tryz.func122, Tryz.ntmps122
  go_wp2_with (first | ((with_reducible refine Sh.k 150 ?_); refine Sh.gD (some 16) Tryz.func150 #[.int .i64 a0, .int .u64 a2, .int .u64 a3] (spec_DivWord.calls k a0 a2 a3 t239 t240 t241 _ A5.out) fun nd => ?_) | ((with_reducible refine Sh.k 121 ?_); refine Sh.gD (some 27) Tryz.func121 #[.int .i64 a0, .int .u64 (IntKind.u64.wrap (a2 + a3))] (spec_l1Cut.calls k a0 (IntKind.u64.wrap (a2 + a3)) t242 _ A7.out) fun nd => ?_))
  go_ret
  exact ⟨Sh.es, Sh.dr⟩
 ·rw [if_neg c6] at H
  have c6b0 : (a1 == 3) = false := beq_eq_false_iff_ne.mpr c6
  have c6b1 : (a1 != 3) = true := bne_iff_ne.mpr c6
  by_cases c8 : a1 = 4
  ·rw [if_pos c8] at H
   have c8b0 : (a1 == 4) = true := beq_iff_eq.mpr c8
   have c8b1 : (a1 != 4) = false := bne_eq_false_iff_eq.mpr c8
   clear c8
   obtain ⟨t243, A9, H⟩ := Sh.ba H
   obtain rfl := Option.some.inj H
   go_enter Tryz.func122, Tryz.ntmps122
   go_wp2_with (first | ((with_reducible refine Sh.k 150 ?_); refine Sh.gD (some 16) Tryz.func150 #[.int .i64 a0, .int .u64 a2, .int .u64 a3] (spec_DivWord.calls k a0 a2 a3 t239 t240 t241 _ A5.out) fun nd => ?_) | ((with_reducible refine Sh.k 121 ?_); refine Sh.gD (some 34) Tryz.func121 #[.int .i64 a0, .int .u64 (IntKind.u64.wrap (a2 - a3))] (spec_l1Cut.calls k a0 (IntKind.u64.wrap (a2 - a3)) t243 _ A9.out) fun nd => ?_))
   go_ret
   exact ⟨Sh.es, Sh.dr⟩
  ·rw [if_neg c8] at H
   have c8b0 : (a1 == 4) = false := beq_eq_false_iff_ne.mpr c8
   have c8b1 : (a1 != 4) = true := bne_iff_ne.mpr c8
   by_cases c10 : a1 = 5
   ·rw [if_pos c10] at H
    have c10b0 : (a1 == 5) = true := beq_iff_eq.mpr c10
    have c10b1 : (a1 != 5) = false := bne_eq_false_iff_eq.mpr c10
    clear c10
    obtain ⟨t244, A11, H⟩ := Sh.ba H
    obtain rfl := Option.some.inj H
    go_enter Tryz.func122, Tryz.ntmps122
    go_wp2_with (first | ((with_reducible refine Sh.k 150 ?_); refine Sh.gD (some 16) Tryz.func150 #[.int .i64 a0, .int .u64 a2, .int .u64 a3] (spec_DivWord.calls k a0 a2 a3 t239 t240 t241 _ A5.out) fun nd => ?_) | ((with_reducible refine Sh.k 121 ?_); refine Sh.gD (some 41) Tryz.func121 #[.int .i64 a0, .int .u64 (IntKind.u64.wrap (a2 * a3))] (spec_l1Cut.calls k a0 (IntKind.u64.wrap (a2 * a3)) t244 _ A11.out) fun nd => ?_))
    go_ret
    exact ⟨Sh.es, Sh.dr⟩
   ·rw [if_neg c10] at H
    have c10b0 : (a1 == 5) = false := beq_eq_false_iff_ne.mpr c10
    have c10b1 : (a1 != 5) = true := bne_iff_ne.mpr c10
    by_cases c12 : a1 = 6
    ·rw [if_pos c12] at H
     have c12b0 : (a1 == 6) = true := beq_iff_eq.mpr c12
     have c12b1 : (a1 != 6) = false := bne_eq_false_iff_eq.mpr c12
     clear c12
     obtain rfl := Option.some.inj H
     go_enter Tryz.func122, Tryz.ntmps122
     go_wp2_with (first | ((with_reducible refine Sh.k 150 ?_); refine Sh.gD (some 16) Tryz.func150 #[.int .i64 a0, .int .u64 a2, .int .u64 a3] (spec_DivWord.calls k a0 a2 a3 t239 t240 t241 _ A5.out) fun nd => ?_))
     go_ret
     exact ⟨Sh.es, Sh.dr⟩
    ·rw [if_neg c12] at H
     have c12b0 : (a1 == 6) = false := beq_eq_false_iff_ne.mpr c12
     have c12b1 : (a1 != 6) = true := bne_iff_ne.mpr c12
     by_cases c13 : a1 = 7
     ·rw [if_pos c13] at H
      have c13b0 : (a1 == 7) = true := beq_iff_eq.mpr c13
      have c13b1 : (a1 != 7) = false := bne_eq_false_iff_eq.mpr c13
      clear c13
      obtain rfl := Option.some.inj H
      go_enter Tryz.func122, Tryz.ntmps122
      go_wp2_with (first | ((with_reducible refine Sh.k 150 ?_); refine Sh.gD (some 16) Tryz.func150 #[.int .i64 a0, .int .u64 a2, .int .u64 a3] (spec_DivWord.calls k a0 a2 a3 t239 t240 t241 _ A5.out) fun nd => ?_))
      go_ret
      exact ⟨Sh.es, Sh.dr⟩
     ·rw [if_neg c13] at H
      have c13b0 : (a1 == 7) = false := beq_eq_false_iff_ne.mpr c13
      have c13b1 : (a1 != 7) = true := bne_iff_ne.mpr c13
      have HC14 := am_ H
      clear H
      go_enter Tryz.func122, Tryz.ntmps122
      go_upto_if 48 with (first | ((with_reducible refine Sh.k 150 ?_); refine Sh.gD (some 16) Tryz.func150 #[.int .i64 a0, .int .u64 a2, .int .u64 a3] (spec_DivWord.calls k a0 a2 a3 t239 t240 t241 _ A5.out) fun nd => ?_))
      (try simp only [Act.put, List.setIfInBounds_toArray, List.set_cons_zero, List.set_cons_succ])
      go_cut [48] (fun v48 wc => ∃ (kq : Nat) (x48_13 : Bool), v48 = .bool x48_13 ∧ Aside0 (spec_l2Do.j0 kq a0 a2 a3 a1 x48_13 = some r) ∧ Aside0 (kq ≤ k) ∧ Drawn0 w wc)
      case first =>
       have H := HC14.out
       clear HC14
       by_cases c15 : a1 = 8
       ·rw [if_pos c15] at H
        have c15b0 : (a1 == 8) = true := beq_iff_eq.mpr c15
        have c15b1 : (a1 != 8) = false := bne_eq_false_iff_eq.mpr c15
        clear c15
        first | rw [c15b0] | (simp only [i64_w, i32_w]; rw [c15b0]) | skip
        have H' := am_ H
        clear H
        go_wp2
        go_meet
        case rel => exact ⟨_, ((a1 == 8)), (Sh.es), H', ⟨Sh.om⟩, Sh.dr⟩
       ·rw [if_neg c15] at H
        have c15b0 : (a1 == 8) = false := beq_eq_false_iff_ne.mpr c15
        have c15b1 : (a1 != 8) = true := bne_iff_ne.mpr c15
        first | rw [c15b0] | (simp only [i64_w, i32_w]; rw [c15b0]) | skip
        have H' := am_ H
        clear H
        go_wp2
        go_meet
        case rel => exact ⟨_, ((a1 == 17)), (Sh.es), H', ⟨Sh.om⟩, Sh.dr⟩
      case rest =>
       clear HC14
       obtain ⟨kq, x48_13, rfl, HA, HJ13, ⟨mc13, rfl⟩⟩ := hcut
       cases kq with
       | zero => exact absurd HA.out (by simp [spec_l2Do.j0])
       | succ kj13 =>
        have H := HA.out
        clear HA
        simp only [spec_l2Do.j0] at H
        by_cases c16 : x48_13 = true
        ·subst c16
         rw [if_pos rfl] at H
         obtain rfl := Option.some.inj H
         go_wp2
         go_ret
         exact ⟨Sh.es, Sh.dr⟩
        ·replace c16 := Bool.eq_false_iff.mpr c16
         subst c16
         rw [Sh.nf] at H
         have HC17 := am_ H
         clear H
         go_upto_if 54 with (fail)
         go_cut [54] (fun v54 wc => ∃ (kq : Nat) (x54_16 : Bool), v54 = .bool x54_16 ∧ Aside0 (spec_l2Do.j1 kq a0 a2 a3 a1 x54_16 = some r) ∧ Aside0 (kq ≤ kj13) ∧ Drawn0 w wc)
         case first =>
          have H := HC17.out
          clear HC17
          by_cases c18 : a1 = 9
          ·rw [if_pos c18] at H
           have c18b0 : (a1 == 9) = true := beq_iff_eq.mpr c18
           have c18b1 : (a1 != 9) = false := bne_eq_false_iff_eq.mpr c18
           clear c18
           first | rw [c18b0] | (simp only [i64_w, i32_w]; rw [c18b0]) | skip
           have H' := am_ H
           clear H
           go_wp2
           go_meet
           case rel => exact ⟨_, ((a1 == 9)), (Sh.es), H', ⟨by have := HJ13.out; first | omega | exact Nat.le_refl _⟩, Sh.dr⟩
          ·rw [if_neg c18] at H
           have c18b0 : (a1 == 9) = false := beq_eq_false_iff_ne.mpr c18
           have c18b1 : (a1 != 9) = true := bne_iff_ne.mpr c18
           first | rw [c18b0] | (simp only [i64_w, i32_w]; rw [c18b0]) | skip
           have H' := am_ H
           clear H
           go_wp2
           go_meet
           case rel => exact ⟨_, ((a1 == 18)), (Sh.es), H', ⟨by have := HJ13.out; first | omega | exact Nat.le_refl _⟩, Sh.dr⟩
         case rest =>
          clear HC17
          obtain ⟨kq, x54_16, rfl, HA, HJ16, ⟨mc16, rfl⟩⟩ := hcut
          cases kq with
          | zero => exact absurd HA.out (by simp [spec_l2Do.j1])
          | succ kj16 =>
           have H := HA.out
           clear HA
           simp only [spec_l2Do.j1] at H
           by_cases c19 : x54_16 = true
           ·subst c19
            rw [if_pos rfl] at H
            obtain rfl := Option.some.inj H
            go_wp2
            go_ret
            exact ⟨Sh.es, Sh.dr⟩
           ·replace c19 := Bool.eq_false_iff.mpr c19
            subst c19
            rw [Sh.nf] at H
            by_cases c20 : a1 = 10
            ·rw [if_pos c20] at H
             have c20b0 : (a1 == 10) = true := beq_iff_eq.mpr c20
             have c20b1 : (a1 != 10) = false := bne_eq_false_iff_eq.mpr c20
             clear c20
             obtain rfl := Option.some.inj H
             go_wp2
             go_ret
             exact ⟨Sh.es, Sh.dr⟩
            ·rw [if_neg c20] at H
             have c20b0 : (a1 == 10) = false := beq_eq_false_iff_ne.mpr c20
             have c20b1 : (a1 != 10) = true := bne_iff_ne.mpr c20
             by_cases c21 : a1 = 11
             ·rw [if_pos c21] at H
              have c21b0 : (a1 == 11) = true := beq_iff_eq.mpr c21
              have c21b1 : (a1 != 11) = false := bne_eq_false_iff_eq.mpr c21
              clear c21
              obtain ⟨t245, A22, H⟩ := Sh.ba H
              obtain rfl := Option.some.inj H
              go_wp2_with (first | ((with_reducible refine Sh.k 151 ?_); refine Sh.gD (some 70) Tryz.func151 #[.int .i64 a0, .int .u64 a2, .int .u64 a3, .bool true] (spec_l1Shift.calls kj16 a0 a2 a3 true t245 _ A22.out) fun nd => ?_))
              go_ret
              exact ⟨Sh.es, Sh.dr⟩
             ·rw [if_neg c21] at H
              have c21b0 : (a1 == 11) = false := beq_eq_false_iff_ne.mpr c21
              have c21b1 : (a1 != 11) = true := bne_iff_ne.mpr c21
              by_cases c23 : a1 = 12
              ·rw [if_pos c23] at H
               have c23b0 : (a1 == 12) = true := beq_iff_eq.mpr c23
               have c23b1 : (a1 != 12) = false := bne_eq_false_iff_eq.mpr c23
               clear c23
               obtain ⟨t246, A24, H⟩ := Sh.ba H
               obtain rfl := Option.some.inj H
               go_wp2_with (first | ((with_reducible refine Sh.k 151 ?_); refine Sh.gD (some 76) Tryz.func151 #[.int .i64 a0, .int .u64 a2, .int .u64 a3, .bool false] (spec_l1Shift.calls kj16 a0 a2 a3 false t246 _ A24.out) fun nd => ?_))
               go_ret
               exact ⟨Sh.es, Sh.dr⟩
              ·rw [if_neg c23] at H
               have c23b0 : (a1 == 12) = false := beq_eq_false_iff_ne.mpr c23
               have c23b1 : (a1 != 12) = true := bne_iff_ne.mpr c23
               by_cases c25 : a1 = 14
               ·rw [if_pos c25] at H
                have c25b0 : (a1 == 14) = true := beq_iff_eq.mpr c25
                have c25b1 : (a1 != 14) = false := bne_eq_false_iff_eq.mpr c25
                clear c25
                obtain ⟨t247, A26, H⟩ := Sh.ba H
                obtain rfl := Option.some.inj H
                go_wp2_with (first | ((with_reducible refine Sh.k 152 ?_); refine Sh.gD (some 82) Tryz.func152 #[.bool (a2 == a3)] (spec_l2Bool.calls (a2 == a3) t247 _ A26.out) fun nd => ?_))
                go_ret
                exact ⟨Sh.es, Sh.dr⟩
               ·rw [if_neg c25] at H
                have c25b0 : (a1 == 14) = false := beq_eq_false_iff_ne.mpr c25
                have c25b1 : (a1 != 14) = true := bne_iff_ne.mpr c25
                by_cases c27 : a1 = 15
                ·rw [if_pos c27] at H
                 have c27b0 : (a1 == 15) = true := beq_iff_eq.mpr c27
                 have c27b1 : (a1 != 15) = false := bne_eq_false_iff_eq.mpr c27
                 clear c27
                 obtain ⟨t248, A28, H⟩ := Sh.ba H
                 obtain rfl := Option.some.inj H
                 go_wp2_with (first | ((with_reducible refine Sh.k 152 ?_); refine Sh.gD (some 88) Tryz.func152 #[.bool (decide (a2 < a3))] (spec_l2Bool.calls (decide (a2 < a3)) t248 _ A28.out) fun nd => ?_))
                 go_ret
                 exact ⟨Sh.es, Sh.dr⟩
                ·rw [if_neg c27] at H
                 have c27b0 : (a1 == 15) = false := beq_eq_false_iff_ne.mpr c27
                 have c27b1 : (a1 != 15) = true := bne_iff_ne.mpr c27
                 by_cases c29 : a1 = 16
                 ·rw [if_pos c29] at H
                  have c29b0 : (a1 == 16) = true := beq_iff_eq.mpr c29
                  have c29b1 : (a1 != 16) = false := bne_eq_false_iff_eq.mpr c29
                  clear c29
                  obtain ⟨t249, A30, H⟩ := Sh.ba H
                  obtain ⟨t250, A31, H⟩ := Sh.ba H
                  obtain ⟨t251, A32, H⟩ := Sh.ba H
                  obtain rfl := Option.some.inj H
                  go_wp2_with (first | ((with_reducible refine Sh.k 153 ?_); refine Sh.gD (some 93) Tryz.func153 #[.int .i64 a0, .int .u64 a2] (spec_l1Signed.calls kj16 a0 a2 t249 _ A30.out) fun nd => ?_) | ((with_reducible refine Sh.k 153 ?_); refine Sh.gD (some 96) Tryz.func153 #[.int .i64 a0, .int .u64 a3] (spec_l1Signed.calls kj16 a0 a3 t250 _ A31.out) fun nd => ?_) | ((with_reducible refine Sh.k 152 ?_); refine Sh.gD (some 98) Tryz.func152 #[.bool (decide (t249 < t250))] (spec_l2Bool.calls (decide (t249 < t250)) t251 _ A32.out) fun nd => ?_))
                  go_ret
                  exact ⟨Sh.es, Sh.dr⟩
                 ·rw [if_neg c29] at H
                  have c29b0 : (a1 == 16) = false := beq_eq_false_iff_ne.mpr c29
                  have c29b1 : (a1 != 16) = true := bne_iff_ne.mpr c29
                  obtain rfl := Option.some.inj H
                  go_wp2
                  go_ret
                  exact ⟨Sh.es, Sh.dr⟩
mutual
def spec_l2From.l0 : Nat → List (S79) → Int → Int → Option (Int)
 | 0, _, _, _ => none
 | k + 1, x0, x5, x8 => if x5 > 0 then ((spec_l2From.f k x0 (wrap64 (x8 - 1))).bind fun t256 => (spec_l2From.l0 k x0 (wrap64 (x5 - 1)) t256)) else (some x8)
def spec_l2From.f : Nat → List (S79) → Int → Option (Int)
 | 0, _, _ => none
 | k + 1, l0, a1 => if 0 ≤ a1 then (if a1 < (l0.length : Int) then ((spec_l2Need.f k ((rd_T79 l0 a1).f0)).bind fun bt253 => (spec_l2From.l0 k l0 bt253.1 a1)) else (none)) else (none)
end
theorem spec_l2From.mono_l : ∀ k, (∀ y0 y1, LeO (spec_l2From.f k y0 y1) (spec_l2From.f (k + 1) y0 y1)) ∧ (∀ y0 y1 y2, LeO (spec_l2From.l0 k y0 y1 y2) (spec_l2From.l0 (k + 1) y0 y1 y2))
 | 0 => ⟨fun _ _ r h => by simp [spec_l2From.f] at h, fun _ _ _ r h => by simp [spec_l2From.l0] at h⟩
 | k + 1 => by
  obtain ⟨ih0, ih1⟩ := spec_l2From.mono_l k
  and_intros <;> intros
  all_goals (first | unfold spec_l2From.f | unfold spec_l2From.l0)
  all_goals repeat' with_reducible first | apply ih0 | apply ih1 | apply spec_l2Need.mono | exact LeO.refl _ | exact LeO.none _ | apply LeO.ite | refine LeO.bind ?_ fun _ => ?_
theorem spec_l2From.mono : ∀ a0 a1 k, LeO (spec_l2From.f k a0 a1) (spec_l2From.f (k + 1) a0 a1) := by
 intro a0 a1 k
 obtain ⟨ih0, ih1⟩ := spec_l2From.mono_l k
 exact ih0 a0 a1
theorem spec_l2From.calls (k : Nat) : ∀ (A0 : Option Addr) (c0 : Nat) (l0 : List (S79)) (a1 : Int) (r : Int) (w : World) (hr0 : Kd.C k79 w A0 l0.length l0) (hc0 : l0.length ≤ c0) (h : spec_l2From.f k l0 a1 = some r),
  Calls Tryz.prog 123 #[.slice A0 l0.length c0, .int .i64 a1] w fun e w' => e = .returned (.int .i64 r) ∧ Drawn0 w w' := by
 induction k using Nat.strongRecOn with
 | _ k ih =>
 intro A0 c0 l0 a1 r w hr0 hc0 h
 cases k with
 | zero => exact absurd h (by simp [spec_l2From.f])
 | succ k =>
 simp only [spec_l2From.f] at h
 have HR0 := am_ hr0
 have HC0 := am_ hc0
 clear hr0 hc0
 have H : (if 0 ≤ a1 then (if a1 < (l0.length : Int) then ((spec_l2Need.f k ((rd_T79 l0 a1).f0)).bind fun bt253 => (spec_l2From.l0 k l0 bt253.1 a1)) else (none)) else (none)) = some r := h
 clear h
 by_cases c3 : 0 ≤ a1
 ·rw [if_pos c3] at H
  replace c3 := decide_eq_true c3
  by_cases c4 : a1 < (l0.length : Int)
  ·rw [if_pos c4] at H
   replace c4 := decide_eq_true c4
   obtain ⟨⟨t253, t254, t255⟩, A50, H⟩ := Sh.bd H
   have A5 := am_ A50
   clear A50
   have H' := am_ H
   clear H
   have p252 : 0 ≤ (a1 : Int) := Sh.od
   have q252 : a1 < (l0.length : Int) := Sh.od
   obtain ⟨ad252, e252, hx252_0, hx252_1⟩ := at_T79 HR0.out a1 p252 q252
   cases e252
   replace p252 := eq_true p252
   replace q252 := eq_true q252
   go_enter Tryz.func123, Tryz.ntmps123
   go_wp2_with (first | ((with_reducible refine Sh.k 119 ?_); refine Sh.gD (some 15) Tryz.func119 #[.int .i64 ((rd_T79 l0 a1).f0)] (spec_l2Need.calls k ((rd_T79 l0 a1).f0) t253 t254 t255 _ A5.out) fun nd => ?_))
   go_loopg [5, 8] k (fun kq v5 v8 w' => ∃ (x5_1 : Int) (x8_1 : Int), v5 = .int .i64 x5_1 ∧ v8 = .int .i64 x8_1 ∧ Aside0 (spec_l2From.l0 kq l0 x5_1 x8_1 = some r) ∧ Aside0 (kq ≤ k) ∧ Drawn0 w w')
   case atStart => exact ⟨(t253), (a1), (Sh.es), (Sh.es), H', ⟨Nat.le_refl _⟩, Sh.dr⟩
   case round =>
    clear H'
    try clear hx2
    try clear hx252_0
    try clear hx252_1
    obtain ⟨x5_1, x8_1, rfl, rfl, HA, HK1, ⟨m1, rfl⟩⟩ := hrel
    cases gk with
    | zero => exact absurd HA.out (by simp [spec_l2From.l0])
    | succ k1 =>
     have H := HA.out
     clear HA
     simp only [spec_l2From.l0] at H
     by_cases c6 : x5_1 > 0
     ·rw [if_pos c6] at H
      have c6b0 : decide (0 < x5_1) = true := decide_eq_true c6
      clear c6
      obtain ⟨t256, A7, H⟩ := Sh.ba H
      have H' := am_ H
      clear H
      go_wp2_with (first | ((with_reducible refine Sh.k 123 ?_); refine Sh.gL (some 27) Tryz.func123 #[.slice (some ad252) l0.length c0, .int .i64 (wrap64 (x8_1 - 1))] (h := ?_); (with_reducible refine (ih k1 (by have := HK1.out; omega) _ _ l0 (wrap64 (x8_1 - 1)) t256 _ ?side1 ?side2 A7.out).mono ?_); (case side1 => repeat (first | exact HR0.out | (with_reducible first | refine Kd.C_alloc ?_ _ | refine Kd.C_drewN ?_ _ | refine Kd.C_drew ?_))); (case side2 => exact HC0.out); rintro e w' ⟨rfl, ⟨nd, rfl⟩⟩; refine ⟨_, rfl, ?_⟩))
      go_roundg k1
      case measure => have := HK1.out; omega
      case rel => exact ⟨(wrap64 (x5_1 - 1)), (t256), (Sh.es), (Sh.es), H', ⟨by have := HK1.out; omega⟩, Sh.dr⟩
     ·rw [if_neg c6] at H
      have c6b0 : decide (0 < x5_1) = false := decide_eq_false c6
      clear c6
      obtain rfl := Option.some.inj H
      go_wp2
      go_ret
      exact ⟨Sh.es, Sh.dr⟩
  ·rw [if_neg c4] at H
   cases H
 ·rw [if_neg c3] at H
  cases H
def spec_l2Value.f : Nat → Int → List (S79) → Int → List Int → Option (Int)
 | 0, _, _, _, _ => none
 | k + 1, a0, l1, a2, l3 => if 0 ≤ a2 then (if a2 < (l1.length : Int) then ((spec_l2Need.f k ((rd_T79 l1 a2).f0)).bind fun bt259 => (if ((rd_T79 l1 a2).f0) = 2 then (if 0 ≤ ((rd_T79 l1 a2).f1) then (if ((rd_T79 l1 a2).f1) < (l3.length : Int) then (some (rd l3 ((rd_T79 l1 a2).f1))) else (none)) else (none)) else (if bt259.1 = 0 then (some ((rd_T79 l1 a2).f1)) else (if ((rd_T79 l1 a2).f0) = 13 then ((spec_l2Value.f k a0 l1 (wrap64 (a2 - 1)) l3).bind fun t263 => ((spec_l1Cut.f k a0 (Go.bits .xor .u64 18446744073709551615 t263)).bind fun t264 => (some t264))) else (if ((rd_T79 l1 a2).f0) = 19 then ((spec_l2Value.f k a0 l1 (wrap64 (a2 - 1)) l3).bind fun t265 => (some (IntKind.u64.wrap (1 - t265)))) else ((spec_l2From.f k l1 (wrap64 (a2 - 1))).bind fun t266 => ((spec_l2Value.f k a0 l1 (wrap64 (t266 - 1)) l3).bind fun t267 => ((spec_l2Value.f k a0 l1 (wrap64 (a2 - 1)) l3).bind fun t268 => ((spec_l2Do.f k a0 ((rd_T79 l1 a2).f0) t267 t268).bind fun t269 => (some t269)))))))))) else (none)) else (none)
theorem spec_l2Value.mono_l : ∀ k, (∀ y0 y1 y2 y3, LeO (spec_l2Value.f k y0 y1 y2 y3) (spec_l2Value.f (k + 1) y0 y1 y2 y3))
 | 0 => fun _ _ _ _ r h => by simp [spec_l2Value.f] at h
 | k + 1 => by
  have ih0 := spec_l2Value.mono_l k
  ·intro y0 y1 y2 y3
   unfold spec_l2Value.f
   repeat' with_reducible first | apply ih0 | apply spec_l1Cut.mono | apply spec_l2Do.mono | apply spec_l2From.mono | apply spec_l2Need.mono | exact LeO.refl _ | exact LeO.none _ | apply LeO.ite | refine LeO.bind ?_ fun _ => ?_
theorem spec_l2Value.mono : ∀ a0 a1 a2 a3 k, LeO (spec_l2Value.f k a0 a1 a2 a3) (spec_l2Value.f (k + 1) a0 a1 a2 a3) := by
 intro a0 a1 a2 a3 k
 have ih0 := spec_l2Value.mono_l k
 exact ih0 a0 a1 a2 a3
def spec_l2Value.T11 : Bool × List (List Nat × List Nat) := (true, [([], []), ([], []), ([1], [1]), ([], []), ([], []), ([], []), ([], []), ([6], [6]), ([5, 7], [5, 7]), ([8], [8]), ([], []), ([3, 4, 9, 10, 8], [3, 4, 9, 10]), ([], []), ([], []), ([], []), ([14], [14]), ([], []), ([12, 13, 15, 16, 11], [12, 13, 15, 16]), ([0, 2, 11, 17, 17], [0, 2, 11, 17]), ([18, 18, 0, 1, 2, 3, 4, 5, 6, 7, 8, 9, 10, 11, 12, 13, 14, 15, 16, 17, 18], [18])])
def spec_l2Value.B11 : List Nat := [0, 0, 2, 0, 0, 0, 0, 64, 224, 480, 0, 2040, 0, 0, 0, 16384, 0, 131064, 262143, 524287]
theorem spec_l2Value.tab11 : rtab .any (opsOf Tryz.f101 11) = spec_l2Value.T11 := by kernel_rfl
theorem spec_l2Value.bits11 : waitsOk spec_l2Value.T11.2 spec_l2Value.B11 = true := by kernel_rfl
theorem spec_l2Value.calls (k : Nat) : ∀ (a0 : Int) (A1 : Option Addr) (c1 : Nat) (l1 : List (S79)) (a2 : Int) (A3 : Option Addr) (c3 : Nat) (l3 : List Int) (r : Int) (w : World) (hr1 : Kd.C k79 w A1 l1.length l1) (hc1 : l1.length ≤ c1) (hr3 : Kd.C (Kd.int .u64) w A3 l3.length l3) (hc3 : l3.length ≤ c3) (h : spec_l2Value.f k a0 l1 a2 l3 = some r),
  Calls Tryz.prog 101 #[.int .i64 a0, .slice A1 l1.length c1, .int .i64 a2, .slice A3 l3.length c3] w fun e w' => e = .returned (.int .u64 r) ∧ Below w.heap.size w w' := by
 induction k using Nat.strongRecOn with
 | _ k ih =>
 intro a0 A1 c1 l1 a2 A3 c3 l3 r w hr1 hc1 hr3 hc3 h
 cases k with
 | zero => exact absurd h (by simp [spec_l2Value.f])
 | succ k =>
 simp only [spec_l2Value.f] at h
 have hu79 := Tryz.underlying79
 have HR1 := am_ hr1
 have HC1 := am_ hc1
 clear hr1 hc1
 have HR3 := am_ hr3
 have HC3 := am_ hc3
 clear hr3 hc3
 have HB := am_ (Below.refl w.heap.size w)
 have H : (if 0 ≤ a2 then (if a2 < (l1.length : Int) then ((spec_l2Need.f k ((rd_T79 l1 a2).f0)).bind fun bt259 => (if ((rd_T79 l1 a2).f0) = 2 then (if 0 ≤ ((rd_T79 l1 a2).f1) then (if ((rd_T79 l1 a2).f1) < (l3.length : Int) then (some (rd l3 ((rd_T79 l1 a2).f1))) else (none)) else (none)) else (if bt259.1 = 0 then (some ((rd_T79 l1 a2).f1)) else (if ((rd_T79 l1 a2).f0) = 13 then ((spec_l2Value.f k a0 l1 (wrap64 (a2 - 1)) l3).bind fun t263 => ((spec_l1Cut.f k a0 (Go.bits .xor .u64 18446744073709551615 t263)).bind fun t264 => (some t264))) else (if ((rd_T79 l1 a2).f0) = 19 then ((spec_l2Value.f k a0 l1 (wrap64 (a2 - 1)) l3).bind fun t265 => (some (IntKind.u64.wrap (1 - t265)))) else ((spec_l2From.f k l1 (wrap64 (a2 - 1))).bind fun t266 => ((spec_l2Value.f k a0 l1 (wrap64 (t266 - 1)) l3).bind fun t267 => ((spec_l2Value.f k a0 l1 (wrap64 (a2 - 1)) l3).bind fun t268 => ((spec_l2Do.f k a0 ((rd_T79 l1 a2).f0) t267 t268).bind fun t269 => (some t269)))))))))) else (none)) else (none)) = some r := h
 clear h
 by_cases c5 : 0 ≤ a2
 ·rw [if_pos c5] at H
  replace c5 := decide_eq_true c5
  by_cases c6 : a2 < (l1.length : Int)
  ·rw [if_pos c6] at H
   replace c6 := decide_eq_true c6
   obtain ⟨⟨t259, t260, t261⟩, A70, H⟩ := Sh.bd H
   have A7 := am_ A70
   clear A70
   by_cases c8 : ((rd_T79 l1 a2).f0) = 2
   ·rw [if_pos c8] at H
    have c8b0 : (((rd_T79 l1 a2).f0) == 2) = true := beq_iff_eq.mpr c8
    have c8b1 : (((rd_T79 l1 a2).f0) != 2) = false := bne_eq_false_iff_eq.mpr c8
    clear c8
    by_cases c9 : 0 ≤ ((rd_T79 l1 a2).f1)
    ·rw [if_pos c9] at H
     replace c9 := decide_eq_true c9
     by_cases c10 : ((rd_T79 l1 a2).f1) < (l3.length : Int)
     ·rw [if_pos c10] at H
      replace c10 := decide_eq_true c10
      obtain rfl := Option.some.inj H
      have p257 : 0 ≤ (a2 : Int) := Sh.od
      have q257 : a2 < (l1.length : Int) := Sh.od
      obtain ⟨ad257, e257, hx257_0, hx257_1⟩ := at_T79 HR1.out a2 p257 q257
      cases e257
      replace p257 := eq_true p257
      replace q257 := eq_true q257
      go_enter Tryz.func101, Tryz.ntmps101
      go_wp2_with (first | ((with_reducible refine Sh.d 9 ?_); refine Sh.bx (N := 9) (cs := #[.int .i64 0, .int .u64 0]) (t := 79) (h := ?_); intro gb258 hg w11 hbox hb; have BK258 := am_ hbox; have GW258 := Sh.ag w hg; have GE258 := Sh.ag w hg; replace HB := Sh.hb hb; clear hb hbox hg; obtain ⟨hcz12_0, hcz12_1, hfz12_0, hfz12_1⟩ := Sh.b2 BK258.out) | ((with_reducible refine Sh.k 119 ?_); refine Sh.gD (some 20) Tryz.func119 #[.int .i64 ((rd_T79 l1 a2).f0)] (spec_l2Need.calls k ((rd_T79 l1 a2).f0) t259 t260 t261 _ A7.out) fun nd => ?_; have p262 : 0 ≤ (((rd_T79 l1 a2).f1) : Int) := Sh.od; have q262 : ((rd_T79 l1 a2).f1) < (l3.length : Int) := Sh.od; obtain ⟨ad262, e262, hx262_0⟩ := Kd.at_int HR3.out ((rd_T79 l1 a2).f1) p262 q262; cases e262; have hn262_0 : ad262.block ≠ gb258 := Nat.ne_of_lt (Nat.lt_of_lt_of_le (by have := World.block_lt_of_cell? _ _ hx262_0; first | rwa [add_block] at this | exact this) GW258.out); have hn262_1 : ad262.block ≠ gb258 := Nat.ne_of_lt (Nat.lt_of_lt_of_le (by have := World.block_lt_of_cell? _ _ hx262_0; first | rwa [add_block] at this | exact this) GW258.out); replace hx262_0 := (HB.out.cell (World.block_lt_of_cell? w _ hx262_0)).trans hx262_0; replace hx262_0 := (cell_far (p := ⟨gb258, 0, none⟩) (by first | (rw [add_block]; exact hn262_0) | (show (Addr.add _ _).block ≠ _; rw [add_block]; exact hn262_0) | exact hn262_0) (.int .i64 ((rd_T79 l1 a2).f0))).trans hx262_0; replace hx262_0 := (cell_far (p := ⟨gb258, 1, none⟩) (by first | (rw [add_block]; exact hn262_1) | (show (Addr.add _ _).block ≠ _; rw [add_block]; exact hn262_1) | exact hn262_1) (.int .u64 ((rd_T79 l1 a2).f1))).trans hx262_0; clear hn262_0; clear hn262_1; replace p262 := eq_true p262; replace q262 := eq_true q262))
      go_ret
      exact ⟨Sh.eR, Sh.bw⟩
     ·rw [if_neg c10] at H
      cases H
    ·rw [if_neg c9] at H
     cases H
   ·rw [if_neg c8] at H
    have c8b0 : (((rd_T79 l1 a2).f0) == 2) = false := beq_eq_false_iff_ne.mpr c8
    have c8b1 : (((rd_T79 l1 a2).f0) != 2) = true := bne_iff_ne.mpr c8
    by_cases c13 : t259 = 0
    ·rw [if_pos c13] at H
     have c13b0 : (t259 == 0) = true := beq_iff_eq.mpr c13
     have c13b1 : (t259 != 0) = false := bne_eq_false_iff_eq.mpr c13
     clear c13
     obtain rfl := Option.some.inj H
     have p257 : 0 ≤ (a2 : Int) := Sh.od
     have q257 : a2 < (l1.length : Int) := Sh.od
     obtain ⟨ad257, e257, hx257_0, hx257_1⟩ := at_T79 HR1.out a2 p257 q257
     cases e257
     replace p257 := eq_true p257
     replace q257 := eq_true q257
     go_enter Tryz.func101, Tryz.ntmps101
     go_wp2_with (first | ((with_reducible refine Sh.d 9 ?_); refine Sh.bx (N := 9) (cs := #[.int .i64 0, .int .u64 0]) (t := 79) (h := ?_); intro gb258 hg w14 hbox hb; have BK258 := am_ hbox; have GW258 := Sh.ag w hg; have GE258 := Sh.ag w hg; replace HB := Sh.hb hb; clear hb hbox hg; obtain ⟨hcz15_0, hcz15_1, hfz15_0, hfz15_1⟩ := Sh.b2 BK258.out) | ((with_reducible refine Sh.k 119 ?_); refine Sh.gD (some 20) Tryz.func119 #[.int .i64 ((rd_T79 l1 a2).f0)] (spec_l2Need.calls k ((rd_T79 l1 a2).f0) t259 t260 t261 _ A7.out) fun nd => ?_))
     go_ret
     exact ⟨Sh.eR, Sh.bw⟩
    ·rw [if_neg c13] at H
     have c13b0 : (t259 == 0) = false := beq_eq_false_iff_ne.mpr c13
     have c13b1 : (t259 != 0) = true := bne_iff_ne.mpr c13
     by_cases c16 : ((rd_T79 l1 a2).f0) = 13
     ·rw [if_pos c16] at H
      have c16b0 : (((rd_T79 l1 a2).f0) == 13) = true := beq_iff_eq.mpr c16
      have c16b1 : (((rd_T79 l1 a2).f0) != 13) = false := bne_eq_false_iff_eq.mpr c16
      clear c16
      obtain ⟨t263, A17, H⟩ := Sh.ba H
      obtain ⟨t264, A18, H⟩ := Sh.ba H
      obtain rfl := Option.some.inj H
      have p257 : 0 ≤ (a2 : Int) := Sh.od
      have q257 : a2 < (l1.length : Int) := Sh.od
      obtain ⟨ad257, e257, hx257_0, hx257_1⟩ := at_T79 HR1.out a2 p257 q257
      cases e257
      replace p257 := eq_true p257
      replace q257 := eq_true q257
      go_enter Tryz.func101, Tryz.ntmps101
      go_wp2_with (first | ((with_reducible refine Sh.d 9 ?_); refine Sh.bx (N := 9) (cs := #[.int .i64 0, .int .u64 0]) (t := 79) (h := ?_); intro gb258 hg w19 hbox hb; have BK258 := am_ hbox; have GW258 := Sh.ag w hg; have GE258 := Sh.ag w hg; replace HB := Sh.hb hb; clear hb hbox hg; obtain ⟨hcz20_0, hcz20_1, hfz20_0, hfz20_1⟩ := Sh.b2 BK258.out) | ((with_reducible refine Sh.k 119 ?_); refine Sh.gD (some 20) Tryz.func119 #[.int .i64 ((rd_T79 l1 a2).f0)] (spec_l2Need.calls k ((rd_T79 l1 a2).f0) t259 t260 t261 _ A7.out) fun nd => ?_) | ((with_reducible refine Sh.k 101 ?_); refine Sh.gL (some 48) Tryz.func101 #[.int .i64 a0, .slice (some ad257) l1.length c1, .int .i64 (wrap64 (a2 - 1)), .slice A3 l3.length c3] (h := ?_); (with_reducible refine (ih k (by omega) a0 _ _ l1 (wrap64 (a2 - 1)) _ _ l3 t263 _ (Sh.cB HR1.out) HC1.out (Sh.cB HR3.out) HC3.out A17.out).mono ?_); rintro e w21 ⟨rfl, hb⟩; refine ⟨_, rfl, ?_⟩; replace BK258 := am_ (blk_below (g := gb258) (o := .cells #[.int .i64 ((rd_T79 l1 a2).f0), .int .u64 ((rd_T79 l1 a2).f1)] 79 (0, 0)) (by refine Sh.pl ?_; refine blk_put (cs := #[.int .i64 ((rd_T79 l1 a2).f0), .int .u64 0]) ?_ 1 _ rfl; refine Sh.pl ?_; refine blk_put (cs := #[.int .i64 0, .int .u64 0]) ?_ 0 _ rfl; refine Sh.pl ?_; exact BK258.out) hb); replace HB := Sh.hb hb; (try clear hb)) | ((with_reducible refine Sh.k 121 ?_); refine Sh.gD (some 50) Tryz.func121 #[.int .i64 a0, .int .u64 (Go.bits .xor .u64 18446744073709551615 t263)] (spec_l1Cut.calls k a0 (Go.bits .xor .u64 18446744073709551615 t263) t264 _ A18.out) fun nd => ?_))
      go_ret
      exact ⟨Sh.eR, Sh.bw⟩
     ·rw [if_neg c16] at H
      have c16b0 : (((rd_T79 l1 a2).f0) == 13) = false := beq_eq_false_iff_ne.mpr c16
      have c16b1 : (((rd_T79 l1 a2).f0) != 13) = true := bne_iff_ne.mpr c16
      by_cases c22 : ((rd_T79 l1 a2).f0) = 19
      ·rw [if_pos c22] at H
       have c22b0 : (((rd_T79 l1 a2).f0) == 19) = true := beq_iff_eq.mpr c22
       have c22b1 : (((rd_T79 l1 a2).f0) != 19) = false := bne_eq_false_iff_eq.mpr c22
       clear c22
       obtain ⟨t265, A23, H⟩ := Sh.ba H
       obtain rfl := Option.some.inj H
       have p257 : 0 ≤ (a2 : Int) := Sh.od
       have q257 : a2 < (l1.length : Int) := Sh.od
       obtain ⟨ad257, e257, hx257_0, hx257_1⟩ := at_T79 HR1.out a2 p257 q257
       cases e257
       replace p257 := eq_true p257
       replace q257 := eq_true q257
       go_enter Tryz.func101, Tryz.ntmps101
       go_wp2_with (first | ((with_reducible refine Sh.d 9 ?_); refine Sh.bx (N := 9) (cs := #[.int .i64 0, .int .u64 0]) (t := 79) (h := ?_); intro gb258 hg w24 hbox hb; have BK258 := am_ hbox; have GW258 := Sh.ag w hg; have GE258 := Sh.ag w hg; replace HB := Sh.hb hb; clear hb hbox hg; obtain ⟨hcz25_0, hcz25_1, hfz25_0, hfz25_1⟩ := Sh.b2 BK258.out) | ((with_reducible refine Sh.k 119 ?_); refine Sh.gD (some 20) Tryz.func119 #[.int .i64 ((rd_T79 l1 a2).f0)] (spec_l2Need.calls k ((rd_T79 l1 a2).f0) t259 t260 t261 _ A7.out) fun nd => ?_) | ((with_reducible refine Sh.k 101 ?_); refine Sh.gL (some 60) Tryz.func101 #[.int .i64 a0, .slice (some ad257) l1.length c1, .int .i64 (wrap64 (a2 - 1)), .slice A3 l3.length c3] (h := ?_); (with_reducible refine (ih k (by omega) a0 _ _ l1 (wrap64 (a2 - 1)) _ _ l3 t265 _ (Sh.cB HR1.out) HC1.out (Sh.cB HR3.out) HC3.out A23.out).mono ?_); rintro e w26 ⟨rfl, hb⟩; refine ⟨_, rfl, ?_⟩; replace BK258 := am_ (blk_below (g := gb258) (o := .cells #[.int .i64 ((rd_T79 l1 a2).f0), .int .u64 ((rd_T79 l1 a2).f1)] 79 (0, 0)) (by refine Sh.pl ?_; refine blk_put (cs := #[.int .i64 ((rd_T79 l1 a2).f0), .int .u64 0]) ?_ 1 _ rfl; refine Sh.pl ?_; refine blk_put (cs := #[.int .i64 0, .int .u64 0]) ?_ 0 _ rfl; refine Sh.pl ?_; exact BK258.out) hb); replace HB := Sh.hb hb; (try clear hb)))
       go_ret
       exact ⟨Sh.eR, Sh.bw⟩
      ·rw [if_neg c22] at H
       have c22b0 : (((rd_T79 l1 a2).f0) == 19) = false := beq_eq_false_iff_ne.mpr c22
       have c22b1 : (((rd_T79 l1 a2).f0) != 19) = true := bne_iff_ne.mpr c22
       obtain ⟨t266, A27, H⟩ := Sh.ba H
       obtain ⟨t267, A28, H⟩ := Sh.ba H
       obtain ⟨t268, A29, H⟩ := Sh.ba H
       obtain ⟨t269, A30, H⟩ := Sh.ba H
       obtain rfl := Option.some.inj H
       have p257 : 0 ≤ (a2 : Int) := Sh.od
       have q257 : a2 < (l1.length : Int) := Sh.od
       obtain ⟨ad257, e257, hx257_0, hx257_1⟩ := at_T79 HR1.out a2 p257 q257
       cases e257
       replace p257 := eq_true p257
       replace q257 := eq_true q257
       go_enter Tryz.func101, Tryz.ntmps101
       try go_wp2_with (first | ((with_reducible refine Sh.d 9 ?_); refine Sh.bx (N := 9) (cs := #[.int .i64 0, .int .u64 0]) (t := 79) (h := ?_); intro gb258 hg w31 hbox hb; have BK258 := am_ hbox; have GW258 := Sh.ag w hg; have GE258 := Sh.ag w hg; replace HB := Sh.hb hb; clear hb hbox hg; obtain ⟨hcz32_0, hcz32_1, hfz32_0, hfz32_1⟩ := Sh.b2 BK258.out) | ((with_reducible refine Sh.k 119 ?_); refine Sh.gD (some 20) Tryz.func119 #[.int .i64 ((rd_T79 l1 a2).f0)] (spec_l2Need.calls k ((rd_T79 l1 a2).f0) t259 t260 t261 _ A7.out) fun nd => ?_))
       have n0_ : Aside0 (((w31.setCell ⟨gb258, 0, none⟩ (.int .i64 ((rd_T79 l1 a2).f0))).setCell ⟨gb258, 1, none⟩ (.int .u64 ((rd_T79 l1 a2).f1))).heap[gb258]? = some (.cells #[.int .i64 ((rd_T79 l1 a2).f0), .int .u64 ((rd_T79 l1 a2).f1)] 79 (0, 0))) := ⟨by refine Sh.pl ?_; refine blk_put (cs := #[.int .i64 ((rd_T79 l1 a2).f0), .int .u64 0]) ?_ 1 _ rfl; refine Sh.pl ?_; refine blk_put (cs := #[.int .i64 0, .int .u64 0]) ?_ 0 _ rfl; refine Sh.pl ?_; exact BK258.out⟩
       have n1_ : Aside0 (Below w.heap.size w ((w31.setCell ⟨gb258, 0, none⟩ (.int .i64 ((rd_T79 l1 a2).f0))).setCell ⟨gb258, 1, none⟩ (.int .u64 ((rd_T79 l1 a2).f1)))) := ⟨Sh.bw⟩
       (try clear BK258)
       (try clear HB)
       generalize ((w31.setCell ⟨gb258, 0, none⟩ (.int .i64 ((rd_T79 l1 a2).f0))).setCell ⟨gb258, 1, none⟩ (.int .u64 ((rd_T79 l1 a2).f1))) = w33 at n0_ n1_ ⊢
       have BK258 := n0_
       have HB := n1_
       clear n0_ n1_
       (try (rw [drewN_self w33]; generalize hq_ : World.drewN w33 _ = w33; have n0_ : Aside0 (w33.heap[gb258]? = some (.cells #[.int .i64 ((rd_T79 l1 a2).f0), .int .u64 ((rd_T79 l1 a2).f1)] 79 (0, 0))) := ⟨by rw [← hq_]; exact (Sh.pl BK258.out)⟩; have n1_ : Aside0 (Below w.heap.size w w33) := ⟨by rw [← hq_]; exact Sh.bw⟩; clear BK258 HB hq_; have BK258 := n0_; have HB := n1_; clear n0_ n1_))
       replace BK258 := am_ (blk_drew BK258.out)
       replace HB := am_ (below_drew1 HB.out)
       refine start_ (n := 20) (S := fun w' => w'.cell? ⟨gb258, 0, none⟩ = some (.int .i64 ((rd_T79 l1 a2).f0)) ∧ w'.cell? ⟨gb258, 1, none⟩ = some (.int .u64 ((rd_T79 l1 a2).f1))) (ds := []) (Sh.nm 20 0) (by kernel_rfl) rfl rfl Sh.cs (fun hHeld => ?_); refine with_tabW spec_l2Value.tab11 spec_l2Value.bits11 (fun HT_ HW_ => ?_)
       generalize w33.drew = w34 at BK258 HB hHeld ⊢
       refine Sh.qA 0 ?_; refine Sh.qA 1 ?_; refine Sh.qA 3 ?_; refine Sh.qA 4 ?_; refine Sh.qA 5 ?_; refine Sh.qA 6 ?_; refine Sh.qA 7 ?_; refine Sh.qA 10 ?_; refine Sh.qA 12 ?_; refine Sh.qA 13 ?_; refine Sh.qA 14 ?_; refine Sh.qA 15 ?_; refine Sh.qA 16 ?_; refine Sh.qT 2 hHeld ?_
       refine Sh.oC 8 Tryz.func123 #[.slice (some ad257) l1.length c1, .int .i64 (wrap64 (a2 - 1))] fun K hK => ?_
       with_reducible refine (spec_l2From.calls k _ _ l1 (wrap64 (a2 - 1)) t266 _ (Sh.cB HR1.out) HC1.out A27.out).mono ?_
       rintro e w' ⟨rfl, ⟨nd, rfl⟩⟩
       refine ⟨_, rfl, ?_⟩
       refine Sh.kN hK Sh.cs fun hHeld => ?_
       clear hK K
       refine Sh.qA 9 ?_
       refine Sh.oC 11 Tryz.func101 #[.int .i64 a0, .slice (some ad257) l1.length c1, .int .i64 (wrap64 (t266 - 1)), .slice A3 l3.length c3] fun K hK => ?_
       with_reducible refine (ih k (by omega) a0 _ _ l1 (wrap64 (t266 - 1)) _ _ l3 t267 _ ?side1 ?side2 ?side3 ?side4 A28.out).mono ?_
       (case side1 => repeat (first | exact (Kd.C_below HR1.out Sh.bw) | (with_reducible first | refine Kd.C_alloc ?_ _ | refine Kd.C_drewN ?_ _ | refine Kd.C_drew ?_)))
       (case side2 => exact HC1.out)
       (case side3 => repeat (first | exact (Kd.C_below HR3.out Sh.bw) | (with_reducible first | refine Kd.C_alloc ?_ _ | refine Kd.C_drewN ?_ _ | refine Kd.C_drew ?_)))
       (case side4 => exact HC3.out)
       rintro e w35 ⟨rfl, hb⟩
       refine ⟨_, rfl, ?_⟩
       replace BK258 := Sh.ab BK258 hb
       replace HB := Sh.hb hb
       (try clear hb)
       refine Sh.kN hK Sh.cs fun hHeld => ?_
       clear hK K
       refine Sh.oC 17 Tryz.func101 #[.int .i64 a0, .slice (some ad257) l1.length c1, .int .i64 (wrap64 (a2 - 1)), .slice A3 l3.length c3] fun K hK => ?_
       with_reducible refine (ih k (by omega) a0 _ _ l1 (wrap64 (a2 - 1)) _ _ l3 t268 _ ?side1 ?side2 ?side3 ?side4 A29.out).mono ?_
       (case side1 => repeat (first | exact (Kd.C_below HR1.out HB.out) | (with_reducible first | refine Kd.C_alloc ?_ _ | refine Kd.C_drewN ?_ _ | refine Kd.C_drew ?_)))
       (case side2 => exact HC1.out)
       (case side3 => repeat (first | exact (Kd.C_below HR3.out HB.out) | (with_reducible first | refine Kd.C_alloc ?_ _ | refine Kd.C_drewN ?_ _ | refine Kd.C_drew ?_)))
       (case side4 => exact HC3.out)
       rintro e w36 ⟨rfl, hb⟩
       refine ⟨_, rfl, ?_⟩
       replace BK258 := Sh.ab BK258 hb
       replace HB := Sh.hb hb
       (try clear hb)
       refine Sh.kN hK Sh.cs fun hHeld => ?_
       clear hK K
       refine Sh.oC 18 Tryz.func122 #[.int .i64 a0, .int .i64 ((rd_T79 l1 a2).f0), .int .u64 t267, .int .u64 t268] fun K hK => ?_
       with_reducible refine (spec_l2Do.calls k a0 ((rd_T79 l1 a2).f0) t267 t268 t269 _ A30.out).mono ?_
       rintro e w' ⟨rfl, ⟨nd, rfl⟩⟩
       refine ⟨_, rfl, ?_⟩
       refine Sh.kN hK Sh.cs fun hHeld => ?_
       clear hK K
       refine Sh.qA 19 ?_
       refine done_ (done_of HT_.out (by kernel_rfl)) ?_
       try go_wp2
       go_ret
       exact ⟨Sh.eR, Sh.bw⟩
  ·rw [if_neg c6] at H
   cases H
 ·rw [if_neg c5] at H
  cases H
def spec_l7Holds.f (k : Nat) (a0_0 : Int) (a0_1 : Int) (l0_2 : List (S79)) (l0_3 : List (S95)) (l1 : List (S79)) (l2 : List Int) : Option (Bool) := (spec_l2Value.f k a0_0 l1 (wrap64 ((l1.length : Int) - 1)) l2).bind fun t271 => (some (t271 == 1))
theorem spec_l7Holds.mono : ∀ a0 a1 a2 a3 a4 a5 k, LeO (spec_l7Holds.f k a0 a1 a2 a3 a4 a5) (spec_l7Holds.f (k + 1) a0 a1 a2 a3 a4 a5) := by
 intro a0 a1 a2 a3 a4 a5 k
 unfold spec_l7Holds.f
 repeat' with_reducible first | apply spec_l2Value.mono | exact LeO.refl _ | exact LeO.none _ | apply LeO.ite | refine LeO.bind ?_ fun _ => ?_
theorem spec_l7Holds.calls (k : Nat) (a0_0 : Int) (a0_1 : Int) (A0_2 : Option Addr) (c0_2 : Nat) (l0_2 : List (S79)) (A0_3 : Option Addr) (c0_3 : Nat) (l0_3 : List (S95)) (A1 : Option Addr) (c1 : Nat) (l1 : List (S79)) (A2 : Option Addr) (c2 : Nat) (l2 : List Int) (r : Bool) (w : World) (hr0_2 : Kd.C k79 w A0_2 l0_2.length l0_2) (hc0_2 : l0_2.length ≤ c0_2) (hr0_3 : Kd.C k95 w A0_3 l0_3.length l0_3) (hc0_3 : l0_3.length ≤ c0_3) (hr1 : Kd.C k79 w A1 l1.length l1) (hc1 : l1.length ≤ c1) (hr2 : Kd.C (Kd.int .u64) w A2 l2.length l2) (hc2 : l2.length ≤ c2) (h : spec_l7Holds.f k a0_0 a0_1 l0_2 l0_3 l1 l2 = some r) :
  Calls Tryz.prog 60 #[.agg #[.int .i64 a0_0, .int .i64 a0_1, .slice A0_2 l0_2.length c0_2, .slice A0_3 l0_3.length c0_3], .slice A1 l1.length c1, .slice A2 l2.length c2] w fun e w' => e = .returned (.bool r) ∧ Below w.heap.size w w' := by
 have hu33 := Tryz.underlying33
 have HR0_2 := am_ hr0_2
 have HC0_2 := am_ hc0_2
 clear hr0_2 hc0_2
 have HR0_3 := am_ hr0_3
 have HC0_3 := am_ hc0_3
 clear hr0_3 hc0_3
 have HR1 := am_ hr1
 have HC1 := am_ hc1
 clear hr1 hc1
 have HR2 := am_ hr2
 have HC2 := am_ hc2
 clear hr2 hc2
 have HB := am_ (Below.refl w.heap.size w)
 have H := h
 clear h
 unfold spec_l7Holds.f at H
 obtain ⟨t271, A4, H⟩ := Sh.ba H
 obtain rfl := Option.some.inj H
 go_enter Tryz.func60, Tryz.ntmps60
 go_wp2_with (first | ((with_reducible refine Sh.d 3 ?_); refine Sh.bz w (N := 3) (cs := #[.int .i64 a0_0, .int .i64 a0_1, .slice A0_2 l0_2.length c0_2, .slice A0_3 l0_3.length c0_3]) (t := 33) (h := ?_); clear HB; intro gb270 w5 BK270 GE270 HB; obtain ⟨hcz6_0, hcz6_1, hcz6_2, hcz6_3, hfz6_0, hfz6_1, hfz6_2, hfz6_3⟩ := Sh.b4 BK270.out) | ((with_reducible refine Sh.k 101 ?_); refine Sh.gB (some 14) Tryz.func101 #[.int .i64 a0_0, .slice A1 l1.length c1, .int .i64 (wrap64 ((l1.length : Int) - 1)), .slice A2 l2.length c2] (spec_l2Value.calls k a0_0 _ _ l1 (wrap64 ((l1.length : Int) - 1)) _ _ l2 t271 _ (Sh.cB HR1.out) HC1.out (Sh.cB HR2.out) HC2.out A4.out) fun w7 hb => ?_; replace BK270 := Sh.ab BK270 hb; replace HB := Sh.hb hb; (try clear hb)))
 go_ret
 exact ⟨Sh.eR, Sh.bw⟩
def spec_l7Of.l0 : Nat → Int → List Int → Int → Int → Int → List (S79) → List (S95) → Option (List Int)
 | 0, _, _, _, _, _, _, _ => none
 | k + 1, x1, x5, x6, x273000, x273001, x273002, x273003 => if x6 < x273001 then (if 0 ≤ (IntKind.u64.wrap (wrap64 (x6 * x273000))) then (if 0 ≤ (IntKind.u64.wrap (x273000)) then (if x5.length < 17592186044416 then (spec_l7Of.l0 k x1 (x5 ++ [IntKind.u64.wrap (Go.bits .and .i64 (shr .i64 x1 (IntKind.u64.wrap (wrap64 (x6 * x273000)))) (wrap64 ((shl .i64 1 (IntKind.u64.wrap (x273000))) - 1)))]) (wrap64 (x6 + 1)) x273000 x273001 x273002 x273003) else (none)) else (none)) else (none)) else (some x5)
def spec_l7Of.f (k : Nat) (a0_0 : Int) (a0_1 : Int) (l0_2 : List (S79)) (l0_3 : List (S95)) (a1 : Int) : Option (List Int) := spec_l7Of.l0 k a1 ([] : List Int) 0 a0_0 a0_1 l0_2 l0_3
theorem spec_l7Of.mono_l : ∀ k, (∀ y0 y1 y2 y3 y4 y5 y6, LeO (spec_l7Of.l0 k y0 y1 y2 y3 y4 y5 y6) (spec_l7Of.l0 (k + 1) y0 y1 y2 y3 y4 y5 y6))
 | 0 => fun _ _ _ _ _ _ _ r h => by simp [spec_l7Of.l0] at h
 | k + 1 => by
  have ih0 := spec_l7Of.mono_l k
  ·intro y0 y1 y2 y3 y4 y5 y6
   unfold spec_l7Of.l0
   repeat' with_reducible first | apply ih0 | exact LeO.refl _ | exact LeO.none _ | apply LeO.ite | refine LeO.bind ?_ fun _ => ?_
theorem spec_l7Of.mono : ∀ a0 a1 a2 a3 a4 k, LeO (spec_l7Of.f k a0 a1 a2 a3 a4) (spec_l7Of.f (k + 1) a0 a1 a2 a3 a4) := by
 intro a0 a1 a2 a3 a4 k
 have ih0 := spec_l7Of.mono_l k
 unfold spec_l7Of.f
 repeat' with_reducible first | apply ih0 | exact LeO.refl _ | exact LeO.none _ | apply LeO.ite | refine LeO.bind ?_ fun _ => ?_
theorem spec_l7Of.calls (k : Nat) (a0_0 : Int) (a0_1 : Int) (A0_2 : Option Addr) (c0_2 : Nat) (l0_2 : List (S79)) (A0_3 : Option Addr) (c0_3 : Nat) (l0_3 : List (S95)) (a1 : Int) (r : List Int) (w : World) (hr0_2 : Kd.C k79 w A0_2 l0_2.length l0_2) (hc0_2 : l0_2.length ≤ c0_2) (hr0_3 : Kd.C k95 w A0_3 l0_3.length l0_3) (hc0_3 : l0_3.length ≤ c0_3) (h : spec_l7Of.f k a0_0 a0_1 l0_2 l0_3 a1 = some r) :
  Calls Tryz.prog 61 #[.agg #[.int .i64 a0_0, .int .i64 a0_1, .slice A0_2 l0_2.length c0_2, .slice A0_3 l0_3.length c0_3], .int .i64 a1] w fun e w' => ∃ v0_ : Value, e = .returned (v0_) ∧ Kd.R (Kd.int .u64) 77 w' w.heap.size (fun _ => True) v0_ r ∧ Below w.heap.size w w' := by
 have hu33 := Tryz.underlying33
 have HR0_2 := am_ hr0_2
 have HC0_2 := am_ hc0_2
 clear hr0_2 hc0_2
 have HR0_3 := am_ hr0_3
 have HC0_3 := am_ hc0_3
 clear hr0_3 hc0_3
 have HB := am_ (Below.refl w.heap.size w)
 have H := h
 clear h
 unfold spec_l7Of.f at H
 have H' := am_ H
 clear H
 go_enter Tryz.func61, Tryz.ntmps61
 go_wp2_with (first | ((with_reducible refine Sh.d 2 ?_); refine Sh.bz w (N := 2) (cs := #[.int .i64 a0_0, .int .i64 a0_1, .slice A0_2 l0_2.length c0_2, .slice A0_3 l0_3.length c0_3]) (t := 33) (h := ?_); clear HB; intro gb272 w3 BK272 GE272 HB))
 go_loopg [5, 6] k (fun kq v5 v6 w' => ∃ (x5_1 : List Int) (x6_1 : Int), v6 = .int .i64 x6_1 ∧ Aside0 (spec_l7Of.l0 kq a1 x5_1 x6_1 a0_0 a0_1 l0_2 l0_3 = some r) ∧ Aside0 (kq ≤ k) ∧ Aside0 (Kd.R (Kd.int .u64) 77 w' w.heap.size (fun _ => True) v5 x5_1) ∧ Aside0 (w'.heap[gb272]? = some (.cells #[.int .i64 a0_0, .int .i64 a0_1, (.slice A0_2 l0_2.length c0_2), (.slice A0_3 l0_3.length c0_3)] 33 (0, 0))) ∧ Aside0 (Below w.heap.size w w'))
 case atStart => exact ⟨(([] : List Int)), (0), (Sh.es), H', ⟨Nat.le_refl _⟩, ⟨by first | exact Kd.R_nil _ _ _ _ _ | exact Kd.N_nil _ _ _ _ _ | exact Kd.V_nil _ _ _ _ _ | exact Kd.Q_nil _ _ _ _ _ | exact Kd.S_nil _ _ _ _ _⟩, ⟨by refine Sh.pl ?_; exact BK272.out⟩, ⟨Sh.bw⟩⟩
 case round =>
  clear H'
  obtain ⟨x5_1, x6_1, rfl, HA, HK1, HO_5, BK272, HB⟩ := hrel
  cases gk with
  | zero => exact absurd HA.out (by simp [spec_l7Of.l0])
  | succ k1 =>
   have H := HA.out
   clear HA
   simp only [spec_l7Of.l0] at H
   by_cases c4 : x6_1 < a0_1
   ·rw [if_pos c4] at H
    replace c4 := decide_eq_true c4
    obtain ⟨ji5, hj1⟩ : ∃ j_ : Int, (IntKind.u64.wrap (wrap64 (x6_1 * a0_0))) = j_ := ⟨_, rfl⟩
    replace H : (if 0 ≤ (ji5) then (if 0 ≤ (IntKind.u64.wrap (a0_0)) then (if x5_1.length < 17592186044416 then (spec_l7Of.l0 k1 a1 (x5_1 ++ [IntKind.u64.wrap (Go.bits .and .i64 (shr .i64 a1 (ji5)) (wrap64 ((shl .i64 1 (IntKind.u64.wrap (a0_0))) - 1)))]) (wrap64 (x6_1 + 1)) a0_0 a0_1 l0_2 l0_3) else (none)) else (none)) else (none)) = some r := by first | (rw [hj1] at H; exact H) | (simp only [hj1] at H ⊢; exact H)
    by_cases c6 : 0 ≤ (ji5)
    ·rw [if_pos c6] at H
     have c6b0 := eq_true c6
     have c6b1 := decide_eq_true c6
     clear c6
     obtain ⟨ji7, hj2⟩ : ∃ j_ : Int, (shr .i64 a1 (ji5)) = j_ := ⟨_, rfl⟩
     replace H : (if 0 ≤ (IntKind.u64.wrap (a0_0)) then (if x5_1.length < 17592186044416 then (spec_l7Of.l0 k1 a1 (x5_1 ++ [IntKind.u64.wrap (Go.bits .and .i64 (ji7) (wrap64 ((shl .i64 1 (IntKind.u64.wrap (a0_0))) - 1)))]) (wrap64 (x6_1 + 1)) a0_0 a0_1 l0_2 l0_3) else (none)) else (none)) = some r := by first | (rw [hj2] at H; exact H) | (simp only [hj2] at H ⊢; exact H)
     have hji7_ : (a1 / 2 ^ min (ji5).toNat 64) = ji7 := hj2
     have hji7z : (ji5) ≤ 64 → (a1 / 2 ^ (ji5).toNat) = ji7 := shr_small hj2
     obtain ⟨ji8, hj3⟩ : ∃ j_ : Int, (IntKind.u64.wrap (a0_0)) = j_ := ⟨_, rfl⟩
     replace H : (if 0 ≤ (ji8) then (if x5_1.length < 17592186044416 then (spec_l7Of.l0 k1 a1 (x5_1 ++ [IntKind.u64.wrap (Go.bits .and .i64 (ji7) (wrap64 ((shl .i64 1 (ji8)) - 1)))]) (wrap64 (x6_1 + 1)) a0_0 a0_1 l0_2 l0_3) else (none)) else (none)) = some r := by first | (rw [hj3] at H; exact H) | (simp only [hj3] at H ⊢; exact H)
     by_cases c9 : 0 ≤ (ji8)
     ·rw [if_pos c9] at H
      have c9b0 := eq_true c9
      have c9b1 := decide_eq_true c9
      clear c9
      obtain ⟨ji10, hj4⟩ : ∃ j_ : Int, (shl .i64 1 (ji8)) = j_ := ⟨_, rfl⟩
      replace H : (if x5_1.length < 17592186044416 then (spec_l7Of.l0 k1 a1 (x5_1 ++ [IntKind.u64.wrap (Go.bits .and .i64 (ji7) (wrap64 ((ji10) - 1)))]) (wrap64 (x6_1 + 1)) a0_0 a0_1 l0_2 l0_3) else (none)) = some r := by first | (rw [hj4] at H; exact H) | (simp only [hj4] at H ⊢; exact H)
      have hji10_ : (IntKind.i64.wrap (1 * 2 ^ min (ji8).toNat 64)) = ji10 := hj4
      have hji10z : (ji8) ≤ 64 → (IntKind.i64.wrap (1 * 2 ^ (ji8).toNat)) = ji10 := shl_small hj4
      have hji10u : (IntKind.i64.wrap (2 ^ min (ji8).toNat 64)) = ji10 := by have h_ := hji10_; rw [Int.one_mul] at h_; exact h_
      have hji10v : (ji8) ≤ 64 → (IntKind.i64.wrap (2 ^ (ji8).toNat)) = ji10 := fun hle_ => by have h_ := hji10z hle_; rw [Int.one_mul] at h_; exact h_
      have hji10y : (wrap64 (1 * 2 ^ min (ji8).toNat 64)) = ji10 := (i64_w _).symm.trans hji10_
      have hji10x : (ji8) ≤ 64 → (wrap64 (1 * 2 ^ (ji8).toNat)) = ji10 := fun h_ => (i64_w _).symm.trans (hji10z h_)
      by_cases c11 : x5_1.length < 17592186044416
      ·rw [if_pos c11] at H
       have LMc11 := am_ c11
       clear c11
       obtain ⟨y273, hy273⟩ : ∃ y_ : List Int, y_ = (x5_1 ++ [IntKind.u64.wrap (Go.bits .and .i64 (ji7) (wrap64 ((ji10) - 1)))]) := ⟨_, rfl⟩
       replace H : (spec_l7Of.l0 k1 a1 y273 (wrap64 (x6_1 + 1)) a0_0 a0_1 l0_2 l0_3) = some r := by first | (rw [hy273]; with_reducible exact H) | (have H2_ := (Option.bind_some _ _).symm.trans H; rw [hy273]; with_reducible exact H2_) | (have H2_ := (Option.bind_some _ _).symm.trans H; with_reducible exact H2_) | with_reducible exact H | (rw [hy273]; exact H) | exact H
       have Ny273 := am_ hy273
       clear hy273
       have H' := am_ H
       clear H
       have hcz12_0 := Sh.bc BK272.out 0
       have hcz12_1 := Sh.bc BK272.out 1
       have hcz12_2 := Sh.bc BK272.out 2
       have hcz12_3 := Sh.bc BK272.out 3
       have hfz12_0 := blk_frozen BK272.out 0
       have hfz12_1 := blk_frozen BK272.out 1
       have hfz12_2 := blk_frozen BK272.out 2
       have hfz12_3 := blk_frozen BK272.out 3
       go_wp2_with (first | ((with_reducible refine gate_builtin (b := .append) (xs := #[.tmp 13, .tmp 28]) rfl ?_); at_builtin; refine Kd.R_append (Kd.int .u64) (w0 := w) w.heap.size rfl (.tmp 13) (.tmp 28) 71 77 (.int .u64 0) 8 rfl Tryz.underlying71 info77 rfl (by decide) (by omega) u5 x5_1 (IntKind.u64.wrap (Go.bits .and .i64 (ji7) (wrap64 ((ji10) - 1)))) [.int .u64 (IntKind.u64.wrap (Go.bits .and .i64 (ji7) (wrap64 ((ji10) - 1))))] (fun _ => True) (fun _ => False) rfl rfl ?aP (fun _ hk => hk.elim) ?aF ?aO ?aB ?aS ?aL ?_; (case aP => exact rfl); (case aB => exact Sh.bw); (case aF => exact (fun _ _ => trivial)); (case aO => exact (Sh.rl HO_5.out)); (case aS => exact (below_size Sh.bw)); (case aL => have := LMc11.out; omega); intro v274 w13 ho hb hg hat; rw [← Ny273.out] at ho; have n0_ := am_ (blk_grown (g := gb272) (o := .cells #[.int .i64 a0_0, .int .i64 a0_1, .slice A0_2 l0_2.length c0_2, .slice A0_3 l0_3.length c0_3] 33 (0, 0)) (Sh.pl BK272.out) hg (Kd.R_ne HO_5.out BK272.out (by decide))); have n1_ := am_ hb; have n2_ := am_ ho; clear BK272; clear HB; clear HO_5; have BK272 := n0_; have HB := n1_; have HO275 := n2_; clear n0_ n1_ n2_; clear ho hb hg hat))
       go_roundg k1
       case measure => have := HK1.out; omega
       case rel => exact ⟨(y273), (wrap64 (x6_1 + 1)), (Sh.es), H', ⟨by have := HK1.out; omega⟩, ⟨Sh.rl HO275.out⟩, ⟨by refine Sh.pl ?_; exact BK272.out⟩, ⟨Sh.bw⟩⟩
      ·rw [if_neg c11] at H
       cases H
     ·rw [if_neg c9] at H
      cases H
    ·rw [if_neg c6] at H
     cases H
   ·rw [if_neg c4] at H
    replace c4 := decide_eq_false c4
    obtain rfl := Option.some.inj H
    have hcz14_0 := Sh.bc BK272.out 0
    have hcz14_1 := Sh.bc BK272.out 1
    have hcz14_2 := Sh.bc BK272.out 2
    have hcz14_3 := Sh.bc BK272.out 3
    have hfz14_0 := blk_frozen BK272.out 0
    have hfz14_1 := blk_frozen BK272.out 1
    have hfz14_2 := blk_frozen BK272.out 2
    have hfz14_3 := blk_frozen BK272.out 3
    go_wp2
    go_ret
    exact ⟨_, Sh.eR, Sh.rl HO_5.out, Sh.bw⟩
def spec_l1Put.l0 : Nat → List Int → Int → Int → Option (List Int)
 | 0, _, _, _ => none
 | k + 1, x0, x1, x5 => if x5 < (x0.length : Int) then (if 0 ≤ x5 then (if (rd x0 x5) < x1 then (spec_l1Put.l0 k x0 x1 (wrap64 (x5 + 1))) else (if (rd x0 x5) = x1 then (some x0) else ((some (([] : List Int) : List Int)).bind fun y287 => (if x5 ≤ (x0.length : Int) then ((some (x0.take (x5 : Int).toNat : List Int)).bind fun y290 => (if y287.length + y290.length < 17592186044416 then ((some (y287 ++ y290 : List Int)).bind fun y294 => (if y294.length < 17592186044416 then ((some (y294 ++ [x1] : List Int)).bind fun y297 => ((some (x0.drop (x5 : Int).toNat : List Int)).bind fun y300 => (if y297.length + y300.length < 17592186044416 then (some (y297 ++ y300)) else (none)))) else (none))) else (none))) else (none))))) else (none)) else ((some (([] : List Int) : List Int)).bind fun y307 => (if 0 ≤ x5 then (if x5 ≤ (x0.length : Int) then ((some (x0.take (x5 : Int).toNat : List Int)).bind fun y310 => (if y307.length + y310.length < 17592186044416 then ((some (y307 ++ y310 : List Int)).bind fun y314 => (if y314.length < 17592186044416 then ((some (y314 ++ [x1] : List Int)).bind fun y317 => ((some (x0.drop (x5 : Int).toNat : List Int)).bind fun y320 => (if y317.length + y320.length < 17592186044416 then (some (y317 ++ y320)) else (none)))) else (none))) else (none))) else (none)) else (none)))
def spec_l1Put.f (k : Nat) (l0 : List Int) (a1 : Int) : Option (List Int) := spec_l1Put.l0 k l0 a1 0
theorem spec_l1Put.mono_l : ∀ k, (∀ y0 y1 y2, LeO (spec_l1Put.l0 k y0 y1 y2) (spec_l1Put.l0 (k + 1) y0 y1 y2))
 | 0 => fun _ _ _ r h => by simp [spec_l1Put.l0] at h
 | k + 1 => by
  have ih0 := spec_l1Put.mono_l k
  ·intro y0 y1 y2
   unfold spec_l1Put.l0
   repeat' with_reducible first | apply ih0 | exact LeO.refl _ | exact LeO.none _ | apply LeO.ite | refine LeO.bind ?_ fun _ => ?_
theorem spec_l1Put.mono : ∀ a0 a1 k, LeO (spec_l1Put.f k a0 a1) (spec_l1Put.f (k + 1) a0 a1) := by
 intro a0 a1 k
 have ih0 := spec_l1Put.mono_l k
 unfold spec_l1Put.f
 repeat' with_reducible first | apply ih0 | exact LeO.refl _ | exact LeO.none _ | apply LeO.ite | refine LeO.bind ?_ fun _ => ?_
theorem spec_l1Put.calls (k : Nat) (P0_ : Nat → Prop) (u9000_ : Value) (l0 : List Int) (a1 : Int) (r : List Int) (w0 w : World) (hB : Below w0.heap.size w0 w) (ho0 : Kd.R (Kd.int .i64) 3 w w0.heap.size P0_ u9000_ l0) (h : spec_l1Put.f k l0 a1 = some r) :
  Calls Tryz.prog 85 #[u9000_, .int .i64 a1] w fun e w' => ∃ v0_ : Value, e = .returned (v0_) ∧ Kd.R (Kd.int .i64) 3 w' w0.heap.size (fun k_ => (P0_ k_ ∨ w.heap.size ≤ k_)) v0_ r ∧ Below w0.heap.size w0 w' ∧ Kept w w' (fun k_ => P0_ k_) := by
 have HO0 := am_ (show Kd.R (Kd.int .i64) 3 w w0.heap.size (fun k_ => (P0_ k_ ∨ w.heap.size ≤ k_)) u9000_ l0 from Kd.R_mono ho0 (fun k_ hk => (.inl hk)))
 have HK := am_ (Kept.refl w (fun k_ => P0_ k_))
 have HW0 := am_ hB.size
 have HB := am_ hB
 clear hB
 have H := h
 clear h
 unfold spec_l1Put.f at H
 have H' := am_ H
 clear H
 go_enter Tryz.func85, Tryz.ntmps85
 go_wp2
 go_loopg [5] k (fun kq v5 w' => ∃ (x5_1 : Int), v5 = .int .i64 x5_1 ∧ Aside0 (spec_l1Put.l0 kq l0 a1 x5_1 = some r) ∧ Aside0 (kq ≤ k) ∧ Aside0 (Kd.R (Kd.int .i64) 3 w' w0.heap.size (fun k_ => (P0_ k_ ∨ w.heap.size ≤ k_)) u9000_ l0) ∧ Aside0 (Kept w w' (fun k_ => P0_ k_)) ∧ Aside0 (Below w0.heap.size w0 w'))
 case atStart => exact ⟨(0), (Sh.es), H', ⟨Nat.le_refl _⟩, ⟨Sh.rl HO0.out⟩, ⟨by repeat (first | (with_reducible first | exact HK.out | apply Kept.alloc | apply Kept.drewN | apply Kept.drew) | exact HK.out)⟩, ⟨Sh.bw⟩⟩
 case round =>
  clear H'
  obtain ⟨x5_1, rfl, HA, HK1, HO_0, HK, HB⟩ := hrel
  cases gk with
  | zero => exact absurd HA.out (by simp [spec_l1Put.l0])
  | succ k1 =>
   have H := HA.out
   clear HA
   simp only [spec_l1Put.l0] at H
   by_cases c3 : x5_1 < (l0.length : Int)
   ·rw [if_pos c3] at H
    replace c3 := decide_eq_true c3
    by_cases c4 : 0 ≤ x5_1
    ·rw [if_pos c4] at H
     replace c4 := decide_eq_true c4
     by_cases c5 : (rd l0 x5_1) < a1
     ·rw [if_pos c5] at H
      replace c5 := decide_eq_true c5
      have H' := am_ H
      clear H
      obtain ⟨Ao6, co6, eo6⟩ := Kd.R_slice HO_0.out
      subst eo6
      have p285 : 0 ≤ (x5_1 : Int) := Sh.od
      have q285 : x5_1 < (l0.length : Int) := Sh.od
      obtain ⟨ad285, e285, hx285_0⟩ := Kd.at_int (Kd.R_reads' HO_0.out).2.2 x5_1 p285 q285
      cases e285
      replace p285 := eq_true p285
      replace q285 := eq_true q285
      go_wp2
      go_roundg k1
      case measure => have := HK1.out; omega
      case rel => exact ⟨(wrap64 (x5_1 + 1)), (Sh.es), H', ⟨by have := HK1.out; omega⟩, ⟨Sh.rl HO_0.out⟩, ⟨by repeat (first | (with_reducible first | exact HK.out | apply Kept.alloc | apply Kept.drewN | apply Kept.drew) | exact HK.out)⟩, ⟨Sh.bw⟩⟩
     ·rw [if_neg c5] at H
      replace c5 := decide_eq_false c5
      by_cases c7 : (rd l0 x5_1) = a1
      ·rw [if_pos c7] at H
       have c7b0 : ((rd l0 x5_1) == a1) = true := beq_iff_eq.mpr c7
       have c7b1 : ((rd l0 x5_1) != a1) = false := bne_eq_false_iff_eq.mpr c7
       clear c7
       obtain rfl := Option.some.inj H
       obtain ⟨Ao8, co8, eo8⟩ := Kd.R_slice HO_0.out
       subst eo8
       have p285 : 0 ≤ (x5_1 : Int) := Sh.od
       have q285 : x5_1 < (l0.length : Int) := Sh.od
       obtain ⟨ad285, e285, hx285_0⟩ := Kd.at_int (Kd.R_reads' HO_0.out).2.2 x5_1 p285 q285
       cases e285
       replace p285 := eq_true p285
       replace q285 := eq_true q285
       have p286 : 0 ≤ (x5_1 : Int) := Sh.od
       have q286 : x5_1 < (l0.length : Int) := Sh.od
       obtain ⟨ad286, e286, hx286_0⟩ := Kd.at_int (Kd.R_reads' HO_0.out).2.2 x5_1 p286 q286
       obtain rfl : ad285 = ad286 := (by injection e286)
       replace p286 := eq_true p286
       replace q286 := eq_true q286
       go_wp2
       go_ret
       exact ⟨_, Sh.eR, Sh.rl HO_0.out, Sh.bw, by repeat (first | (with_reducible first | exact HK.out | apply Kept.alloc | apply Kept.drewN | apply Kept.drew) | exact HK.out)⟩
      ·rw [if_neg c7] at H
       have c7b0 : ((rd l0 x5_1) == a1) = false := beq_eq_false_iff_ne.mpr c7
       have c7b1 : ((rd l0 x5_1) != a1) = true := bne_iff_ne.mpr c7
       obtain ⟨y287, hy287⟩ : ∃ y_ : List Int, y_ = (([] : List Int)) := ⟨_, rfl⟩
       replace H : (if x5_1 ≤ (l0.length : Int) then ((some (l0.take (x5_1 : Int).toNat : List Int)).bind fun y290 => (if y287.length + y290.length < 17592186044416 then ((some (y287 ++ y290 : List Int)).bind fun y294 => (if y294.length < 17592186044416 then ((some (y294 ++ [a1] : List Int)).bind fun y297 => ((some (l0.drop (x5_1 : Int).toNat : List Int)).bind fun y300 => (if y297.length + y300.length < 17592186044416 then (some (y297 ++ y300)) else (none)))) else (none))) else (none))) else (none)) = some r := by first | (rw [hy287]; with_reducible exact H) | (have H2_ := (Option.bind_some _ _).symm.trans H; rw [hy287]; with_reducible exact H2_) | (have H2_ := (Option.bind_some _ _).symm.trans H; with_reducible exact H2_) | with_reducible exact H | (rw [hy287]; exact H) | exact H
       have Ny287 := am_ hy287
       clear hy287
       have c9b0 := eq_true (of_decide_eq_true (by first | (with_reducible assumption) | assumption) : 0 ≤ x5_1)
       by_cases c10 : x5_1 ≤ (l0.length : Int)
       ·rw [if_pos c10] at H
        have c10b0 := eq_true c10
        have c10b1 := decide_eq_true c10
        clear c10
        obtain ⟨y290, hy290⟩ : ∃ y_ : List Int, y_ = (l0.take (x5_1 : Int).toNat) := ⟨_, rfl⟩
        replace H : (if y287.length + y290.length < 17592186044416 then ((some (y287 ++ y290 : List Int)).bind fun y294 => (if y294.length < 17592186044416 then ((some (y294 ++ [a1] : List Int)).bind fun y297 => ((some (l0.drop (x5_1 : Int).toNat : List Int)).bind fun y300 => (if y297.length + y300.length < 17592186044416 then (some (y297 ++ y300)) else (none)))) else (none))) else (none)) = some r := by first | (rw [hy290]; with_reducible exact H) | (have H2_ := (Option.bind_some _ _).symm.trans H; rw [hy290]; with_reducible exact H2_) | (have H2_ := (Option.bind_some _ _).symm.trans H; with_reducible exact H2_) | with_reducible exact H | (rw [hy290]; exact H) | exact H
        have Ny290 := am_ hy290
        clear hy290
        by_cases c11 : y287.length + y290.length < 17592186044416
        ·rw [if_pos c11] at H
         have LMc11 := am_ c11
         clear c11
         obtain ⟨y294, hy294⟩ : ∃ y_ : List Int, y_ = (y287 ++ y290) := ⟨_, rfl⟩
         replace H : (if y294.length < 17592186044416 then ((some (y294 ++ [a1] : List Int)).bind fun y297 => ((some (l0.drop (x5_1 : Int).toNat : List Int)).bind fun y300 => (if y297.length + y300.length < 17592186044416 then (some (y297 ++ y300)) else (none)))) else (none)) = some r := by first | (rw [hy294]; with_reducible exact H) | (have H2_ := (Option.bind_some _ _).symm.trans H; rw [hy294]; with_reducible exact H2_) | (have H2_ := (Option.bind_some _ _).symm.trans H; with_reducible exact H2_) | with_reducible exact H | (rw [hy294]; exact H) | exact H
         have Ny294 := am_ hy294
         clear hy294
         by_cases c12 : y294.length < 17592186044416
         ·rw [if_pos c12] at H
          have LMc12 := am_ c12
          clear c12
          obtain ⟨y297, hy297⟩ : ∃ y_ : List Int, y_ = (y294 ++ [a1]) := ⟨_, rfl⟩
          replace H : ((some (l0.drop (x5_1 : Int).toNat : List Int)).bind fun y300 => (if y297.length + y300.length < 17592186044416 then (some (y297 ++ y300)) else (none))) = some r := by first | (rw [hy297]; with_reducible exact H) | (have H2_ := (Option.bind_some _ _).symm.trans H; rw [hy297]; with_reducible exact H2_) | (have H2_ := (Option.bind_some _ _).symm.trans H; with_reducible exact H2_) | with_reducible exact H | (rw [hy297]; exact H) | exact H
          have Ny297 := am_ hy297
          clear hy297
          have c13b0 := eq_true (of_decide_eq_true (by first | (with_reducible assumption) | assumption) : 0 ≤ x5_1)
          have c14b0 := eq_true (of_decide_eq_true (by first | (with_reducible assumption) | assumption) : x5_1 ≤ (l0.length : Int))
          obtain ⟨y300, hy300⟩ : ∃ y_ : List Int, y_ = (l0.drop (x5_1 : Int).toNat) := ⟨_, rfl⟩
          replace H : (if y297.length + y300.length < 17592186044416 then (some (y297 ++ y300)) else (none)) = some r := by first | (rw [hy300]; with_reducible exact H) | (have H2_ := (Option.bind_some _ _).symm.trans H; rw [hy300]; with_reducible exact H2_) | (have H2_ := (Option.bind_some _ _).symm.trans H; with_reducible exact H2_) | with_reducible exact H | (rw [hy300]; exact H) | exact H
          have Ny300 := am_ hy300
          clear hy300
          by_cases c15 : y297.length + y300.length < 17592186044416
          ·rw [if_pos c15] at H
           have LMc15 := am_ c15
           clear c15
           obtain ⟨y304, hy304⟩ : ∃ y_ : List Int, y_ = (y297 ++ y300) := ⟨_, rfl⟩
           replace H : (some y304) = some r := by first | (rw [hy304]; with_reducible exact H) | (have H2_ := (Option.bind_some _ _).symm.trans H; rw [hy304]; with_reducible exact H2_) | (have H2_ := (Option.bind_some _ _).symm.trans H; with_reducible exact H2_) | with_reducible exact H | (rw [hy304]; exact H) | exact H
           have Ny304 := am_ hy304
           clear hy304
           obtain rfl := Option.some.inj H
           obtain ⟨Ao16, co16, eo16⟩ := Kd.R_slice HO_0.out
           subst eo16
           have p285 : 0 ≤ (x5_1 : Int) := Sh.od
           have q285 : x5_1 < (l0.length : Int) := Sh.od
           obtain ⟨ad285, e285, hx285_0⟩ := Kd.at_int (Kd.R_reads' HO_0.out).2.2 x5_1 p285 q285
           cases e285
           replace p285 := eq_true p285
           replace q285 := eq_true q285
           have p286 : 0 ≤ (x5_1 : Int) := Sh.od
           have q286 : x5_1 < (l0.length : Int) := Sh.od
           obtain ⟨ad286, e286, hx286_0⟩ := Kd.at_int (Kd.R_reads' HO_0.out).2.2 x5_1 p286 q286
           obtain rfl : ad285 = ad286 := (by injection e286)
           replace p286 := eq_true p286
           replace q286 := eq_true q286
           go_wp2_with (first | ((with_reducible refine Sh.d 34 ?_); refine Kd.R_lit (Kd.int .i64) _ 3 ?hg (N := 34) ?hd (xs := ([] : List Int)) (inner := []) (ok := fun _ => True) (okp := fun _ => True) ?hr ?hp (fun _ hk => hk) trivial (Below.refl _ _) (Nat.le_refl _) (by simp) ?_; (case hd => rfl); (case hg => rfl); (case hr => first | (go_simp; done) | (go_simp; rfl)); (case hp => exact (Reps.none _ _)); intro v288 w17 ho18 hb hg_ hnew_; clear hg_ hnew_; (first | rw [← Ny287.out] at ho18 | (simp only [Int.reduceToNat] at ho18; rw [← Ny287.out] at ho18)); have HO289 := am_ (Kd.R_lower (Kd.R_new' (Kd.R_newM (M := fun k_ => (P0_ k_ ∨ w.heap.size ≤ k_)) ho18 (by first | exact HK.out.1 | exact (show Kept w _ (fun k_ => P0_ k_) from by repeat (first | (with_reducible first | exact HK.out | apply Kept.alloc | apply Kept.drewN | apply Kept.drew) | exact HK.out)).1) (fun k_ h_ => .inr h_)) (Kd.R_lt (Sh.rl HO_0.out))) (below_size Sh.bw)); replace HO_0 := am_ (Kd.R_elder' (Sh.rl HO_0.out) (Kd.R_base ho18) hb); replace HK := am_ (Kept.below (S := (fun k_ => P0_ k_)) (by repeat (first | (with_reducible first | exact HK.out | apply Kept.alloc | apply Kept.drewN | apply Kept.drew) | exact HK.out)) hb); replace HB := Sh.hb hb; clear hb ho18; have q19 : (x5_1 : Int) ≤ ((l0.length : Int) : Int) := Sh.od; obtain ⟨i019, hi019, _, hsz19, _⟩ := info_parts info3; have hroom19 : l0.length ≤ co16 := (Kd.R_reads' HO_0.out).2.1; have hC19 : Kd.C (Kd.int .i64) _ (some ad285) l0.length l0 := (Kd.R_reads' HO_0.out).2.2; have hcut19 := cut_to (P := Tryz.prog) 27 3 .i64 Tryz.underlying27 hi019 (some ad285) l0.length co16 x5_1 (of_decide_eq_true (by first | (with_reducible assumption) | assumption)) q19 hroom19; have hr19 := Kd.C_take (m := (x5_1 : Int).toNat) hC19 (by omega); have hy19 : y290.length = (x5_1 : Int).toNat := (by rw [Ny290.out, List.length_take]; omega); rw [← Ny290.out] at hr19; rw [← hy19] at hcut19; have HR293 := am_ hr19; have HC293 := am_ (show y290.length ≤ co16 from by omega); clear hr19 hC19 hroom19 hi019 hsz19; have KY19 := am_ hy19; clear hy19; have KL19 := am_ (show (x5_1 : Int).toNat ≤ l0.length from by omega); replace q19 := eq_true q19) | ((with_reducible refine gate_builtin (b := .append) (xs := #[.tmp 34, .tmp 37]) rfl ?_); at_builtin; refine Kd.R_append_rows (Kd.int .i64) (w0 := w0) w0.heap.size rfl (.tmp 34) (.tmp 37) 27 3 (.int .i64 0) 8 rfl Tryz.underlying27 info3 rfl (by decide) (by omega) v288 y287 y290 _ _ _ (fun k_ => (P0_ k_ ∨ w.heap.size ≤ k_) ∧ some k_ ≠ (.slice (some ad285) l0.length co16 : Value).ownBlock) (fun _ => False) rfl rfl ?aO ?aR (fun _ _ h => h) (fun _ h => h.elim) ?aF ?aB ?aS ?aL ?_; (case aR => repeat (first | exact (by repeat (first | (with_reducible exact HR293.out) | (with_reducible first | refine Kd.C_alloc ?_ _ | refine Kd.C_drewN ?_ _ | refine Kd.C_drew ?_) | exact HR293.out)) | (with_reducible first | refine Kd.C_alloc ?_ _ | refine Kd.C_drewN ?_ _ | refine Kd.C_drew ?_))); (case aB => exact Sh.bw); (case aF => exact (fun k_ hk => ⟨(.inr (Nat.le_trans (by first | exact HK.out.1 | exact (show Kept w _ (fun k_ => P0_ k_) from by repeat (first | (with_reducible first | exact HK.out | apply Kept.alloc | apply Kept.drewN | apply Kept.drew) | exact HK.out)).1) hk)), Kd.fresh' (Kd.R_lt (Sh.rl HO_0.out)) k_ hk⟩)); (case aO => exact (Sh.rl (Kd.R_mono HO289.out (fun _ h => ⟨h.1.1, h.2⟩)))); (case aS => exact (below_size Sh.bw)); (case aL => have := LMc11.out; omega); intro v295 w20 ho hb hg hat; rw [← Ny294.out] at ho; have n0_ := am_ (Kd.R_after (ok := (fun k_ => (P0_ k_ ∨ w.heap.size ≤ k_))) (Sh.rl HO_0.out) hg hat); have n1_ := am_ hb; have n2_ := am_ (Kept.of_grown (S := (fun k_ => P0_ k_)) hg (by repeat (first | (with_reducible first | exact HK.out | apply Kept.alloc | apply Kept.drewN | apply Kept.drew) | exact HK.out)) (fun k_ e_ => (HO289.out.1 k_ e_).1.1)); have n3_ := am_ ((show Kd.C (Kd.int .i64) w20 (some ad285) y290.length y290 from by rw [Ny290.out]; exact Kd.C_take (m := (x5_1 : Int).toNat) ((Kd.R_reads' (Kd.R_after (ok := (fun k_ => (P0_ k_ ∨ w.heap.size ≤ k_))) (Sh.rl HO_0.out) hg hat)).2.2) KL19.out)); have n4_ := am_ ho; clear HO_0; clear HB; clear HK; clear HR293; clear HO289; have HO_0 := n0_; have HB := n1_; have HK := n2_; have HR293 := n3_; have HO296 := n4_; clear n0_ n1_ n2_ n3_ n4_; clear ho hb hg hat) | ((with_reducible refine gate_builtin (b := .append) (xs := #[.tmp 39, .tmp 41]) rfl ?_); at_builtin; refine Kd.R_append (Kd.int .i64) (w0 := w0) w0.heap.size rfl (.tmp 39) (.tmp 41) 27 3 (.int .i64 0) 8 rfl Tryz.underlying27 info3 rfl (by decide) (by omega) v295 y294 a1 [.int .i64 a1] (fun k_ => (P0_ k_ ∨ w.heap.size ≤ k_) ∧ some k_ ≠ (.slice (some ad285) l0.length co16 : Value).ownBlock) (fun _ => False) rfl rfl ?aP (fun _ hk => hk.elim) ?aF ?aO ?aB ?aS ?aL ?_; (case aP => exact rfl); (case aB => exact Sh.bw); (case aF => exact (fun k_ hk => ⟨(.inr (Nat.le_trans (by first | exact HK.out.1 | exact (show Kept w _ (fun k_ => P0_ k_) from by repeat (first | (with_reducible first | exact HK.out | apply Kept.alloc | apply Kept.drewN | apply Kept.drew) | exact HK.out)).1) hk)), Kd.fresh' (Kd.R_lt (Sh.rl HO_0.out)) k_ hk⟩)); (case aO => exact (Sh.rl HO296.out)); (case aS => exact (below_size Sh.bw)); (case aL => have := LMc12.out; omega); intro v298 w21 ho hb hg hat; rw [← Ny297.out] at ho; have n0_ := am_ (Kd.R_after (ok := (fun k_ => (P0_ k_ ∨ w.heap.size ≤ k_))) (Sh.rl HO_0.out) hg hat); have n1_ := am_ hb; have n2_ := am_ (Kept.of_grown (S := (fun k_ => P0_ k_)) hg (by repeat (first | (with_reducible first | exact HK.out | apply Kept.alloc | apply Kept.drewN | apply Kept.drew) | exact HK.out)) (fun k_ e_ => (HO296.out.1 k_ e_).1)); have n3_ := am_ ((show Kd.C (Kd.int .i64) w21 (some ad285) y290.length y290 from by rw [Ny290.out]; exact Kd.C_take (m := (x5_1 : Int).toNat) ((Kd.R_reads' (Kd.R_after (ok := (fun k_ => (P0_ k_ ∨ w.heap.size ≤ k_))) (Sh.rl HO_0.out) hg hat)).2.2) KL19.out)); have n4_ := am_ ho; clear HO_0; clear HB; clear HK; clear HR293; clear HO296; have HO_0 := n0_; have HB := n1_; have HK := n2_; have HR293 := n3_; have HO299 := n4_; clear n0_ n1_ n2_ n3_ n4_; clear ho hb hg hat; have q22 : (x5_1 : Int) ≤ ((l0.length : Int) : Int) := Sh.od; obtain ⟨i022, hi022, _, hsz22, _⟩ := info_parts info3; have hroom22 : l0.length ≤ co16 := (Kd.R_reads' HO_0.out).2.1; have hC22 : Kd.C (Kd.int .i64) _ (some ad285) l0.length l0 := (Kd.R_reads' HO_0.out).2.2; have q022 : (0 : Int) ≤ (x5_1 : Int) := Sh.od; have hcut22 := cut_from (P := Tryz.prog) 27 3 .i64 Tryz.underlying27 hi022 1 hsz22 (some ad285) l0.length co16 x5_1 q022 q22; have hr22 := Kd.C_drop (m := (x5_1 : Int).toNat) (c := co16) hC22 (by omega) hroom22; obtain ⟨A22, hA22⟩ : ∃ A1, A1 = (if co16 = (x5_1 : Int).toNat then (some ad285) else ((some ad285) : Option Addr).map (·.add ((x5_1 : Int).toNat * 1))) := ⟨_, rfl⟩; obtain ⟨c22, hc22⟩ : ∃ c1, c1 = co16 - (x5_1 : Int).toNat := ⟨_, rfl⟩; have hy22 : y300.length = l0.length - (x5_1 : Int).toNat := (by rw [Ny300.out, List.length_drop] <;> omega); rw [show (l0).drop (x5_1 : Int).toNat = y300 from Ny300.out.symm] at hr22; replace hr22 : Kd.C (Kd.int .i64) _ A22 y300.length y300 := (by rw [hA22]; exact hr22); rw [← hy22, ← hA22, ← hc22] at hcut22; have HR303 := am_ hr22; have HC303 := am_ (show y300.length ≤ c22 from by rw [hy22, hc22]; exact Nat.sub_le_sub_right hroom22 _); clear hr22 hC22 hroom22 hi022 hsz22 hc22; have KY22 := am_ hy22; have KA22 := am_ hA22; clear hy22 hA22; have KL22 := am_ (show (x5_1 : Int).toNat ≤ l0.length from by omega); replace q22 := eq_true q22) | ((with_reducible refine gate_builtin (b := .append) (xs := #[.tmp 43, .tmp 46]) rfl ?_); at_builtin; refine Kd.R_append_rows (Kd.int .i64) (w0 := w0) w0.heap.size rfl (.tmp 43) (.tmp 46) 27 3 (.int .i64 0) 8 rfl Tryz.underlying27 info3 rfl (by decide) (by omega) v298 y297 y300 _ _ _ (fun k_ => (P0_ k_ ∨ w.heap.size ≤ k_) ∧ some k_ ≠ (.slice (some ad285) l0.length co16 : Value).ownBlock) (fun _ => False) rfl rfl ?aO ?aR (fun _ _ h => h) (fun _ h => h.elim) ?aF ?aB ?aS ?aL ?_; (case aR => repeat (first | exact (by repeat (first | (with_reducible exact HR303.out) | (with_reducible first | refine Kd.C_alloc ?_ _ | refine Kd.C_drewN ?_ _ | refine Kd.C_drew ?_) | exact HR303.out)) | (with_reducible first | refine Kd.C_alloc ?_ _ | refine Kd.C_drewN ?_ _ | refine Kd.C_drew ?_))); (case aB => exact Sh.bw); (case aF => exact (fun k_ hk => ⟨(.inr (Nat.le_trans (by first | exact HK.out.1 | exact (show Kept w _ (fun k_ => P0_ k_) from by repeat (first | (with_reducible first | exact HK.out | apply Kept.alloc | apply Kept.drewN | apply Kept.drew) | exact HK.out)).1) hk)), Kd.fresh' (Kd.R_lt (Sh.rl HO_0.out)) k_ hk⟩)); (case aO => exact (Sh.rl HO299.out)); (case aS => exact (below_size Sh.bw)); (case aL => have := LMc15.out; omega); intro v305 w23 ho hb hg hat; rw [← Ny304.out] at ho; have n0_ := am_ (Kd.R_after (ok := (fun k_ => (P0_ k_ ∨ w.heap.size ≤ k_))) (Sh.rl HO_0.out) hg hat); have n1_ := am_ hb; have n2_ := am_ (Kept.of_grown (S := (fun k_ => P0_ k_)) hg (by repeat (first | (with_reducible first | exact HK.out | apply Kept.alloc | apply Kept.drewN | apply Kept.drew) | exact HK.out)) (fun k_ e_ => (HO299.out.1 k_ e_).1)); have n3_ := am_ ((show Kd.C (Kd.int .i64) w23 (some ad285) y290.length y290 from by rw [Ny290.out]; exact Kd.C_take (m := (x5_1 : Int).toNat) ((Kd.R_reads' (Kd.R_after (ok := (fun k_ => (P0_ k_ ∨ w.heap.size ≤ k_))) (Sh.rl HO_0.out) hg hat)).2.2) KL19.out)); have n4_ := am_ ((show Kd.C (Kd.int .i64) w23 A22 y300.length y300 from by rw [Ny300.out, KA22.out]; exact Kd.C_drop (m := (x5_1 : Int).toNat) (c := co16) ((Kd.R_reads' (Kd.R_after (ok := (fun k_ => (P0_ k_ ∨ w.heap.size ≤ k_))) (Sh.rl HO_0.out) hg hat)).2.2) KL22.out ((Kd.R_reads' (Kd.R_after (ok := (fun k_ => (P0_ k_ ∨ w.heap.size ≤ k_))) (Sh.rl HO_0.out) hg hat)).2.1))); have n5_ := am_ ho; clear HO_0; clear HB; clear HK; clear HR293; clear HR303; clear HO299; have HO_0 := n0_; have HB := n1_; have HK := n2_; have HR293 := n3_; have HR303 := n4_; have HO306 := n5_; clear n0_ n1_ n2_ n3_ n4_ n5_; clear ho hb hg hat))
           go_ret
           exact ⟨_, Sh.eR, Sh.rl (Kd.R_mono HO306.out (fun _ hk => hk.1)), Sh.bw, by repeat (first | (with_reducible first | exact HK.out | apply Kept.alloc | apply Kept.drewN | apply Kept.drew) | exact HK.out)⟩
          ·rw [if_neg c15] at H
           cases H
         ·rw [if_neg c12] at H
          cases H
        ·rw [if_neg c11] at H
         cases H
       ·rw [if_neg c10] at H
        cases H
    ·rw [if_neg c4] at H
     cases H
   ·rw [if_neg c3] at H
    replace c3 := decide_eq_false c3
    obtain ⟨y307, hy307⟩ : ∃ y_ : List Int, y_ = (([] : List Int)) := ⟨_, rfl⟩
    replace H : (if 0 ≤ x5_1 then (if x5_1 ≤ (l0.length : Int) then ((some (l0.take (x5_1 : Int).toNat : List Int)).bind fun y310 => (if y307.length + y310.length < 17592186044416 then ((some (y307 ++ y310 : List Int)).bind fun y314 => (if y314.length < 17592186044416 then ((some (y314 ++ [a1] : List Int)).bind fun y317 => ((some (l0.drop (x5_1 : Int).toNat : List Int)).bind fun y320 => (if y317.length + y320.length < 17592186044416 then (some (y317 ++ y320)) else (none)))) else (none))) else (none))) else (none)) else (none)) = some r := by first | (rw [hy307]; with_reducible exact H) | (have H2_ := (Option.bind_some _ _).symm.trans H; rw [hy307]; with_reducible exact H2_) | (have H2_ := (Option.bind_some _ _).symm.trans H; with_reducible exact H2_) | with_reducible exact H | (rw [hy307]; exact H) | exact H
    have Ny307 := am_ hy307
    clear hy307
    by_cases c24 : 0 ≤ x5_1
    ·rw [if_pos c24] at H
     have c24b0 := eq_true c24
     have c24b1 := decide_eq_true c24
     clear c24
     by_cases c25 : x5_1 ≤ (l0.length : Int)
     ·rw [if_pos c25] at H
      have c25b0 := eq_true c25
      have c25b1 := decide_eq_true c25
      clear c25
      obtain ⟨y310, hy310⟩ : ∃ y_ : List Int, y_ = (l0.take (x5_1 : Int).toNat) := ⟨_, rfl⟩
      replace H : (if y307.length + y310.length < 17592186044416 then ((some (y307 ++ y310 : List Int)).bind fun y314 => (if y314.length < 17592186044416 then ((some (y314 ++ [a1] : List Int)).bind fun y317 => ((some (l0.drop (x5_1 : Int).toNat : List Int)).bind fun y320 => (if y317.length + y320.length < 17592186044416 then (some (y317 ++ y320)) else (none)))) else (none))) else (none)) = some r := by first | (rw [hy310]; with_reducible exact H) | (have H2_ := (Option.bind_some _ _).symm.trans H; rw [hy310]; with_reducible exact H2_) | (have H2_ := (Option.bind_some _ _).symm.trans H; with_reducible exact H2_) | with_reducible exact H | (rw [hy310]; exact H) | exact H
      have Ny310 := am_ hy310
      clear hy310
      by_cases c26 : y307.length + y310.length < 17592186044416
      ·rw [if_pos c26] at H
       have LMc26 := am_ c26
       clear c26
       obtain ⟨y314, hy314⟩ : ∃ y_ : List Int, y_ = (y307 ++ y310) := ⟨_, rfl⟩
       replace H : (if y314.length < 17592186044416 then ((some (y314 ++ [a1] : List Int)).bind fun y317 => ((some (l0.drop (x5_1 : Int).toNat : List Int)).bind fun y320 => (if y317.length + y320.length < 17592186044416 then (some (y317 ++ y320)) else (none)))) else (none)) = some r := by first | (rw [hy314]; with_reducible exact H) | (have H2_ := (Option.bind_some _ _).symm.trans H; rw [hy314]; with_reducible exact H2_) | (have H2_ := (Option.bind_some _ _).symm.trans H; with_reducible exact H2_) | with_reducible exact H | (rw [hy314]; exact H) | exact H
       have Ny314 := am_ hy314
       clear hy314
       by_cases c27 : y314.length < 17592186044416
       ·rw [if_pos c27] at H
        have LMc27 := am_ c27
        clear c27
        obtain ⟨y317, hy317⟩ : ∃ y_ : List Int, y_ = (y314 ++ [a1]) := ⟨_, rfl⟩
        replace H : ((some (l0.drop (x5_1 : Int).toNat : List Int)).bind fun y320 => (if y317.length + y320.length < 17592186044416 then (some (y317 ++ y320)) else (none))) = some r := by first | (rw [hy317]; with_reducible exact H) | (have H2_ := (Option.bind_some _ _).symm.trans H; rw [hy317]; with_reducible exact H2_) | (have H2_ := (Option.bind_some _ _).symm.trans H; with_reducible exact H2_) | with_reducible exact H | (rw [hy317]; exact H) | exact H
        have Ny317 := am_ hy317
        clear hy317
        have c28b0 := eq_true (of_decide_eq_true (by first | (with_reducible assumption) | assumption) : 0 ≤ x5_1)
        have c29b0 := eq_true (of_decide_eq_true (by first | (with_reducible assumption) | assumption) : x5_1 ≤ (l0.length : Int))
        obtain ⟨y320, hy320⟩ : ∃ y_ : List Int, y_ = (l0.drop (x5_1 : Int).toNat) := ⟨_, rfl⟩
        replace H : (if y317.length + y320.length < 17592186044416 then (some (y317 ++ y320)) else (none)) = some r := by first | (rw [hy320]; with_reducible exact H) | (have H2_ := (Option.bind_some _ _).symm.trans H; rw [hy320]; with_reducible exact H2_) | (have H2_ := (Option.bind_some _ _).symm.trans H; with_reducible exact H2_) | with_reducible exact H | (rw [hy320]; exact H) | exact H
        have Ny320 := am_ hy320
        clear hy320
        by_cases c30 : y317.length + y320.length < 17592186044416
        ·rw [if_pos c30] at H
         have LMc30 := am_ c30
         clear c30
         obtain ⟨y324, hy324⟩ : ∃ y_ : List Int, y_ = (y317 ++ y320) := ⟨_, rfl⟩
         replace H : (some y324) = some r := by first | (rw [hy324]; with_reducible exact H) | (have H2_ := (Option.bind_some _ _).symm.trans H; rw [hy324]; with_reducible exact H2_) | (have H2_ := (Option.bind_some _ _).symm.trans H; with_reducible exact H2_) | with_reducible exact H | (rw [hy324]; exact H) | exact H
         have Ny324 := am_ hy324
         clear hy324
         obtain rfl := Option.some.inj H
         obtain ⟨Ao31, co31, eo31⟩ := Kd.R_slice HO_0.out
         subst eo31
         go_wp2_with (first | ((with_reducible refine Sh.d 34 ?_); refine Kd.R_lit (Kd.int .i64) _ 3 ?hg (N := 34) ?hd (xs := ([] : List Int)) (inner := []) (ok := fun _ => True) (okp := fun _ => True) ?hr ?hp (fun _ hk => hk) trivial (Below.refl _ _) (Nat.le_refl _) (by simp) ?_; (case hd => rfl); (case hg => rfl); (case hr => first | (go_simp; done) | (go_simp; rfl)); (case hp => exact (Reps.none _ _)); intro v308 w32 ho33 hb hg_ hnew_; clear hg_ hnew_; (first | rw [← Ny307.out] at ho33 | (simp only [Int.reduceToNat] at ho33; rw [← Ny307.out] at ho33)); have HO309 := am_ (Kd.R_lower (Kd.R_new' (Kd.R_newM (M := fun k_ => (P0_ k_ ∨ w.heap.size ≤ k_)) ho33 (by first | exact HK.out.1 | exact (show Kept w _ (fun k_ => P0_ k_) from by repeat (first | (with_reducible first | exact HK.out | apply Kept.alloc | apply Kept.drewN | apply Kept.drew) | exact HK.out)).1) (fun k_ h_ => .inr h_)) (Kd.R_lt (Sh.rl HO_0.out))) (below_size Sh.bw)); replace HO_0 := am_ (Kd.R_elder' (Sh.rl HO_0.out) (Kd.R_base ho33) hb); replace HK := am_ (Kept.below (S := (fun k_ => P0_ k_)) (by repeat (first | (with_reducible first | exact HK.out | apply Kept.alloc | apply Kept.drewN | apply Kept.drew) | exact HK.out)) hb); replace HB := Sh.hb hb; clear hb ho33; have q34 : (x5_1 : Int) ≤ ((l0.length : Int) : Int) := Sh.od; obtain ⟨i034, hi034, _, hsz34, _⟩ := info_parts info3; have hroom34 : l0.length ≤ co31 := (Kd.R_reads' HO_0.out).2.1; have hC34 : Kd.C (Kd.int .i64) _ Ao31 l0.length l0 := (Kd.R_reads' HO_0.out).2.2; have hcut34 := cut_to (P := Tryz.prog) 27 3 .i64 Tryz.underlying27 hi034 Ao31 l0.length co31 x5_1 (of_decide_eq_true (by first | (with_reducible assumption) | assumption)) q34 hroom34; have hr34 := Kd.C_take (m := (x5_1 : Int).toNat) hC34 (by omega); have hy34 : y310.length = (x5_1 : Int).toNat := (by rw [Ny310.out, List.length_take]; omega); rw [← Ny310.out] at hr34; rw [← hy34] at hcut34; have HR313 := am_ hr34; have HC313 := am_ (show y310.length ≤ co31 from by omega); clear hr34 hC34 hroom34 hi034 hsz34; have KY34 := am_ hy34; clear hy34; have KL34 := am_ (show (x5_1 : Int).toNat ≤ l0.length from by omega); replace q34 := eq_true q34) | ((with_reducible refine gate_builtin (b := .append) (xs := #[.tmp 34, .tmp 37]) rfl ?_); at_builtin; refine Kd.R_append_rows (Kd.int .i64) (w0 := w0) w0.heap.size rfl (.tmp 34) (.tmp 37) 27 3 (.int .i64 0) 8 rfl Tryz.underlying27 info3 rfl (by decide) (by omega) v308 y307 y310 _ _ _ (fun k_ => (P0_ k_ ∨ w.heap.size ≤ k_) ∧ some k_ ≠ (.slice Ao31 l0.length co31 : Value).ownBlock) (fun _ => False) rfl rfl ?aO ?aR (fun _ _ h => h) (fun _ h => h.elim) ?aF ?aB ?aS ?aL ?_; (case aR => repeat (first | exact (by repeat (first | (with_reducible exact HR313.out) | (with_reducible first | refine Kd.C_alloc ?_ _ | refine Kd.C_drewN ?_ _ | refine Kd.C_drew ?_) | exact HR313.out)) | (with_reducible first | refine Kd.C_alloc ?_ _ | refine Kd.C_drewN ?_ _ | refine Kd.C_drew ?_))); (case aB => exact Sh.bw); (case aF => exact (fun k_ hk => ⟨(.inr (Nat.le_trans (by first | exact HK.out.1 | exact (show Kept w _ (fun k_ => P0_ k_) from by repeat (first | (with_reducible first | exact HK.out | apply Kept.alloc | apply Kept.drewN | apply Kept.drew) | exact HK.out)).1) hk)), Kd.fresh' (Kd.R_lt (Sh.rl HO_0.out)) k_ hk⟩)); (case aO => exact (Sh.rl (Kd.R_mono HO309.out (fun _ h => ⟨h.1.1, h.2⟩)))); (case aS => exact (below_size Sh.bw)); (case aL => have := LMc26.out; omega); intro v315 w35 ho hb hg hat; rw [← Ny314.out] at ho; have n0_ := am_ (Kd.R_after (ok := (fun k_ => (P0_ k_ ∨ w.heap.size ≤ k_))) (Sh.rl HO_0.out) hg hat); have n1_ := am_ hb; have n2_ := am_ (Kept.of_grown (S := (fun k_ => P0_ k_)) hg (by repeat (first | (with_reducible first | exact HK.out | apply Kept.alloc | apply Kept.drewN | apply Kept.drew) | exact HK.out)) (fun k_ e_ => (HO309.out.1 k_ e_).1.1)); have n3_ := am_ ((show Kd.C (Kd.int .i64) w35 Ao31 y310.length y310 from by rw [Ny310.out]; exact Kd.C_take (m := (x5_1 : Int).toNat) ((Kd.R_reads' (Kd.R_after (ok := (fun k_ => (P0_ k_ ∨ w.heap.size ≤ k_))) (Sh.rl HO_0.out) hg hat)).2.2) KL34.out)); have n4_ := am_ ho; clear HO_0; clear HB; clear HK; clear HR313; clear HO309; have HO_0 := n0_; have HB := n1_; have HK := n2_; have HR313 := n3_; have HO316 := n4_; clear n0_ n1_ n2_ n3_ n4_; clear ho hb hg hat) | ((with_reducible refine gate_builtin (b := .append) (xs := #[.tmp 39, .tmp 41]) rfl ?_); at_builtin; refine Kd.R_append (Kd.int .i64) (w0 := w0) w0.heap.size rfl (.tmp 39) (.tmp 41) 27 3 (.int .i64 0) 8 rfl Tryz.underlying27 info3 rfl (by decide) (by omega) v315 y314 a1 [.int .i64 a1] (fun k_ => (P0_ k_ ∨ w.heap.size ≤ k_) ∧ some k_ ≠ (.slice Ao31 l0.length co31 : Value).ownBlock) (fun _ => False) rfl rfl ?aP (fun _ hk => hk.elim) ?aF ?aO ?aB ?aS ?aL ?_; (case aP => exact rfl); (case aB => exact Sh.bw); (case aF => exact (fun k_ hk => ⟨(.inr (Nat.le_trans (by first | exact HK.out.1 | exact (show Kept w _ (fun k_ => P0_ k_) from by repeat (first | (with_reducible first | exact HK.out | apply Kept.alloc | apply Kept.drewN | apply Kept.drew) | exact HK.out)).1) hk)), Kd.fresh' (Kd.R_lt (Sh.rl HO_0.out)) k_ hk⟩)); (case aO => exact (Sh.rl HO316.out)); (case aS => exact (below_size Sh.bw)); (case aL => have := LMc27.out; omega); intro v318 w36 ho hb hg hat; rw [← Ny317.out] at ho; have n0_ := am_ (Kd.R_after (ok := (fun k_ => (P0_ k_ ∨ w.heap.size ≤ k_))) (Sh.rl HO_0.out) hg hat); have n1_ := am_ hb; have n2_ := am_ (Kept.of_grown (S := (fun k_ => P0_ k_)) hg (by repeat (first | (with_reducible first | exact HK.out | apply Kept.alloc | apply Kept.drewN | apply Kept.drew) | exact HK.out)) (fun k_ e_ => (HO316.out.1 k_ e_).1)); have n3_ := am_ ((show Kd.C (Kd.int .i64) w36 Ao31 y310.length y310 from by rw [Ny310.out]; exact Kd.C_take (m := (x5_1 : Int).toNat) ((Kd.R_reads' (Kd.R_after (ok := (fun k_ => (P0_ k_ ∨ w.heap.size ≤ k_))) (Sh.rl HO_0.out) hg hat)).2.2) KL34.out)); have n4_ := am_ ho; clear HO_0; clear HB; clear HK; clear HR313; clear HO316; have HO_0 := n0_; have HB := n1_; have HK := n2_; have HR313 := n3_; have HO319 := n4_; clear n0_ n1_ n2_ n3_ n4_; clear ho hb hg hat; have q37 : (x5_1 : Int) ≤ ((l0.length : Int) : Int) := Sh.od; obtain ⟨i037, hi037, _, hsz37, _⟩ := info_parts info3; have hroom37 : l0.length ≤ co31 := (Kd.R_reads' HO_0.out).2.1; have hC37 : Kd.C (Kd.int .i64) _ Ao31 l0.length l0 := (Kd.R_reads' HO_0.out).2.2; have q037 : (0 : Int) ≤ (x5_1 : Int) := Sh.od; have hcut37 := cut_from (P := Tryz.prog) 27 3 .i64 Tryz.underlying27 hi037 1 hsz37 Ao31 l0.length co31 x5_1 q037 q37; have hr37 := Kd.C_drop (m := (x5_1 : Int).toNat) (c := co31) hC37 (by omega) hroom37; obtain ⟨A37, hA37⟩ : ∃ A1, A1 = (if co31 = (x5_1 : Int).toNat then Ao31 else (Ao31 : Option Addr).map (·.add ((x5_1 : Int).toNat * 1))) := ⟨_, rfl⟩; obtain ⟨c37, hc37⟩ : ∃ c1, c1 = co31 - (x5_1 : Int).toNat := ⟨_, rfl⟩; have hy37 : y320.length = l0.length - (x5_1 : Int).toNat := (by rw [Ny320.out, List.length_drop] <;> omega); rw [show (l0).drop (x5_1 : Int).toNat = y320 from Ny320.out.symm] at hr37; replace hr37 : Kd.C (Kd.int .i64) _ A37 y320.length y320 := (by rw [hA37]; exact hr37); rw [← hy37, ← hA37, ← hc37] at hcut37; have HR323 := am_ hr37; have HC323 := am_ (show y320.length ≤ c37 from by rw [hy37, hc37]; exact Nat.sub_le_sub_right hroom37 _); clear hr37 hC37 hroom37 hi037 hsz37 hc37; have KY37 := am_ hy37; have KA37 := am_ hA37; clear hy37 hA37; have KL37 := am_ (show (x5_1 : Int).toNat ≤ l0.length from by omega); replace q37 := eq_true q37) | ((with_reducible refine gate_builtin (b := .append) (xs := #[.tmp 43, .tmp 46]) rfl ?_); at_builtin; refine Kd.R_append_rows (Kd.int .i64) (w0 := w0) w0.heap.size rfl (.tmp 43) (.tmp 46) 27 3 (.int .i64 0) 8 rfl Tryz.underlying27 info3 rfl (by decide) (by omega) v318 y317 y320 _ _ _ (fun k_ => (P0_ k_ ∨ w.heap.size ≤ k_) ∧ some k_ ≠ (.slice Ao31 l0.length co31 : Value).ownBlock) (fun _ => False) rfl rfl ?aO ?aR (fun _ _ h => h) (fun _ h => h.elim) ?aF ?aB ?aS ?aL ?_; (case aR => repeat (first | exact (by repeat (first | (with_reducible exact HR323.out) | (with_reducible first | refine Kd.C_alloc ?_ _ | refine Kd.C_drewN ?_ _ | refine Kd.C_drew ?_) | exact HR323.out)) | (with_reducible first | refine Kd.C_alloc ?_ _ | refine Kd.C_drewN ?_ _ | refine Kd.C_drew ?_))); (case aB => exact Sh.bw); (case aF => exact (fun k_ hk => ⟨(.inr (Nat.le_trans (by first | exact HK.out.1 | exact (show Kept w _ (fun k_ => P0_ k_) from by repeat (first | (with_reducible first | exact HK.out | apply Kept.alloc | apply Kept.drewN | apply Kept.drew) | exact HK.out)).1) hk)), Kd.fresh' (Kd.R_lt (Sh.rl HO_0.out)) k_ hk⟩)); (case aO => exact (Sh.rl HO319.out)); (case aS => exact (below_size Sh.bw)); (case aL => have := LMc30.out; omega); intro v325 w38 ho hb hg hat; rw [← Ny324.out] at ho; have n0_ := am_ (Kd.R_after (ok := (fun k_ => (P0_ k_ ∨ w.heap.size ≤ k_))) (Sh.rl HO_0.out) hg hat); have n1_ := am_ hb; have n2_ := am_ (Kept.of_grown (S := (fun k_ => P0_ k_)) hg (by repeat (first | (with_reducible first | exact HK.out | apply Kept.alloc | apply Kept.drewN | apply Kept.drew) | exact HK.out)) (fun k_ e_ => (HO319.out.1 k_ e_).1)); have n3_ := am_ ((show Kd.C (Kd.int .i64) w38 Ao31 y310.length y310 from by rw [Ny310.out]; exact Kd.C_take (m := (x5_1 : Int).toNat) ((Kd.R_reads' (Kd.R_after (ok := (fun k_ => (P0_ k_ ∨ w.heap.size ≤ k_))) (Sh.rl HO_0.out) hg hat)).2.2) KL34.out)); have n4_ := am_ ((show Kd.C (Kd.int .i64) w38 A37 y320.length y320 from by rw [Ny320.out, KA37.out]; exact Kd.C_drop (m := (x5_1 : Int).toNat) (c := co31) ((Kd.R_reads' (Kd.R_after (ok := (fun k_ => (P0_ k_ ∨ w.heap.size ≤ k_))) (Sh.rl HO_0.out) hg hat)).2.2) KL37.out ((Kd.R_reads' (Kd.R_after (ok := (fun k_ => (P0_ k_ ∨ w.heap.size ≤ k_))) (Sh.rl HO_0.out) hg hat)).2.1))); have n5_ := am_ ho; clear HO_0; clear HB; clear HK; clear HR313; clear HR323; clear HO319; have HO_0 := n0_; have HB := n1_; have HK := n2_; have HR313 := n3_; have HR323 := n4_; have HO326 := n5_; clear n0_ n1_ n2_ n3_ n4_ n5_; clear ho hb hg hat))
         go_ret
         exact ⟨_, Sh.eR, Sh.rl (Kd.R_mono HO326.out (fun _ hk => hk.1)), Sh.bw, by repeat (first | (with_reducible first | exact HK.out | apply Kept.alloc | apply Kept.drewN | apply Kept.drew) | exact HK.out)⟩
        ·rw [if_neg c30] at H
         cases H
       ·rw [if_neg c27] at H
        cases H
      ·rw [if_neg c26] at H
       cases H
     ·rw [if_neg c25] at H
      cases H
    ·rw [if_neg c24] at H
     cases H
def spec_l1Own.f (l0 : List Int) : Option (List Int) := (some (([] : List Int) : List Int)).bind fun y327 => (if y327.length + l0.length < 17592186044416 then (some (y327 ++ l0)) else (none))
theorem spec_l1Own.calls (A0 : Option Addr) (c0 : Nat) (l0 : List Int) (r : List Int) (w : World) (hr0 : Kd.C (Kd.int .i64) w A0 l0.length l0) (hc0 : l0.length ≤ c0) (h : spec_l1Own.f l0 = some r) :
  Calls Tryz.prog 104 #[.slice A0 l0.length c0] w fun e w' => ∃ v0_ : Value, e = .returned (v0_) ∧ Kd.R (Kd.int .i64) 3 w' w.heap.size (fun _ => True) v0_ r ∧ Below w.heap.size w w' := by
 have HR0 := am_ hr0
 have HC0 := am_ hc0
 clear hr0 hc0
 have HB := am_ (Below.refl w.heap.size w)
 have H := h
 clear h
 unfold spec_l1Own.f at H
 obtain ⟨y327, hy327⟩ : ∃ y_ : List Int, y_ = (([] : List Int)) := ⟨_, rfl⟩
 replace H : (if y327.length + l0.length < 17592186044416 then (some (y327 ++ l0)) else (none)) = some r := by first | (rw [hy327]; with_reducible exact H) | (have H2_ := (Option.bind_some _ _).symm.trans H; rw [hy327]; with_reducible exact H2_) | (have H2_ := (Option.bind_some _ _).symm.trans H; with_reducible exact H2_) | with_reducible exact H | (rw [hy327]; exact H) | exact H
 have Ny327 := am_ hy327
 clear hy327
 by_cases c2 : y327.length + l0.length < 17592186044416
 ·rw [if_pos c2] at H
  have LMc2 := am_ c2
  clear c2
  obtain ⟨y330, hy330⟩ : ∃ y_ : List Int, y_ = (y327 ++ l0) := ⟨_, rfl⟩
  replace H : (some y330) = some r := by first | (rw [hy330]; with_reducible exact H) | (have H2_ := (Option.bind_some _ _).symm.trans H; rw [hy330]; with_reducible exact H2_) | (have H2_ := (Option.bind_some _ _).symm.trans H; with_reducible exact H2_) | with_reducible exact H | (rw [hy330]; exact H) | exact H
  have Ny330 := am_ hy330
  clear hy330
  obtain rfl := Option.some.inj H
  go_enter Tryz.func104, Tryz.ntmps104
  go_wp2_with (first | ((with_reducible refine Sh.d 3 ?_); refine Kd.R_lit (Kd.int .i64) _ 3 ?hg (N := 3) ?hd (xs := ([] : List Int)) (inner := []) (ok := fun _ => True) (okp := fun _ => True) ?hr ?hp (fun _ hk => hk) trivial (Below.refl _ _) (Nat.le_refl _) (by simp) ?_; (case hd => rfl); (case hg => rfl); (case hr => first | (go_simp; done) | (go_simp; rfl)); (case hp => exact (Reps.none _ _)); intro v328 w3 ho4 hb hg_ hnew_; clear hg_ hnew_; (first | rw [← Ny327.out] at ho4 | (simp only [Int.reduceToNat] at ho4; rw [← Ny327.out] at ho4)); have HO329 := am_ (Kd.R_lower ho4 (below_size Sh.bw)); replace HB := Sh.hb hb; clear hb ho4) | ((with_reducible refine gate_builtin (b := .append) (xs := #[.tmp 3, .tmp 4]) rfl ?_); at_builtin; refine Kd.R_append_rows (Kd.int .i64) (w0 := w) w.heap.size rfl (.tmp 3) (.tmp 4) 27 3 (.int .i64 0) 8 rfl Tryz.underlying27 info3 rfl (by decide) (by omega) v328 y327 l0 _ _ _ (fun _ => True) (fun _ => False) rfl rfl ?aO ?aR (fun _ _ h => h) (fun _ h => h.elim) ?aF ?aB ?aS ?aL ?_; (case aR => repeat (first | exact (Kd.C_below HR0.out HB.out) | (with_reducible first | refine Kd.C_alloc ?_ _ | refine Kd.C_drewN ?_ _ | refine Kd.C_drew ?_))); (case aB => exact Sh.bw); (case aF => exact (fun _ _ => trivial)); (case aO => exact (Sh.rl HO329.out)); (case aS => exact (below_size Sh.bw)); (case aL => have := LMc2.out; omega); intro v331 w5 ho hb hg hat; rw [← Ny330.out] at ho; have n0_ := am_ hb; have n1_ := am_ ho; clear HB; clear HO329; have HB := n0_; have HO332 := n1_; clear n0_ n1_; clear ho hb hg hat))
  go_ret
  exact ⟨_, Sh.eR, Sh.rl HO332.out, Sh.bw⟩
 ·rw [if_neg c2] at H
  cases H
def spec_l7Enabled.l0 : Nat → List Int → List Int → List (S95) → Int → Int → Int → Int → List (S79) → List (S95) → Option (List Int)
 | 0, _, _, _, _, _, _, _, _, _ => none
 | k + 1, x1, x5, x9, x10, x11, x341000, x341001, x341002, x341003 => if x11 < x10 then (if 0 ≤ x11 then (if x11 < (x9.length : Int) then ((spec_l7Holds.f k x341000 x341001 x341002 x341003 ((rd_T95 x9 x11).f0) x1).bind fun t343 => (if t343 = true then (if x5.length < 17592186044416 then (spec_l7Enabled.l0 k x1 (x5 ++ [x11]) x9 x10 (wrap64 (x11 + 1)) x341000 x341001 x341002 x341003) else (none)) else (spec_l7Enabled.l0 k x1 x5 x9 x10 (wrap64 (x11 + 1)) x341000 x341001 x341002 x341003))) else (none)) else (none)) else (some x5)
def spec_l7Enabled.f (k : Nat) (a0_0 : Int) (a0_1 : Int) (l0_2 : List (S79)) (l0_3 : List (S95)) (l1 : List Int) : Option (List Int) := spec_l7Enabled.l0 k l1 ([] : List Int) l0_3 (l0_3.length : Int) 0 a0_0 a0_1 l0_2 l0_3
theorem spec_l7Enabled.mono_l : ∀ k, (∀ y0 y1 y2 y3 y4 y5 y6 y7 y8, LeO (spec_l7Enabled.l0 k y0 y1 y2 y3 y4 y5 y6 y7 y8) (spec_l7Enabled.l0 (k + 1) y0 y1 y2 y3 y4 y5 y6 y7 y8))
 | 0 => fun _ _ _ _ _ _ _ _ _ r h => by simp [spec_l7Enabled.l0] at h
 | k + 1 => by
  have ih0 := spec_l7Enabled.mono_l k
  ·intro y0 y1 y2 y3 y4 y5 y6 y7 y8
   unfold spec_l7Enabled.l0
   repeat' with_reducible first | apply ih0 | apply spec_l7Holds.mono | exact LeO.refl _ | exact LeO.none _ | apply LeO.ite | refine LeO.bind ?_ fun _ => ?_
theorem spec_l7Enabled.mono : ∀ a0 a1 a2 a3 a4 k, LeO (spec_l7Enabled.f k a0 a1 a2 a3 a4) (spec_l7Enabled.f (k + 1) a0 a1 a2 a3 a4) := by
 intro a0 a1 a2 a3 a4 k
 have ih0 := spec_l7Enabled.mono_l k
 unfold spec_l7Enabled.f
 repeat' with_reducible first | apply ih0 | apply spec_l7Holds.mono | exact LeO.refl _ | exact LeO.none _ | apply LeO.ite | refine LeO.bind ?_ fun _ => ?_
theorem spec_l7Enabled.calls (k : Nat) (a0_0 : Int) (a0_1 : Int) (A0_2 : Option Addr) (c0_2 : Nat) (l0_2 : List (S79)) (A0_3 : Option Addr) (c0_3 : Nat) (l0_3 : List (S95)) (A1 : Option Addr) (c1 : Nat) (l1 : List Int) (r : List Int) (w : World) (hr0_2 : Kd.C k79 w A0_2 l0_2.length l0_2) (hc0_2 : l0_2.length ≤ c0_2) (hr0_3 : Kd.C k95 w A0_3 l0_3.length l0_3) (hc0_3 : l0_3.length ≤ c0_3) (hr1 : Kd.C (Kd.int .u64) w A1 l1.length l1) (hc1 : l1.length ≤ c1) (h : spec_l7Enabled.f k a0_0 a0_1 l0_2 l0_3 l1 = some r) :
  Calls Tryz.prog 73 #[.agg #[.int .i64 a0_0, .int .i64 a0_1, .slice A0_2 l0_2.length c0_2, .slice A0_3 l0_3.length c0_3], .slice A1 l1.length c1] w fun e w' => ∃ v0_ : Value, e = .returned (v0_) ∧ Kd.R (Kd.int .i64) 3 w' w.heap.size (fun _ => True) v0_ r ∧ Below w.heap.size w w' := by
 have hu33 := Tryz.underlying33
 have hu95 := Tryz.underlying95
 have HR0_2 := am_ hr0_2
 have HC0_2 := am_ hc0_2
 clear hr0_2 hc0_2
 have HR0_3 := am_ hr0_3
 have HC0_3 := am_ hc0_3
 clear hr0_3 hc0_3
 have HR1 := am_ hr1
 have HC1 := am_ hc1
 clear hr1 hc1
 have HB := am_ (Below.refl w.heap.size w)
 have H := h
 clear h
 unfold spec_l7Enabled.f at H
 have H' := am_ H
 clear H
 go_enter Tryz.func73, Tryz.ntmps73
 go_wp2_with (first | ((with_reducible refine Sh.d 2 ?_); refine Sh.bz w (N := 2) (cs := #[.int .i64 a0_0, .int .i64 a0_1, .slice A0_2 l0_2.length c0_2, .slice A0_3 l0_3.length c0_3]) (t := 33) (h := ?_); clear HB; intro gb340 w3 BK340 GE340 HB; obtain ⟨hcz4_0, hcz4_1, hcz4_2, hcz4_3, hfz4_0, hfz4_1, hfz4_2, hfz4_3⟩ := Sh.b4 BK340.out))
 go_loopg [5, 11] k (fun kq v5 v11 w' => ∃ (x5_1 : List Int) (x11_1 : Int), v11 = .int .i64 x11_1 ∧ Aside0 (spec_l7Enabled.l0 kq l1 x5_1 l0_3 (l0_3.length : Int) x11_1 a0_0 a0_1 l0_2 l0_3 = some r) ∧ Aside0 (kq ≤ k) ∧ Aside0 (Kd.R (Kd.int .i64) 3 w' w.heap.size (fun _ => True) v5 x5_1) ∧ Aside0 (w'.heap[gb340]? = some (.cells #[.int .i64 a0_0, .int .i64 a0_1, (.slice A0_2 l0_2.length c0_2), (.slice A0_3 l0_3.length c0_3)] 33 (0, 0))) ∧ Aside0 (Below w.heap.size w w'))
 case atStart => exact ⟨(([] : List Int)), (0), (Sh.es), H', ⟨Nat.le_refl _⟩, ⟨by first | exact Kd.R_nil _ _ _ _ _ | exact Kd.N_nil _ _ _ _ _ | exact Kd.V_nil _ _ _ _ _ | exact Kd.Q_nil _ _ _ _ _ | exact Kd.S_nil _ _ _ _ _⟩, ⟨by refine Sh.pl ?_; exact BK340.out⟩, ⟨Sh.bw⟩⟩
 case round =>
  clear H'
  try clear hcz4_0
  try clear hcz4_1
  try clear hcz4_2
  try clear hcz4_3
  try clear hfz4_0
  try clear hfz4_1
  try clear hfz4_2
  try clear hfz4_3
  obtain ⟨x5_1, x11_1, rfl, HA, HK1, HO_5, BK340, HB⟩ := hrel
  cases gk with
  | zero => exact absurd HA.out (by simp [spec_l7Enabled.l0])
  | succ k1 =>
   have H := HA.out
   clear HA
   simp only [spec_l7Enabled.l0] at H
   by_cases c5 : x11_1 < (l0_3.length : Int)
   ·rw [if_pos c5] at H
    replace c5 := decide_eq_true c5
    by_cases c6 : 0 ≤ x11_1
    ·rw [if_pos c6] at H
     replace c6 := decide_eq_true c6
     by_cases c7 : x11_1 < (l0_3.length : Int)
     ·rw [if_pos c7] at H
      replace c7 := decide_eq_true c7
      obtain ⟨t343, A8, H⟩ := Sh.ba H
      by_cases c9 : t343 = true
      ·subst c9
       rw [if_pos rfl] at H
       by_cases c10 : x5_1.length < 17592186044416
       ·rw [if_pos c10] at H
        have LMc10 := am_ c10
        clear c10
        obtain ⟨y344, hy344⟩ : ∃ y_ : List Int, y_ = (x5_1 ++ [x11_1]) := ⟨_, rfl⟩
        replace H : (spec_l7Enabled.l0 k1 l1 y344 l0_3 (l0_3.length : Int) (wrap64 (x11_1 + 1)) a0_0 a0_1 l0_2 l0_3) = some r := by first | (rw [hy344]; with_reducible exact H) | (have H2_ := (Option.bind_some _ _).symm.trans H; rw [hy344]; with_reducible exact H2_) | (have H2_ := (Option.bind_some _ _).symm.trans H; with_reducible exact H2_) | with_reducible exact H | (rw [hy344]; exact H) | exact H
        have Ny344 := am_ hy344
        clear hy344
        have H' := am_ H
        clear H
        have p341 : 0 ≤ (x11_1 : Int) := Sh.od
        have q341 : x11_1 < (l0_3.length : Int) := Sh.od
        obtain ⟨ad341, A341_0, c341_0, A341_1, c341_1, e341, hx341_0, hx341_1, hl341_0, hi341_0, hl341_1, hi341_1⟩ := at_T95 HR0_3.out x11_1 p341 q341
        cases e341
        try replace hx341_0 := Sh.cw hx341_0
        try replace hx341_1 := Sh.cw hx341_1
        have HR341_0 := am_ hi341_0
        have HC341_0 := am_ hl341_0
        clear hi341_0 hl341_0
        have HR341_1 := am_ hi341_1
        have HC341_1 := am_ hl341_1
        clear hi341_1 hl341_1
        replace p341 := eq_true p341
        replace q341 := eq_true q341
        go_wp2_with (first | ((with_reducible refine Sh.d 7 ?_); refine Sh.bx (N := 7) (cs := #[.slice none 0 0, .slice none 0 0]) (t := 95) (h := ?_); intro gb342 hg w11 hbox hb; replace HO_5 := am_ (Kd.R_below (Sh.rl HO_5.out) hb); have BK342 := am_ hbox; have GE342 := Sh.ag w hg; replace HB := Sh.hb hb; have NB340_342 := am_ (Sh.nl hg BK340.out); have NB342_340 := am_ (Sh.ng hg BK340.out); replace BK340 := Sh.ab BK340 hb; clear hb hbox hg; have hnb12 := NB342_340.out; have hnc12 := NB340_342.out; obtain ⟨hcz13_0, hcz13_1, hfz13_0, hfz13_1⟩ := Sh.b2 BK342.out; obtain ⟨hcz14_0, hcz14_1, hcz14_2, hcz14_3, hfz14_0, hfz14_1, hfz14_2, hfz14_3⟩ := Sh.b4 BK340.out) | ((with_reducible refine Sh.k 60 ?_); refine Sh.gB (some 20) Tryz.func60 #[.agg #[.int .i64 a0_0, .int .i64 a0_1, .slice A0_2 l0_2.length c0_2, .slice (some ad341) l0_3.length c0_3], .slice A341_0 ((rd_T95 l0_3 x11_1).f0).length c341_0, .slice A1 l1.length c1] (spec_l7Holds.calls k1 a0_0 a0_1 _ _ l0_2 _ _ l0_3 _ _ ((rd_T95 l0_3 x11_1).f0) _ _ l1 true _ (Sh.cB HR0_2.out) HC0_2.out (Sh.cB HR0_3.out) HC0_3.out (Sh.cB HR341_0.out) HC341_0.out (Sh.cB HR1.out) HC1.out A8.out) fun w15 hb => ?_; have n0_ := am_ (Kd.R_below (Sh.rl (Kd.R_mono (Kd.R_far (p := ⟨gb342, 1, none⟩) (Kd.R_far (p := ⟨gb342, 0, none⟩) (Kd.R_types HO_5.out BK342.out (by decide)) (fun _ hk => hk.2) (.slice A341_0 ((rd_T95 l0_3 x11_1).f0).length c341_0)) (fun _ hk => hk.2) (.slice A341_1 ((rd_T95 l0_3 x11_1).f1).length c341_1)) (fun _ h_ => h_.1))) hb); have n1_ := am_ (blk_below (g := gb340) (o := .cells #[.int .i64 a0_0, .int .i64 a0_1, .slice A0_2 l0_2.length c0_2, .slice (some ad341) l0_3.length c0_3] 33 (0, 0)) (by refine Sh.pl ?_; refine blk_far ?_ NB340_342.out _; refine Sh.pl ?_; refine blk_far ?_ NB340_342.out _; refine Sh.pl ?_; exact BK340.out) hb); have n2_ := am_ (blk_below (g := gb342) (o := .cells #[.slice A341_0 ((rd_T95 l0_3 x11_1).f0).length c341_0, .slice A341_1 ((rd_T95 l0_3 x11_1).f1).length c341_1] 95 (0, 0)) (by refine Sh.pl ?_; refine blk_put (cs := #[.slice A341_0 ((rd_T95 l0_3 x11_1).f0).length c341_0, .slice none 0 0]) ?_ 1 _ rfl; refine Sh.pl ?_; refine blk_put (cs := #[.slice none 0 0, .slice none 0 0]) ?_ 0 _ rfl; refine Sh.pl ?_; exact BK342.out) hb); have n3_ := am_ (below_step Sh.bw hb); clear HO_5; clear BK340; clear BK342; clear HB; have HO_5 := n0_; have BK340 := n1_; have BK342 := n2_; have HB := n3_; clear n0_ n1_ n2_ n3_; (try clear hb); (try clear hk)) | ((with_reducible refine gate_builtin (b := .append) (xs := #[.tmp 21, .tmp 23]) rfl ?_); at_builtin; refine Kd.R_append (Kd.int .i64) (w0 := w) w.heap.size rfl (.tmp 21) (.tmp 23) 27 3 (.int .i64 0) 8 rfl Tryz.underlying27 info3 rfl (by decide) (by omega) u5 x5_1 x11_1 [.int .i64 x11_1] (fun _ => True) (fun _ => False) rfl rfl ?aP (fun _ hk => hk.elim) ?aF ?aO ?aB ?aS ?aL ?_; (case aP => exact rfl); (case aB => exact Sh.bw); (case aF => exact (fun _ _ => trivial)); (case aO => exact (Sh.rl HO_5.out)); (case aS => exact (below_size Sh.bw)); (case aL => have := LMc10.out; omega); intro v345 w16 ho hb hg hat; rw [← Ny344.out] at ho; have n0_ := am_ (blk_grown (g := gb340) (o := .cells #[.int .i64 a0_0, .int .i64 a0_1, .slice A0_2 l0_2.length c0_2, .slice (some ad341) l0_3.length c0_3] 33 (0, 0)) (Sh.pl BK340.out) hg (Kd.R_ne HO_5.out BK340.out (by decide))); have n1_ := am_ (blk_grown (g := gb342) (o := .cells #[.slice A341_0 ((rd_T95 l0_3 x11_1).f0).length c341_0, .slice A341_1 ((rd_T95 l0_3 x11_1).f1).length c341_1] 95 (0, 0)) (Sh.pl BK342.out) hg (Kd.R_ne HO_5.out BK342.out (by decide))); have n2_ := am_ hb; have n3_ := am_ ho; clear BK340; clear BK342; clear HB; clear HO_5; have BK340 := n0_; have BK342 := n1_; have HB := n2_; have HO346 := n3_; clear n0_ n1_ n2_ n3_; clear ho hb hg hat))
        go_roundg k1
        case measure => have := HK1.out; omega
        case rel => exact ⟨(y344), (wrap64 (x11_1 + 1)), (Sh.es), H', ⟨by have := HK1.out; omega⟩, ⟨Sh.rl HO346.out⟩, ⟨by refine Sh.pl ?_; exact BK340.out⟩, ⟨Sh.bw⟩⟩
       ·rw [if_neg c10] at H
        cases H
      ·replace c9 := Bool.eq_false_iff.mpr c9
       subst c9
       rw [Sh.nf] at H
       have H' := am_ H
       clear H
       have p341 : 0 ≤ (x11_1 : Int) := Sh.od
       have q341 : x11_1 < (l0_3.length : Int) := Sh.od
       obtain ⟨ad341, A341_0, c341_0, A341_1, c341_1, e341, hx341_0, hx341_1, hl341_0, hi341_0, hl341_1, hi341_1⟩ := at_T95 HR0_3.out x11_1 p341 q341
       cases e341
       try replace hx341_0 := Sh.cw hx341_0
       try replace hx341_1 := Sh.cw hx341_1
       have HR341_0 := am_ hi341_0
       have HC341_0 := am_ hl341_0
       clear hi341_0 hl341_0
       have HR341_1 := am_ hi341_1
       have HC341_1 := am_ hl341_1
       clear hi341_1 hl341_1
       replace p341 := eq_true p341
       replace q341 := eq_true q341
       go_wp2_with (first | ((with_reducible refine Sh.d 7 ?_); refine Sh.bx (N := 7) (cs := #[.slice none 0 0, .slice none 0 0]) (t := 95) (h := ?_); intro gb342 hg w17 hbox hb; replace HO_5 := am_ (Kd.R_below (Sh.rl HO_5.out) hb); have BK342 := am_ hbox; have GE342 := Sh.ag w hg; replace HB := Sh.hb hb; have NB340_342 := am_ (Sh.nl hg BK340.out); have NB342_340 := am_ (Sh.ng hg BK340.out); replace BK340 := Sh.ab BK340 hb; clear hb hbox hg; have hnb18 := NB342_340.out; have hnc18 := NB340_342.out; obtain ⟨hcz19_0, hcz19_1, hfz19_0, hfz19_1⟩ := Sh.b2 BK342.out; obtain ⟨hcz20_0, hcz20_1, hcz20_2, hcz20_3, hfz20_0, hfz20_1, hfz20_2, hfz20_3⟩ := Sh.b4 BK340.out) | ((with_reducible refine Sh.k 60 ?_); refine Sh.gB (some 20) Tryz.func60 #[.agg #[.int .i64 a0_0, .int .i64 a0_1, .slice A0_2 l0_2.length c0_2, .slice (some ad341) l0_3.length c0_3], .slice A341_0 ((rd_T95 l0_3 x11_1).f0).length c341_0, .slice A1 l1.length c1] (spec_l7Holds.calls k1 a0_0 a0_1 _ _ l0_2 _ _ l0_3 _ _ ((rd_T95 l0_3 x11_1).f0) _ _ l1 false _ (Sh.cB HR0_2.out) HC0_2.out (Sh.cB HR0_3.out) HC0_3.out (Sh.cB HR341_0.out) HC341_0.out (Sh.cB HR1.out) HC1.out A8.out) fun w21 hb => ?_; have n0_ := am_ (Kd.R_below (Sh.rl (Kd.R_mono (Kd.R_far (p := ⟨gb342, 1, none⟩) (Kd.R_far (p := ⟨gb342, 0, none⟩) (Kd.R_types HO_5.out BK342.out (by decide)) (fun _ hk => hk.2) (.slice A341_0 ((rd_T95 l0_3 x11_1).f0).length c341_0)) (fun _ hk => hk.2) (.slice A341_1 ((rd_T95 l0_3 x11_1).f1).length c341_1)) (fun _ h_ => h_.1))) hb); have n1_ := am_ (blk_below (g := gb340) (o := .cells #[.int .i64 a0_0, .int .i64 a0_1, .slice A0_2 l0_2.length c0_2, .slice (some ad341) l0_3.length c0_3] 33 (0, 0)) (by refine Sh.pl ?_; refine blk_far ?_ NB340_342.out _; refine Sh.pl ?_; refine blk_far ?_ NB340_342.out _; refine Sh.pl ?_; exact BK340.out) hb); have n2_ := am_ (blk_below (g := gb342) (o := .cells #[.slice A341_0 ((rd_T95 l0_3 x11_1).f0).length c341_0, .slice A341_1 ((rd_T95 l0_3 x11_1).f1).length c341_1] 95 (0, 0)) (by refine Sh.pl ?_; refine blk_put (cs := #[.slice A341_0 ((rd_T95 l0_3 x11_1).f0).length c341_0, .slice none 0 0]) ?_ 1 _ rfl; refine Sh.pl ?_; refine blk_put (cs := #[.slice none 0 0, .slice none 0 0]) ?_ 0 _ rfl; refine Sh.pl ?_; exact BK342.out) hb); have n3_ := am_ (below_step Sh.bw hb); clear HO_5; clear BK340; clear BK342; clear HB; have HO_5 := n0_; have BK340 := n1_; have BK342 := n2_; have HB := n3_; clear n0_ n1_ n2_ n3_; (try clear hb); (try clear hk)))
       go_roundg k1
       case measure => have := HK1.out; omega
       case rel => exact ⟨(x5_1), (wrap64 (x11_1 + 1)), (Sh.es), H', ⟨by have := HK1.out; omega⟩, ⟨Sh.rl HO_5.out⟩, ⟨by refine Sh.pl ?_; exact BK340.out⟩, ⟨Sh.bw⟩⟩
     ·rw [if_neg c7] at H
      cases H
    ·rw [if_neg c6] at H
     cases H
   ·rw [if_neg c5] at H
    replace c5 := decide_eq_false c5
    obtain rfl := Option.some.inj H
    go_wp2
    go_ret
    exact ⟨_, Sh.eR, Sh.rl HO_5.out, Sh.bw⟩
def spec_l7No.l0 : Nat → List Int → Int → Int → Int → Int → List (S79) → List (S95) → Option (Int)
 | 0, _, _, _, _, _, _, _ => none
 | k + 1, x1, x5, x6, x348000, x348001, x348002, x348003 => if x6 ≥ 0 then (if 0 ≤ (IntKind.u64.wrap (x348000)) then (if 0 ≤ x6 then (if x6 < (x1.length : Int) then (spec_l7No.l0 k x1 (wrap64 ((shl .i64 x5 (IntKind.u64.wrap (x348000))) + (wrap64 (rd x1 x6)))) (wrap64 (x6 - 1)) x348000 x348001 x348002 x348003) else (none)) else (none)) else (none)) else (some x5)
def spec_l7No.f (k : Nat) (a0_0 : Int) (a0_1 : Int) (l0_2 : List (S79)) (l0_3 : List (S95)) (l1 : List Int) : Option (Int) := spec_l7No.l0 k l1 0 (wrap64 (a0_1 - 1)) a0_0 a0_1 l0_2 l0_3
theorem spec_l7No.mono_l : ∀ k, (∀ y0 y1 y2 y3 y4 y5 y6, LeO (spec_l7No.l0 k y0 y1 y2 y3 y4 y5 y6) (spec_l7No.l0 (k + 1) y0 y1 y2 y3 y4 y5 y6))
 | 0 => fun _ _ _ _ _ _ _ r h => by simp [spec_l7No.l0] at h
 | k + 1 => by
  have ih0 := spec_l7No.mono_l k
  ·intro y0 y1 y2 y3 y4 y5 y6
   unfold spec_l7No.l0
   repeat' with_reducible first | apply ih0 | exact LeO.refl _ | exact LeO.none _ | apply LeO.ite | refine LeO.bind ?_ fun _ => ?_
theorem spec_l7No.mono : ∀ a0 a1 a2 a3 a4 k, LeO (spec_l7No.f k a0 a1 a2 a3 a4) (spec_l7No.f (k + 1) a0 a1 a2 a3 a4) := by
 intro a0 a1 a2 a3 a4 k
 have ih0 := spec_l7No.mono_l k
 unfold spec_l7No.f
 repeat' with_reducible first | apply ih0 | exact LeO.refl _ | exact LeO.none _ | apply LeO.ite | refine LeO.bind ?_ fun _ => ?_
theorem spec_l7No.calls (k : Nat) (a0_0 : Int) (a0_1 : Int) (A0_2 : Option Addr) (c0_2 : Nat) (l0_2 : List (S79)) (A0_3 : Option Addr) (c0_3 : Nat) (l0_3 : List (S95)) (A1 : Option Addr) (c1 : Nat) (l1 : List Int) (r : Int) (w : World) (hr0_2 : Kd.C k79 w A0_2 l0_2.length l0_2) (hc0_2 : l0_2.length ≤ c0_2) (hr0_3 : Kd.C k95 w A0_3 l0_3.length l0_3) (hc0_3 : l0_3.length ≤ c0_3) (hr1 : Kd.C (Kd.int .u64) w A1 l1.length l1) (hc1 : l1.length ≤ c1) (h : spec_l7No.f k a0_0 a0_1 l0_2 l0_3 l1 = some r) :
  Calls Tryz.prog 86 #[.agg #[.int .i64 a0_0, .int .i64 a0_1, .slice A0_2 l0_2.length c0_2, .slice A0_3 l0_3.length c0_3], .slice A1 l1.length c1] w fun e w' => e = .returned (.int .i64 r) ∧ Below w.heap.size w w' := by
 have hu33 := Tryz.underlying33
 have HR0_2 := am_ hr0_2
 have HC0_2 := am_ hc0_2
 clear hr0_2 hc0_2
 have HR0_3 := am_ hr0_3
 have HC0_3 := am_ hc0_3
 clear hr0_3 hc0_3
 have HR1 := am_ hr1
 have HC1 := am_ hc1
 clear hr1 hc1
 have HB := am_ (Below.refl w.heap.size w)
 have H := h
 clear h
 unfold spec_l7No.f at H
 have H' := am_ H
 clear H
 go_enter Tryz.func86, Tryz.ntmps86
 go_wp2_with (first | ((with_reducible refine Sh.d 2 ?_); refine Sh.bz w (N := 2) (cs := #[.int .i64 a0_0, .int .i64 a0_1, .slice A0_2 l0_2.length c0_2, .slice A0_3 l0_3.length c0_3]) (t := 33) (h := ?_); clear HB; intro gb347 w3 BK347 GE347 HB; obtain ⟨hcz4_0, hcz4_1, hcz4_2, hcz4_3, hfz4_0, hfz4_1, hfz4_2, hfz4_3⟩ := Sh.b4 BK347.out))
 repeat (go_quiet (first | ((with_reducible refine Sh.d 2 ?_); refine Sh.bz w (N := 2) (cs := #[.int .i64 a0_0, .int .i64 a0_1, .slice A0_2 l0_2.length c0_2, .slice A0_3 l0_3.length c0_3]) (t := 33) (h := ?_); clear HB; intro gb347 w3 BK347 GE347 HB; obtain ⟨hcz4_0, hcz4_1, hcz4_2, hcz4_3, hfz4_0, hfz4_1, hfz4_2, hfz4_3⟩ := Sh.b4 BK347.out)); try go_wp2_with (first | ((with_reducible refine Sh.d 2 ?_); refine Sh.bz w (N := 2) (cs := #[.int .i64 a0_0, .int .i64 a0_1, .slice A0_2 l0_2.length c0_2, .slice A0_3 l0_3.length c0_3]) (t := 33) (h := ?_); clear HB; intro gb347 w3 BK347 GE347 HB; obtain ⟨hcz4_0, hcz4_1, hcz4_2, hcz4_3, hfz4_0, hfz4_1, hfz4_2, hfz4_3⟩ := Sh.b4 BK347.out)))
 go_loopg [5, 6] k (fun kq v5 v6 w' => ∃ (x5_1 : Int) (x6_1 : Int), v5 = .int .i64 x5_1 ∧ v6 = .int .i64 x6_1 ∧ Aside0 (spec_l7No.l0 kq l1 x5_1 x6_1 a0_0 a0_1 l0_2 l0_3 = some r) ∧ Aside0 (kq ≤ k) ∧ Aside0 (w'.heap[gb347]? = some (.cells #[.int .i64 a0_0, .int .i64 a0_1, (.slice A0_2 l0_2.length c0_2), (.slice A0_3 l0_3.length c0_3)] 33 (0, 0))) ∧ Aside0 (Below w.heap.size w w'))
 case atStart => exact ⟨(0), (wrap64 (a0_1 - 1)), (Sh.es), (Sh.es), H', ⟨Nat.le_refl _⟩, ⟨by refine Sh.pl ?_; exact BK347.out⟩, ⟨Sh.bw⟩⟩
 case round =>
  clear H'
  try clear hcz4_0
  try clear hcz4_1
  try clear hcz4_2
  try clear hcz4_3
  try clear hfz4_0
  try clear hfz4_1
  try clear hfz4_2
  try clear hfz4_3
  obtain ⟨x5_1, x6_1, rfl, rfl, HA, HK1, BK347, HB⟩ := hrel
  cases gk with
  | zero => exact absurd HA.out (by simp [spec_l7No.l0])
  | succ k1 =>
   have H := HA.out
   clear HA
   simp only [spec_l7No.l0] at H
   by_cases c5 : x6_1 ≥ 0
   ·rw [if_pos c5] at H
    have c5b0 : decide (0 ≤ x6_1) = true := decide_eq_true c5
    clear c5
    obtain ⟨ji6, hj1⟩ : ∃ j_ : Int, (IntKind.u64.wrap (a0_0)) = j_ := ⟨_, rfl⟩
    replace H : (if 0 ≤ (ji6) then (if 0 ≤ x6_1 then (if x6_1 < (l1.length : Int) then (spec_l7No.l0 k1 l1 (wrap64 ((shl .i64 x5_1 (ji6)) + (wrap64 (rd l1 x6_1)))) (wrap64 (x6_1 - 1)) a0_0 a0_1 l0_2 l0_3) else (none)) else (none)) else (none)) = some r := by first | (rw [hj1] at H; exact H) | (simp only [hj1] at H ⊢; exact H)
    by_cases c7 : 0 ≤ (ji6)
    ·rw [if_pos c7] at H
     have c7b0 := eq_true c7
     have c7b1 := decide_eq_true c7
     clear c7
     obtain ⟨ji8, hj2⟩ : ∃ j_ : Int, (shl .i64 x5_1 (ji6)) = j_ := ⟨_, rfl⟩
     replace H : (if 0 ≤ x6_1 then (if x6_1 < (l1.length : Int) then (spec_l7No.l0 k1 l1 (wrap64 ((ji8) + (wrap64 (rd l1 x6_1)))) (wrap64 (x6_1 - 1)) a0_0 a0_1 l0_2 l0_3) else (none)) else (none)) = some r := by first | (rw [hj2] at H; exact H) | (simp only [hj2] at H ⊢; exact H)
     have hji8_ : (IntKind.i64.wrap (x5_1 * 2 ^ min (ji6).toNat 64)) = ji8 := hj2
     have hji8z : (ji6) ≤ 64 → (IntKind.i64.wrap (x5_1 * 2 ^ (ji6).toNat)) = ji8 := shl_small hj2
     have hji8y : (wrap64 (x5_1 * 2 ^ min (ji6).toNat 64)) = ji8 := (i64_w _).symm.trans hji8_
     have hji8x : (ji6) ≤ 64 → (wrap64 (x5_1 * 2 ^ (ji6).toNat)) = ji8 := fun h_ => (i64_w _).symm.trans (hji8z h_)
     by_cases c9 : 0 ≤ x6_1
     ·rw [if_pos c9] at H
      replace c9 := decide_eq_true c9
      by_cases c10 : x6_1 < (l1.length : Int)
      ·rw [if_pos c10] at H
       replace c10 := decide_eq_true c10
       have H' := am_ H
       clear H
       have hcz11_0 := Sh.bc BK347.out 0
       have hcz11_1 := Sh.bc BK347.out 1
       have hcz11_2 := Sh.bc BK347.out 2
       have hcz11_3 := Sh.bc BK347.out 3
       have hfz11_0 := blk_frozen BK347.out 0
       have hfz11_1 := blk_frozen BK347.out 1
       have hfz11_2 := blk_frozen BK347.out 2
       have hfz11_3 := blk_frozen BK347.out 3
       have p348 : 0 ≤ (x6_1 : Int) := Sh.od
       have q348 : x6_1 < (l1.length : Int) := Sh.od
       obtain ⟨ad348, e348, hx348_0⟩ := Kd.at_int HR1.out x6_1 p348 q348
       cases e348
       try replace hx348_0 := Sh.cw hx348_0
       replace p348 := eq_true p348
       replace q348 := eq_true q348
       go_wp2
       repeat (go_quiet (fail); try go_wp2)
       go_roundg k1
       case measure => have := HK1.out; omega
       case rel => exact ⟨(wrap64 ((ji8) + (wrap64 (rd l1 x6_1)))), (wrap64 (x6_1 - 1)), (by first | rfl | (simp; done) | (simp only [← hj2] <;> (first | rfl | simp)) | (simp [*]; done)), (Sh.es), H', ⟨by have := HK1.out; omega⟩, ⟨by refine Sh.pl ?_; exact BK347.out⟩, ⟨Sh.bw⟩⟩
      ·rw [if_neg c10] at H
       cases H
     ·rw [if_neg c9] at H
      cases H
    ·rw [if_neg c7] at H
     cases H
   ·rw [if_neg c5] at H
    have c5b0 : decide (0 ≤ x6_1) = false := decide_eq_false c5
    clear c5
    obtain rfl := Option.some.inj H
    go_wp2
    repeat (go_quiet (fail); try go_wp2)
    go_ret
    exact ⟨Sh.eR, Sh.bw⟩
end Go.Proofs.YtngefmofelengaaGreat.P
