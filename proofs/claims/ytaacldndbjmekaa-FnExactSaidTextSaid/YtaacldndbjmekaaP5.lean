/- Go functions of this seat as Lean functions, and the proofs that the calls come to what these say; printed by a program of this session. No condition. -/
import Derived.Test.YtaacldndbjmekaaP0
import Derived.Test.YtaacldndbjmekaaP2
import Derived.Test.YtaacldndbjmekaaP3
import Derived.Test.YtaacldndbjmekaaP4
namespace Go.Proofs.Ytaacldndbjmekaa.P
open Go.RowKit Go.Proofs.YtaacldndbjmekaaW.PrintWords Go.Proofs.YtaacldndbjmekaaW.PrintLast Go.Proofs.YtaacldndbjmekaaW.PrintMore Go.Proofs.Ytaacldndbjmekaa.Hof
attribute [local go_sem] max2_int min2_int max_two min_two max_three min_three max_four min_four   -- for this text's walks alone
set_option linter.unusedVariables false
set_option linter.unusedSimpArgs false

/-! ### spec_GoodSaid: function 37 -/
def spec_GoodSaid.l0 : Nat → Int → List (S59) → Int → Int → Option (Bool)
 | 0, _, _, _, _ => none
 | k + 1, x3, x11, x12, x13 => if x13 < x12 then (if 0 ≤ x13 then (if x13 < (x11.length : Int) then ((spec_l10Need.f k ((rd_T59 x11 x13).f0)).bind fun t107 => (if t107 < 0 then (some false) else ((spec_l10N.f ((rd_T59 x11 x13).f0) ((rd_T59 x11 x13).f1)).bind fun t108 => (if t108 = true then (if x3 < t107 then (some false) else (spec_GoodSaid.l0 k (wrap64 (x3 + (wrap64 (1 - t107)))) x11 x12 (wrap64 (x13 + 1)))) else (some false))))) else (none)) else (none)) else (some (x3 == 1))
def spec_GoodSaid.f (k : Nat) (l0 : List (S59)) : Option (Bool) := (spec_l1In.f (l0.length : Int) 1 16).bind fun t104 => (if t104 = true then (spec_GoodSaid.l0 k 0 l0 (l0.length : Int) 0) else (some false))
theorem spec_GoodSaid.mono_l : ∀ k, (∀ y0 y1 y2 y3, LeO (spec_GoodSaid.l0 k y0 y1 y2 y3) (spec_GoodSaid.l0 (k + 1) y0 y1 y2 y3))
 | 0 => fun _ _ _ _ r h => by simp [spec_GoodSaid.l0] at h
 | k + 1 => by
  have ih0 := spec_GoodSaid.mono_l k
  ·intro y0 y1 y2 y3
   unfold spec_GoodSaid.l0
   repeat' with_reducible first | apply ih0 | apply spec_l10Need.mono | exact LeO.refl _ | exact LeO.none _ | apply LeO.ite | refine LeO.bind ?_ fun _ => ?_
theorem spec_GoodSaid.mono : ∀ a0 k, LeO (spec_GoodSaid.f k a0) (spec_GoodSaid.f (k + 1) a0) := by
 intro a0 k
 have ih0 := spec_GoodSaid.mono_l k
 unfold spec_GoodSaid.f
 repeat' with_reducible first | apply ih0 | apply spec_l10Need.mono | exact LeO.refl _ | exact LeO.none _ | apply LeO.ite | refine LeO.bind ?_ fun _ => ?_
set_option maxHeartbeats 8000000 in
set_option maxRecDepth 100000 in
theorem spec_GoodSaid.calls (k : Nat) (A0 : Option Addr) (c0 : Nat) (l0 : List (S59)) (r : Bool) (w : World) (hr0 : Kd.C k59 w A0 l0.length l0) (hc0 : l0.length ≤ c0) (h : spec_GoodSaid.f k l0 = some r) :
  Calls Try.prog 37 #[.slice A0 l0.length c0] w fun e w' => e = .returned (.bool r) ∧ Below w.heap.size w w' := by
 have hu59 := Try.underlying59
 have HR0 := am_ hr0
 have HC0 := am_ hc0
 clear hr0 hc0
 have HB := am_ (Below.refl w.heap.size w)
 have H := h
 clear h
 unfold spec_GoodSaid.f at H
 obtain ⟨t104, A2, H⟩ := Sh.ba H
 by_cases c3 : t104 = true
 ·subst c3
  rw [if_pos rfl] at H
  have H' := am_ H
  clear H
  go_enter Try.func37, Try.ntmps37
  go_wp2_with (first | ((with_reducible refine Sh.k 45 ?_); refine Sh.gD (some 9) Try.func45 #[.int .i64 (l0.length : Int), .int .i64 1, .int .i64 16] (spec_l1In.calls (l0.length : Int) 1 16 true _ A2.out) fun nd => ?_))
  go_loopg [3, 13] k (fun kq v3 v13 w' => ∃ (x3_1 : Int) (x13_1 : Int), v3 = .int .i64 x3_1 ∧ v13 = .int .i64 x13_1 ∧ Aside0 (spec_GoodSaid.l0 kq x3_1 l0 (l0.length : Int) x13_1 = some r) ∧ Aside0 (kq ≤ k) ∧ Aside0 (Below w.heap.size w w'))
  case atStart => exact ⟨(0), (0), (Sh.es), (Sh.es), H', ⟨Nat.le_refl _⟩, ⟨Sh.bw⟩⟩
  case round =>
   clear H'
   obtain ⟨x3_1, x13_1, rfl, rfl, HA, HK1, HB⟩ := hrel
   cases gk with
   | zero => exact absurd HA.out (by simp [spec_GoodSaid.l0])
   | succ k1 =>
    have H := HA.out
    clear HA
    simp only [spec_GoodSaid.l0] at H
    by_cases c4 : x13_1 < (l0.length : Int)
    ·rw [if_pos c4] at H
     have c4b0 := decide_eq_true c4
     clear c4
     by_cases c5 : 0 ≤ x13_1
     ·rw [if_pos c5] at H
      have c5b0 := decide_eq_true c5
      clear c5
      by_cases c6 : x13_1 < (l0.length : Int)
      ·rw [if_pos c6] at H
       have c6b0 := decide_eq_true c6
       clear c6
       obtain ⟨t107, A7, H⟩ := Sh.ba H
       by_cases c8 : t107 < 0
       ·rw [if_pos c8] at H
        have c8b0 := decide_eq_true c8
        clear c8
        obtain rfl := Option.some.inj H
        have p105 : 0 ≤ (x13_1 : Int) := Sh.od
        have q105 : x13_1 < (l0.length : Int) := Sh.od
        obtain ⟨ad105, e105, hx105_0, hx105_1⟩ := at_T59 HR0.out x13_1 p105 q105
        cases e105
        try replace hx105_0 := Sh.cw hx105_0
        try replace hx105_1 := Sh.cw hx105_1
        replace p105 := eq_true p105
        replace q105 := eq_true q105
        go_wp2_with (first | ((with_reducible refine Sh.d 5 ?_); refine Sh.bz w (N := 5) (cs := #[.int .i64 0, .int .i64 0]) (t := 59) (h := ?_); clear HB; intro gb106 w9 BK106 GE106 HB; obtain ⟨hcz10_0, hcz10_1, hfz10_0, hfz10_1⟩ := Sh.b2 BK106.out) | ((with_reducible refine Sh.k 70 ?_); refine Sh.gD (some 19) Try.func70 #[.int .i64 ((rd_T59 l0 x13_1).f0)] (spec_l10Need.calls k1 ((rd_T59 l0 x13_1).f0) t107 _ A7.out) fun nd => ?_))
        go_ret
        exact ⟨Sh.eR, Sh.bw⟩
       ·rw [if_neg c8] at H
        have c8b0 := decide_eq_false c8
        clear c8
        obtain ⟨t108, A11, H⟩ := Sh.ba H
        by_cases c12 : t108 = true
        ·subst c12
         rw [if_pos rfl] at H
         by_cases c13 : x3_1 < t107
         ·rw [if_pos c13] at H
          have c13b0 := decide_eq_true c13
          clear c13
          obtain rfl := Option.some.inj H
          have p105 : 0 ≤ (x13_1 : Int) := Sh.od
          have q105 : x13_1 < (l0.length : Int) := Sh.od
          obtain ⟨ad105, e105, hx105_0, hx105_1⟩ := at_T59 HR0.out x13_1 p105 q105
          cases e105
          try replace hx105_0 := Sh.cw hx105_0
          try replace hx105_1 := Sh.cw hx105_1
          replace p105 := eq_true p105
          replace q105 := eq_true q105
          go_wp2_with (first | ((with_reducible refine Sh.d 5 ?_); refine Sh.bz w (N := 5) (cs := #[.int .i64 0, .int .i64 0]) (t := 59) (h := ?_); clear HB; intro gb106 w14 BK106 GE106 HB; obtain ⟨hcz15_0, hcz15_1, hfz15_0, hfz15_1⟩ := Sh.b2 BK106.out) | ((with_reducible refine Sh.k 70 ?_); refine Sh.gD (some 19) Try.func70 #[.int .i64 ((rd_T59 l0 x13_1).f0)] (spec_l10Need.calls k1 ((rd_T59 l0 x13_1).f0) t107 _ A7.out) fun nd => ?_) | (go_at_call 71; (with_reducible refine (spec_l10N.calls ((rd_T59 l0 x13_1).f0) ((rd_T59 l0 x13_1).f1) true _ A11.out).mono ?_); rintro e w16 ⟨rfl, hb⟩; replace BK106 := am_ (blk_below (g := gb106) (o := .cells #[.int .i64 ((rd_T59 l0 x13_1).f0), .int .i64 ((rd_T59 l0 x13_1).f1)] 59 (0, 0)) (by refine Sh.pl ?_; refine blk_put (cs := #[.int .i64 ((rd_T59 l0 x13_1).f0), .int .i64 0]) ?_ 1 _ rfl; refine Sh.pl ?_; refine blk_put (cs := #[.int .i64 0, .int .i64 0]) ?_ 0 _ rfl; refine Sh.pl ?_; exact BK106.out) hb); replace HB := Sh.hb hb; (try clear hb); (try clear hb2); (try clear hk); (try clear hi)))
          go_ret
          exact ⟨Sh.eR, Sh.bw⟩
         ·rw [if_neg c13] at H
          have c13b0 := decide_eq_false c13
          clear c13
          have H' := am_ H
          clear H
          have p105 : 0 ≤ (x13_1 : Int) := Sh.od
          have q105 : x13_1 < (l0.length : Int) := Sh.od
          obtain ⟨ad105, e105, hx105_0, hx105_1⟩ := at_T59 HR0.out x13_1 p105 q105
          cases e105
          try replace hx105_0 := Sh.cw hx105_0
          try replace hx105_1 := Sh.cw hx105_1
          replace p105 := eq_true p105
          replace q105 := eq_true q105
          go_wp2_with (first | ((with_reducible refine Sh.d 5 ?_); refine Sh.bz w (N := 5) (cs := #[.int .i64 0, .int .i64 0]) (t := 59) (h := ?_); clear HB; intro gb106 w17 BK106 GE106 HB; obtain ⟨hcz18_0, hcz18_1, hfz18_0, hfz18_1⟩ := Sh.b2 BK106.out) | ((with_reducible refine Sh.k 70 ?_); refine Sh.gD (some 19) Try.func70 #[.int .i64 ((rd_T59 l0 x13_1).f0)] (spec_l10Need.calls k1 ((rd_T59 l0 x13_1).f0) t107 _ A7.out) fun nd => ?_) | (go_at_call 71; (with_reducible refine (spec_l10N.calls ((rd_T59 l0 x13_1).f0) ((rd_T59 l0 x13_1).f1) true _ A11.out).mono ?_); rintro e w19 ⟨rfl, hb⟩; replace BK106 := am_ (blk_below (g := gb106) (o := .cells #[.int .i64 ((rd_T59 l0 x13_1).f0), .int .i64 ((rd_T59 l0 x13_1).f1)] 59 (0, 0)) (by refine Sh.pl ?_; refine blk_put (cs := #[.int .i64 ((rd_T59 l0 x13_1).f0), .int .i64 0]) ?_ 1 _ rfl; refine Sh.pl ?_; refine blk_put (cs := #[.int .i64 0, .int .i64 0]) ?_ 0 _ rfl; refine Sh.pl ?_; exact BK106.out) hb); replace HB := Sh.hb hb; (try clear hb); (try clear hb2); (try clear hk); (try clear hi)))
          go_roundg k1
          case measure => have := HK1.out; omega
          case rel => exact ⟨(wrap64 (x3_1 + (wrap64 (1 - t107)))), (wrap64 (x13_1 + 1)), (Sh.es), (Sh.es), H', ⟨by have := HK1.out; omega⟩, ⟨Sh.bw⟩⟩
        ·replace c12 := Bool.eq_false_iff.mpr c12
         subst c12
         rw [Sh.nf] at H
         obtain rfl := Option.some.inj H
         have p105 : 0 ≤ (x13_1 : Int) := Sh.od
         have q105 : x13_1 < (l0.length : Int) := Sh.od
         obtain ⟨ad105, e105, hx105_0, hx105_1⟩ := at_T59 HR0.out x13_1 p105 q105
         cases e105
         try replace hx105_0 := Sh.cw hx105_0
         try replace hx105_1 := Sh.cw hx105_1
         replace p105 := eq_true p105
         replace q105 := eq_true q105
         go_wp2_with (first | ((with_reducible refine Sh.d 5 ?_); refine Sh.bz w (N := 5) (cs := #[.int .i64 0, .int .i64 0]) (t := 59) (h := ?_); clear HB; intro gb106 w20 BK106 GE106 HB; obtain ⟨hcz21_0, hcz21_1, hfz21_0, hfz21_1⟩ := Sh.b2 BK106.out) | ((with_reducible refine Sh.k 70 ?_); refine Sh.gD (some 19) Try.func70 #[.int .i64 ((rd_T59 l0 x13_1).f0)] (spec_l10Need.calls k1 ((rd_T59 l0 x13_1).f0) t107 _ A7.out) fun nd => ?_) | (go_at_call 71; (with_reducible refine (spec_l10N.calls ((rd_T59 l0 x13_1).f0) ((rd_T59 l0 x13_1).f1) false _ A11.out).mono ?_); rintro e w22 ⟨rfl, hb⟩; replace BK106 := am_ (blk_below (g := gb106) (o := .cells #[.int .i64 ((rd_T59 l0 x13_1).f0), .int .i64 ((rd_T59 l0 x13_1).f1)] 59 (0, 0)) (by refine Sh.pl ?_; refine blk_put (cs := #[.int .i64 ((rd_T59 l0 x13_1).f0), .int .i64 0]) ?_ 1 _ rfl; refine Sh.pl ?_; refine blk_put (cs := #[.int .i64 0, .int .i64 0]) ?_ 0 _ rfl; refine Sh.pl ?_; exact BK106.out) hb); replace HB := Sh.hb hb; (try clear hb); (try clear hb2); (try clear hk); (try clear hi)))
         go_ret
         exact ⟨Sh.eR, Sh.bw⟩
      ·rw [if_neg c6] at H
       exact absurd H (by simp)
     ·rw [if_neg c5] at H
      exact absurd H (by simp)
    ·rw [if_neg c4] at H
     have c4b0 := decide_eq_false c4
     clear c4
     obtain rfl := Option.some.inj H
     go_wp2
     go_ret
     exact ⟨Sh.eR, Sh.bw⟩
 ·replace c3 := Bool.eq_false_iff.mpr c3
  subst c3
  rw [Sh.nf] at H
  obtain rfl := Option.some.inj H
  go_enter Try.func37, Try.ntmps37
  go_wp2_with (first | ((with_reducible refine Sh.k 45 ?_); refine Sh.gD (some 9) Try.func45 #[.int .i64 (l0.length : Int), .int .i64 1, .int .i64 16] (spec_l1In.calls (l0.length : Int) 1 16 false _ A2.out) fun nd => ?_))
  go_ret
  exact ⟨Sh.eR, Sh.bw⟩

end Go.Proofs.Ytaacldndbjmekaa.P
