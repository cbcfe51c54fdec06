/- Go functions of this seat as Lean functions, and the proofs that the calls come to what these say; printed by a program of this session. No condition. -/
import Derived.Test.YtjenmoopbmklfaaP0
import Derived.Test.YtjenmoopbmklfaaMFnExactApart3
import Derived.Test.YtjenmoopbmklfaaMFnExactApart2
set_option linter.unusedVariables false
set_option linter.unusedSimpArgs false
set_option maxHeartbeats 40000000
set_option maxRecDepth 100000
namespace Go.Proofs.Ytjenmoopbmklfaa.P
open Go.RowKit Go.Proofs.YtjenmoopbmklfaaW.PrintWords Go.Proofs.YtjenmoopbmklfaaW.PrintLast Go.Proofs.YtjenmoopbmklfaaW.PrintMore Go.Proofs.Ytjenmoopbmklfaa.Hof
attribute [local go_sem] max2_int min2_int max_two min_two max_three min_three max_four min_four
def spec_l2Vars.l0 : Nat → List Int → List (S73) → Int → Int → Option (List Int)
 | 0, _, _, _, _ => none
 | k + 1, x3, x6, x7, x8 => if x8 < x7 then (if 0 ≤ x8 then (if x8 < (x6.length : Int) then (if ((rd_T73 x6 x8).f0) = 2 then ((spec_l1Put.f k x3 (wrap64 ((rd_T73 x6 x8).f1))).bind fun t274 => (spec_l2Vars.l0 k t274 x6 x7 (wrap64 (x8 + 1)))) else (spec_l2Vars.l0 k x3 x6 x7 (wrap64 (x8 + 1)))) else (none)) else (none)) else (some x3)
def spec_l2Vars.f (k : Nat) (l0 : List (S73)) : Option (List Int) := spec_l2Vars.l0 k ([] : List Int) l0 (l0.length : Int) 0
theorem spec_l2Vars.mono_l : ∀ k, (∀ y0 y1 y2 y3, LeO (spec_l2Vars.l0 k y0 y1 y2 y3) (spec_l2Vars.l0 (k + 1) y0 y1 y2 y3))
 | 0 => fun _ _ _ _ r h => by simp [spec_l2Vars.l0] at h
 | k + 1 => by
  have ih0 := spec_l2Vars.mono_l k
  ·intro y0 y1 y2 y3
   unfold spec_l2Vars.l0
   repeat' with_reducible first | apply ih0 | apply spec_l1Put.mono | exact LeO.refl _ | exact LeO.none _ | apply LeO.ite | refine LeO.bind ?_ fun _ => ?_
theorem spec_l2Vars.mono : ∀ a0 k, LeO (spec_l2Vars.f k a0) (spec_l2Vars.f (k + 1) a0) := by
 intro a0 k
 have ih0 := spec_l2Vars.mono_l k
 unfold spec_l2Vars.f
 repeat' with_reducible first | apply ih0 | apply spec_l1Put.mono | exact LeO.refl _ | exact LeO.none _ | apply LeO.ite | refine LeO.bind ?_ fun _ => ?_
theorem spec_l2Vars.calls (k : Nat) (A0 : Option Addr) (c0 : Nat) (l0 : List (S73)) (r : List Int) (w : World) (hr0 : Kd.C k73 w A0 l0.length l0) (hc0 : l0.length ≤ c0) (h : spec_l2Vars.f k l0 = some r) :
  Calls Try.prog 20 #[.slice A0 l0.length c0] w fun e w' => ∃ v0_ : Value, e = .returned (v0_) ∧ Kd.R (Kd.int .i64) 3 w' w.heap.size (fun _ => True) v0_ r ∧ Below w.heap.size w w' := by
 have hu73 := Try.underlying73
 have HR0 := am_ hr0
 have HC0 := am_ hc0
 clear hr0 hc0
 have HB := am_ (Below.refl w.heap.size w)
 have H := h
 clear h
 unfold spec_l2Vars.f at H
 have H' := am_ H
 clear H
 go_enter Try.func20, Try.ntmps20
 go_wp2
 go_loopg [3, 8] k (fun kq v3 v8 w' => ∃ (x3_1 : List Int) (x8_1 : Int), v8 = .int .i64 x8_1 ∧ Aside0 (spec_l2Vars.l0 kq x3_1 l0 (l0.length : Int) x8_1 = some r) ∧ Aside0 (kq ≤ k) ∧ Aside0 (Kd.R (Kd.int .i64) 3 w' w.heap.size (fun _ => True) v3 x3_1) ∧ Aside0 (Below w.heap.size w w'))
 case atStart => exact ⟨(([] : List Int)), (0), (Sh.es), H', ⟨Nat.le_refl _⟩, ⟨by first | exact Kd.R_nil _ _ _ _ _ | exact Kd.N_nil _ _ _ _ _ | exact Kd.V_nil _ _ _ _ _ | exact Kd.Q_nil _ _ _ _ _ | exact Kd.S_nil _ _ _ _ _⟩, ⟨Sh.bw⟩⟩
 case round =>
  clear H'
  obtain ⟨x3_1, x8_1, rfl, HA, HK1, HO_3, HB⟩ := hrel
  cases gk with
  | zero => exact absurd HA.out (by simp [spec_l2Vars.l0])
  | succ k1 =>
   have H := HA.out
   clear HA
   simp only [spec_l2Vars.l0] at H
   by_cases c2 : x8_1 < (l0.length : Int)
   ·rw [if_pos c2] at H
    have c2b0 := decide_eq_true c2
    clear c2
    by_cases c3 : 0 ≤ x8_1
    ·rw [if_pos c3] at H
     have c3b0 := decide_eq_true c3
     clear c3
     by_cases c4 : x8_1 < (l0.length : Int)
     ·rw [if_pos c4] at H
      have c4b0 := decide_eq_true c4
      clear c4
      by_cases c5 : ((rd_T73 l0 x8_1).f0) = 2
      ·rw [if_pos c5] at H
       have c5b0 : (((rd_T73 l0 x8_1).f0) == 2) = true := beq_iff_eq.mpr c5
       have c5b1 : (((rd_T73 l0 x8_1).f0) != 2) = false := bne_eq_false_iff_eq.mpr c5
       clear c5
       obtain ⟨t274, A6, H⟩ := Sh.ba H
       have H' := am_ H
       clear H
       have p272 : 0 ≤ (x8_1 : Int) := Sh.od
       have q272 : x8_1 < (l0.length : Int) := Sh.od
       obtain ⟨ad272, e272, hx272_0, hx272_1⟩ := at_T73 HR0.out x8_1 p272 q272
       cases e272
       try replace hx272_0 := Sh.cw hx272_0
       try replace hx272_1 := Sh.cw hx272_1
       replace p272 := eq_true p272
       replace q272 := eq_true q272
       go_wp2_with (first | ((with_reducible refine Sh.d 5 ?_); refine Sh.bx (N := 5) (cs := #[.int .i64 0, .int .u64 0]) (t := 73) (h := ?_); intro gb273 hg w7 hbox hb; replace HO_3 := am_ (Kd.R_below (Sh.rl HO_3.out) hb); have BK273 := am_ hbox; have GE273 := Sh.ag w hg; replace HB := Sh.hb hb; clear hb hbox hg; obtain ⟨hcz8_0, hcz8_1, hfz8_0, hfz8_1⟩ := Sh.b2 BK273.out) | ((with_reducible refine gate_store (t := 73) (p := 5) rfl ?_); refine store_event (t := 73) (p := 5) (v := ?vo_w9) (w1 := ((w7.setCell ⟨gb273, 0, none⟩ (.int .i64 ((rd_T73 l0 x8_1).f0))).setCell ⟨gb273, 1, none⟩ (.int .u64 ((rd_T73 l0 x8_1).f1)))) ?hg ?ho ?hn ?hr ?_; (case ho => rfl); (case hg => rfl); (case hn => rfl); (case hr => first | (go_simp; done) | (go_simp; rfl)); intro w9 hw; have n0_ : Aside0 (Kd.R (Kd.int .i64) 3 w9 w.heap.size (fun _ => True) u3 x3_1) := ⟨(by rw [hw]; exact (Sh.rl (Kd.R_mono (Kd.R_far (p := ⟨gb273, 1, none⟩) (Kd.R_far (p := ⟨gb273, 0, none⟩) (Kd.R_types HO_3.out BK273.out (by decide)) (fun _ hk => hk.2) (.int .i64 ((rd_T73 l0 x8_1).f0))) (fun _ hk => hk.2) (.int .u64 ((rd_T73 l0 x8_1).f1))) (fun _ hk => trivial))))⟩; have n1_ : Aside0 (w9.heap[gb273]? = some (.cells #[.int .i64 ((rd_T73 l0 x8_1).f0), .int .u64 ((rd_T73 l0 x8_1).f1)] 73 (0, 0))) := ⟨(by rw [hw]; exact (by refine Sh.pl ?_; refine blk_put (cs := #[.int .i64 ((rd_T73 l0 x8_1).f0), .int .u64 0]) ?_ 1 _ rfl; refine Sh.pl ?_; refine blk_put (cs := #[.int .i64 0, .int .u64 0]) ?_ 0 _ rfl; refine Sh.pl ?_; exact BK273.out))⟩; have n2_ : Aside0 (Below w.heap.size w w9) := ⟨(by rw [hw]; exact Sh.bw)⟩; clear hw; clear HO_3; clear BK273; clear HB; have HO_3 := n0_; have BK273 := n1_; have HB := n2_; clear n0_ n1_ n2_; obtain ⟨hcz10_0, hcz10_1, hfz10_0, hfz10_1⟩ := Sh.b2 BK273.out; obtain ⟨Ao11, co11, eo11⟩ := Kd.R_slice HO_3.out; subst eo11) | ((with_reducible refine Sh.k 21 ?_); refine Sh.gL (some 19) Try.func21 #[.slice Ao11 x3_1.length co11, .int .i64 (wrap64 ((rd_T73 l0 x8_1).f1))] (h := ?_); (with_reducible refine (spec_l1Put.calls k1 (fun k_ => some k_ = (.slice Ao11 x3_1.length co11 : Value).ownBlock) (.slice Ao11 x3_1.length co11) x3_1 (wrap64 ((rd_T73 l0 x8_1).f1)) t274 w _ ?side1 ?side2 A6.out).mono ?_); (case side1 => repeat (first | (with_reducible first | exact HB.out | apply below_alloc | apply pw_below_drewN | apply below_drew1 | refine below_set ?_ GE273.out) | exact HB.out)); (case side2 => exact Kd.R_tight rfl HO_3.out); rintro e w12 ⟨v275, rfl, ho0, hb, hkp⟩; refine ⟨_, rfl, ?_⟩; have n0_ := am_ (blk_kept (Sh.pl BK273.out) hkp (fun hs_ => (fun e_ => (Kd.R_ne HO_3.out BK273.out (by decide)) e_) hs_)); have n1_ := am_ (Kd.R_mono (ok' := fun k_ => True) ho0 (fun k_ hk_ => trivial)); have n2_ := am_ hb; clear BK273; clear HB; clear HO_3; have BK273 := n0_; have HO276 := n1_; have HB := n2_; clear n0_ n1_ n2_; (try clear hb); (try clear hkp); (try clear ho0)))
       go_roundg k1
       case measure => have := HK1.out; omega
       case rel => exact ⟨(t274), (wrap64 (x8_1 + 1)), (Sh.es), H', ⟨by have := HK1.out; omega⟩, ⟨Sh.rl HO276.out⟩, ⟨Sh.bw⟩⟩
      ·rw [if_neg c5] at H
       have c5b0 : (((rd_T73 l0 x8_1).f0) == 2) = false := beq_eq_false_iff_ne.mpr c5
       have c5b1 : (((rd_T73 l0 x8_1).f0) != 2) = true := bne_iff_ne.mpr c5
       have H' := am_ H
       clear H
       have p272 : 0 ≤ (x8_1 : Int) := Sh.od
       have q272 : x8_1 < (l0.length : Int) := Sh.od
       obtain ⟨ad272, e272, hx272_0, hx272_1⟩ := at_T73 HR0.out x8_1 p272 q272
       cases e272
       try replace hx272_0 := Sh.cw hx272_0
       try replace hx272_1 := Sh.cw hx272_1
       replace p272 := eq_true p272
       replace q272 := eq_true q272
       go_wp2_with (first | ((with_reducible refine Sh.d 5 ?_); refine Sh.bx (N := 5) (cs := #[.int .i64 0, .int .u64 0]) (t := 73) (h := ?_); intro gb273 hg w13 hbox hb; replace HO_3 := am_ (Kd.R_below (Sh.rl HO_3.out) hb); have BK273 := am_ hbox; have GE273 := Sh.ag w hg; replace HB := Sh.hb hb; clear hb hbox hg; obtain ⟨hcz14_0, hcz14_1, hfz14_0, hfz14_1⟩ := Sh.b2 BK273.out))
       go_roundg k1
       case measure => have := HK1.out; omega
       case rel => exact ⟨(x3_1), (wrap64 (x8_1 + 1)), (Sh.es), H', ⟨by have := HK1.out; omega⟩, ⟨Sh.rl (Kd.R_mono (Kd.R_far (p := ⟨gb273, 1, none⟩) (Kd.R_far (p := ⟨gb273, 0, none⟩) (Kd.R_types HO_3.out BK273.out (by decide)) (fun _ hk => hk.2) (.int .i64 ((rd_T73 l0 x8_1).f0))) (fun _ hk => hk.2) (.int .u64 ((rd_T73 l0 x8_1).f1))) (fun _ hk => trivial))⟩, ⟨Sh.bw⟩⟩
     ·rw [if_neg c4] at H
      exact absurd H (by simp)
    ·rw [if_neg c3] at H
     exact absurd H (by simp)
   ·rw [if_neg c2] at H
    have c2b0 := decide_eq_false c2
    clear c2
    obtain rfl := Option.some.inj H
    go_wp2
    go_ret
    exact ⟨_, Sh.eR, Sh.rl HO_3.out, Sh.bw⟩
mutual
def spec_TouchedBy.j0 : Nat → Int → Bool → Int → Int → List (S73) → List (S50) → Option (List Int × List Int × Bool)
 | 0, _, _, _, _, _, _ => none
 | k + 1, x1, x24, x278000, x278001, x278002, x278003 => if x24 = true then (some (([] : List Int), ([] : List Int), false)) else (if 0 ≤ x1 then (if x1 < (x278003.length : Int) then ((spec_l2Vars.f k ((rd_T50 x278003 x1).f0)).bind fun t281 => (spec_TouchedBy.l0 k t281 ([] : List Int) ((rd_T50 x278003 x1).f1) (((rd_T50 x278003 x1).f1).length : Int) 0)) else (none)) else (none))
def spec_TouchedBy.l0 : Nat → List Int → List Int → List (S52) → Int → Int → Option (List Int × List Int × Bool)
 | 0, _, _, _, _, _ => none
 | k + 1, x7, x8, x37, x38, x39 => if x39 < x38 then (if 0 ≤ x39 then (if x39 < (x37.length : Int) then (if x8.length < 17592186044416 then ((spec_l2Vars.f k ((rd_T52 x37 x39).f1)).bind fun t290 => (spec_TouchedBy.l1 k x7 (x8 ++ [(rd_T52 x37 x39).f0]) x37 x38 x39 t290 (t290.length : Int) 0)) else (none)) else (none)) else (none)) else (some (x7, x8, true))
def spec_TouchedBy.l1 : Nat → List Int → List Int → List (S52) → Int → Int → List Int → Int → Int → Option (List Int × List Int × Bool)
 | 0, _, _, _, _, _, _, _, _ => none
 | k + 1, x7, x8, x37, x38, x39, x50, x51, x52 => if x52 < x51 then (if 0 ≤ x52 then (if x52 < (x50.length : Int) then ((spec_l1Put.f k x7 (rd x50 x52)).bind fun t294 => (spec_TouchedBy.l1 k t294 x8 x37 x38 x39 x50 x51 (wrap64 (x52 + 1)))) else (none)) else (none)) else (spec_TouchedBy.l0 k x7 x8 x37 x38 (wrap64 (x39 + 1)))
end
def spec_TouchedBy.f (k : Nat) (a0_0 : Int) (a0_1 : Int) (l0_2 : List (S73)) (l0_3 : List (S50)) (a1 : Int) : Option (List Int × List Int × Bool) := (spec_GoodProgram.f k a0_0 a0_1 l0_2 l0_3).bind fun t278 => (if t278 = true then ((spec_l1In.f a1 0 (wrap64 ((l0_3.length : Int) - 1))).bind fun t279 => (spec_TouchedBy.j0 k a1 (!t279) a0_0 a0_1 l0_2 l0_3)) else (spec_TouchedBy.j0 k a1 true a0_0 a0_1 l0_2 l0_3))
theorem spec_TouchedBy.mono_l : ∀ k, (∀ y0 y1 y2 y3 y4 y5, LeO (spec_TouchedBy.j0 k y0 y1 y2 y3 y4 y5) (spec_TouchedBy.j0 (k + 1) y0 y1 y2 y3 y4 y5)) ∧ (∀ y0 y1 y2 y3 y4, LeO (spec_TouchedBy.l0 k y0 y1 y2 y3 y4) (spec_TouchedBy.l0 (k + 1) y0 y1 y2 y3 y4)) ∧ (∀ y0 y1 y2 y3 y4 y5 y6 y7, LeO (spec_TouchedBy.l1 k y0 y1 y2 y3 y4 y5 y6 y7) (spec_TouchedBy.l1 (k + 1) y0 y1 y2 y3 y4 y5 y6 y7))
 | 0 => ⟨fun _ _ _ _ _ _ r h => by simp [spec_TouchedBy.j0] at h, fun _ _ _ _ _ r h => by simp [spec_TouchedBy.l0] at h, fun _ _ _ _ _ _ _ _ r h => by simp [spec_TouchedBy.l1] at h⟩
 | k + 1 => by
  obtain ⟨ih0, ih1, ih2⟩ := spec_TouchedBy.mono_l k
  and_intros <;> intros
  all_goals (first | unfold spec_TouchedBy.j0 | unfold spec_TouchedBy.l0 | unfold spec_TouchedBy.l1)
  all_goals repeat' with_reducible first | apply ih0 | apply ih1 | apply ih2 | apply spec_GoodProgram.mono | apply spec_l1Put.mono | apply spec_l2Vars.mono | exact LeO.refl _ | exact LeO.none _ | apply LeO.ite | refine LeO.bind ?_ fun _ => ?_
theorem spec_TouchedBy.mono : ∀ a0 a1 a2 a3 a4 k, LeO (spec_TouchedBy.f k a0 a1 a2 a3 a4) (spec_TouchedBy.f (k + 1) a0 a1 a2 a3 a4) := by
 intro a0 a1 a2 a3 a4 k
 obtain ⟨ih0, ih1, ih2⟩ := spec_TouchedBy.mono_l k
 unfold spec_TouchedBy.f
 repeat' with_reducible first | apply ih0 | apply ih1 | apply ih2 | apply spec_GoodProgram.mono | apply spec_l1Put.mono | apply spec_l2Vars.mono | exact LeO.refl _ | exact LeO.none _ | apply LeO.ite | refine LeO.bind ?_ fun _ => ?_
theorem spec_TouchedBy.calls (k : Nat) (a0_0 : Int) (a0_1 : Int) (A0_2 : Option Addr) (c0_2 : Nat) (l0_2 : List (S73)) (A0_3 : Option Addr) (c0_3 : Nat) (l0_3 : List (S50)) (a1 : Int) (r1 : List Int) (r2 : List Int) (r3 : Bool) (w : World) (hr0_2 : Kd.C k73 w A0_2 l0_2.length l0_2) (hc0_2 : l0_2.length ≤ c0_2) (hr0_3 : Kd.C k50 w A0_3 l0_3.length l0_3) (hc0_3 : l0_3.length ≤ c0_3) (h : spec_TouchedBy.f k a0_0 a0_1 l0_2 l0_3 a1 = some (r1, r2, r3)) :
  Calls Try.prog 6 #[.agg #[.int .i64 a0_0, .int .i64 a0_1, .slice A0_2 l0_2.length c0_2, .slice A0_3 l0_3.length c0_3], .int .i64 a1] w fun e w' => ∃ v0_ v1_ : Value, e = .returned (.tuple #[v0_, v1_, .bool r3]) ∧ Kd.R (Kd.int .i64) 3 w' w.heap.size (fun k_ => some k_ ≠ (v1_ : Value).ownBlock) v0_ r1 ∧ Kd.R (Kd.int .i64) 3 w' w.heap.size (fun k_ => some k_ ≠ (v0_ : Value).ownBlock) v1_ r2 ∧ Below w.heap.size w w' := by
 have hu33 := Try.underlying33
 have hu52 := Try.underlying52
 have HR0_2 := am_ hr0_2
 have HC0_2 := am_ hc0_2
 clear hr0_2 hc0_2
 have HR0_3 := am_ hr0_3
 have HC0_3 := am_ hc0_3
 clear hr0_3 hc0_3
 have HB := am_ (Below.refl w.heap.size w)
 have H := h
 clear h
 unfold spec_TouchedBy.f at H
 have HC3 := am_ H
 clear H
 go_enter Try.func6, Try.ntmps6
 go_upto_region 1 with (first | ((with_reducible refine Sh.d 2 ?_); (try (refine gate_guard (by rfl) ?_; dsimp only)); refine Sh.bz w (N := 2) (cs := #[.int .i64 a0_0, .int .i64 a0_1, .slice A0_2 l0_2.length c0_2, .slice A0_3 l0_3.length c0_3]) (t := 33) (h := ?_); clear HB; intro gb277 w4 BK277 GE277 HB))
 (try simp only [Act.put, List.setIfInBounds_toArray, List.set_cons_zero, List.set_cons_succ])
 go_cut [24] (fun v24 wc => ∃ (kq : Nat) (x24_2 : Bool), v24 = .bool x24_2 ∧ Aside0 (spec_TouchedBy.j0 kq a1 x24_2 a0_0 a0_1 l0_2 l0_3 = some (r1, r2, r3)) ∧ Aside0 (kq ≤ k) ∧ Aside0 (wc.heap[gb277]? = some (.cells #[.int .i64 a0_0, .int .i64 a0_1, (.slice A0_2 l0_2.length c0_2), (.slice A0_3 l0_3.length c0_3)] 33 (0, 0))) ∧ Aside0 (Below w.heap.size w wc))
 case first =>
  have H := HC3.out
  clear HC3
  obtain ⟨t278, A5, H⟩ := Sh.ba H
  by_cases c6 : t278 = true
  ·subst c6
   rw [if_pos rfl] at H
   obtain ⟨t279, A7, H⟩ := Sh.ba H
   have H' := am_ H
   clear H
   have hcz8_0 := Sh.bc BK277.out 0
   have hcz8_1 := Sh.bc BK277.out 1
   have hcz8_2 := Sh.bc BK277.out 2
   have hcz8_3 := Sh.bc BK277.out 3
   have hfz8_0 := blk_frozen BK277.out 0
   have hfz8_1 := blk_frozen BK277.out 1
   have hfz8_2 := blk_frozen BK277.out 2
   have hfz8_3 := blk_frozen BK277.out 3
   go_wp2_with (first | ((with_reducible refine Sh.k 18 ?_); refine Sh.gB (some 14) Try.func18 #[.agg #[.int .i64 a0_0, .int .i64 a0_1, .slice A0_2 l0_2.length c0_2, .slice A0_3 l0_3.length c0_3]] (spec_GoodProgram.calls k a0_0 a0_1 _ _ l0_2 _ _ l0_3 true _ (Sh.cB HR0_2.out) HC0_2.out (Sh.cB HR0_3.out) HC0_3.out A5.out) fun w9 hb => ?_; replace BK277 := Sh.ab BK277 hb; replace HB := Sh.hb hb; (try clear hb); (try clear hb2); (try clear hk); (try clear hi); obtain ⟨hcz10_0, hcz10_1, hcz10_2, hcz10_3, hfz10_0, hfz10_1, hfz10_2, hfz10_3⟩ := Sh.b4 BK277.out) | (go_at_call 19; (with_reducible refine (spec_l1In.calls a1 0 (wrap64 ((l0_3.length : Int) - 1)) t279 _ A7.out).mono ?_); rintro e w' ⟨rfl, ⟨nd, rfl⟩⟩))
   go_meet
   case rel => exact ⟨_, (!t279), (Sh.es), H', ⟨Sh.om⟩, ⟨by refine Sh.pl ?_; exact BK277.out⟩, ⟨Sh.bw⟩⟩
  ·replace c6 := Bool.eq_false_iff.mpr c6
   subst c6
   rw [Sh.nf] at H
   have H' := am_ H
   clear H
   have hcz11_0 := Sh.bc BK277.out 0
   have hcz11_1 := Sh.bc BK277.out 1
   have hcz11_2 := Sh.bc BK277.out 2
   have hcz11_3 := Sh.bc BK277.out 3
   have hfz11_0 := blk_frozen BK277.out 0
   have hfz11_1 := blk_frozen BK277.out 1
   have hfz11_2 := blk_frozen BK277.out 2
   have hfz11_3 := blk_frozen BK277.out 3
   go_wp2_with (first | ((with_reducible refine Sh.k 18 ?_); refine Sh.gB (some 14) Try.func18 #[.agg #[.int .i64 a0_0, .int .i64 a0_1, .slice A0_2 l0_2.length c0_2, .slice A0_3 l0_3.length c0_3]] (spec_GoodProgram.calls k a0_0 a0_1 _ _ l0_2 _ _ l0_3 false _ (Sh.cB HR0_2.out) HC0_2.out (Sh.cB HR0_3.out) HC0_3.out A5.out) fun w12 hb => ?_; replace BK277 := Sh.ab BK277 hb; replace HB := Sh.hb hb; (try clear hb); (try clear hb2); (try clear hk); (try clear hi)))
   go_meet
   case rel => exact ⟨_, (true), (Sh.es), H', ⟨Sh.om⟩, ⟨by refine Sh.pl ?_; exact BK277.out⟩, ⟨Sh.bw⟩⟩
 case rest =>
  clear HC3
  try clear hcz10_0
  try clear hcz10_1
  try clear hcz10_2
  try clear hcz10_3
  try clear hcz11_0
  try clear hcz11_1
  try clear hcz11_2
  try clear hcz11_3
  try clear hcz8_0
  try clear hcz8_1
  try clear hcz8_2
  try clear hcz8_3
  try clear hfz10_0
  try clear hfz10_1
  try clear hfz10_2
  try clear hfz10_3
  try clear hfz11_0
  try clear hfz11_1
  try clear hfz11_2
  try clear hfz11_3
  try clear hfz8_0
  try clear hfz8_1
  try clear hfz8_2
  try clear hfz8_3
  obtain ⟨kq, x24_2, rfl, HA, HJ2, BK277, HB⟩ := hcut
  cases kq with
  | zero => exact absurd HA.out (by simp [spec_TouchedBy.j0])
  | succ kj2 =>
   have H := HA.out
   clear HA
   simp only [spec_TouchedBy.j0] at H
   by_cases c13 : x24_2 = true
   ·subst c13
    rw [if_pos rfl] at H
    simp only [Option.some.injEq, Prod.mk.injEq] at H
    obtain ⟨rfl, rfl, rfl⟩ := H
    go_wp2
    go_ret3
    exact ⟨_, _, by first | rfl | (simp [errW_none, errW_some] <;> rfl) | (simp [*, errW_none, errW_some] <;> rfl), by first | exact Kd.R_nil _ _ _ _ _ | exact Kd.N_nil _ _ _ _ _ | exact Kd.V_nil _ _ _ _ _ | exact Kd.Q_nil _ _ _ _ _ | exact Kd.S_nil _ _ _ _ _, by first | exact Kd.R_nil _ _ _ _ _ | exact Kd.N_nil _ _ _ _ _ | exact Kd.V_nil _ _ _ _ _ | exact Kd.Q_nil _ _ _ _ _ | exact Kd.S_nil _ _ _ _ _, Sh.bw⟩
   ·replace c13 := Bool.eq_false_iff.mpr c13
    subst c13
    rw [Sh.nf] at H
    by_cases c14 : 0 ≤ a1
    ·rw [if_pos c14] at H
     have c14b0 := decide_eq_true c14
     clear c14
     by_cases c15 : a1 < (l0_3.length : Int)
     ·rw [if_pos c15] at H
      have c15b0 := decide_eq_true c15
      clear c15
      obtain ⟨t281, A16, H⟩ := Sh.ba H
      have H' := am_ H
      clear H
      have hcz17_0 := Sh.bc BK277.out 0
      have hcz17_1 := Sh.bc BK277.out 1
      have hcz17_2 := Sh.bc BK277.out 2
      have hcz17_3 := Sh.bc BK277.out 3
      have hfz17_0 := blk_frozen BK277.out 0
      have hfz17_1 := blk_frozen BK277.out 1
      have hfz17_2 := blk_frozen BK277.out 2
      have hfz17_3 := blk_frozen BK277.out 3
      have p280 : 0 ≤ (a1 : Int) := Sh.od
      have q280 : a1 < (l0_3.length : Int) := Sh.od
      obtain ⟨ad280, A280_0, c280_0, A280_1, c280_1, e280, hx280_0, hx280_1, hl280_0, hi280_0, hl280_1, hi280_1⟩ := at_T50 HR0_3.out a1 p280 q280
      cases e280
      try replace hx280_0 := Sh.cw hx280_0
      try replace hx280_1 := Sh.cw hx280_1
      have HR280_0 := am_ hi280_0
      have HC280_0 := am_ hl280_0
      clear hi280_0 hl280_0
      have HR280_1 := am_ hi280_1
      have HC280_1 := am_ hl280_1
      clear hi280_1 hl280_1
      replace p280 := eq_true p280
      replace q280 := eq_true q280
      go_wp2_with (first | ((with_reducible refine Sh.k 20 ?_); refine Sh.gL (some 31) Try.func20 #[.slice A280_0 ((rd_T50 l0_3 a1).f0).length c280_0] (h := ?_); (with_reducible refine (spec_l2Vars.calls kj2 _ _ ((rd_T50 l0_3 a1).f0) t281 _ (Sh.cB HR280_0.out) HC280_0.out A16.out).mono ?_); rintro e w18 ⟨v282, rfl, ho0, hb⟩; refine ⟨_, rfl, ?_⟩; have HO283 := am_ (Kd.R_lower ho0 (below_size Sh.bw)); replace BK277 := Sh.ab BK277 hb; replace HB := Sh.hb hb; (try clear hb); (try clear hb2); (try clear hk); (try clear hi); (try clear ho0); obtain ⟨hcz19_0, hcz19_1, hcz19_2, hcz19_3, hfz19_0, hfz19_1, hfz19_2, hfz19_3⟩ := Sh.b4 BK277.out; have p284 : 0 ≤ (a1 : Int) := Sh.od; have q284 : a1 < (l0_3.length : Int) := Sh.od; obtain ⟨ad284, A284_0, c284_0, A284_1, c284_1, e284, hx284_0, hx284_1, hl284_0, hi284_0, hl284_1, hi284_1⟩ := at_T50 HR0_3.out a1 p284 q284; obtain rfl : ad280 = ad284 := (by injection e284); replace hx284_0 := (HB.out.cell (World.block_lt_of_cell? w _ hx284_0)).trans hx284_0; replace hx284_1 := (HB.out.cell (World.block_lt_of_cell? w _ hx284_1)).trans hx284_1; have HR284_0 := am_ hi284_0; have HC284_0 := am_ hl284_0; clear hi284_0 hl284_0; have HR284_1 := am_ hi284_1; have HC284_1 := am_ hl284_1; clear hi284_1 hl284_1; replace p284 := eq_true p284; replace q284 := eq_true q284))
      go_loopg [7, 8, 39] kj2 (fun kq v7 v8 v39 w' => ∃ (x7_2 : List Int) (x8_2 : List Int) (x39_2 : Int), v39 = .int .i64 x39_2 ∧ Aside0 (spec_TouchedBy.l0 kq x7_2 x8_2 ((rd_T50 l0_3 a1).f1) (((rd_T50 l0_3 a1).f1).length : Int) x39_2 = some (r1, r2, r3)) ∧ Aside0 (kq ≤ kj2) ∧ Aside0 (Kd.R (Kd.int .i64) 3 w' w.heap.size (fun k_ => some k_ ≠ (v8 : Value).ownBlock) v7 x7_2) ∧ Aside0 (Kd.R (Kd.int .i64) 3 w' w.heap.size (fun k_ => some k_ ≠ (v7 : Value).ownBlock) v8 x8_2) ∧ Aside0 (w'.heap[gb277]? = some (.cells #[.int .i64 a0_0, .int .i64 a0_1, (.slice A0_2 l0_2.length c0_2), (.slice (some ad280) l0_3.length c0_3)] 33 (0, 0))) ∧ Aside0 (Below w.heap.size w w'))
      case atStart => exact ⟨(t281), (([] : List Int)), (0), (Sh.es), H', ⟨Nat.le_refl _⟩, ⟨Sh.rl (Kd.R_mono HO283.out (fun _ hk => (by simp [Value.ownBlock])))⟩, ⟨by first | exact Kd.R_nil _ _ _ _ _ | exact Kd.N_nil _ _ _ _ _ | exact Kd.V_nil _ _ _ _ _ | exact Kd.Q_nil _ _ _ _ _ | exact Kd.S_nil _ _ _ _ _⟩, ⟨by refine Sh.pl ?_; exact BK277.out⟩, ⟨Sh.bw⟩⟩
      case round =>
       clear H'
       try clear hx2
       try clear hcz10_0
       try clear hcz10_1
       try clear hcz10_2
       try clear hcz10_3
       try clear hcz11_0
       try clear hcz11_1
       try clear hcz11_2
       try clear hcz11_3
       try clear hcz17_0
       try clear hcz17_1
       try clear hcz17_2
       try clear hcz17_3
       try clear hcz19_0
       try clear hcz19_1
       try clear hcz19_2
       try clear hcz19_3
       try clear hcz8_0
       try clear hcz8_1
       try clear hcz8_2
       try clear hcz8_3
       try clear hfz10_0
       try clear hfz10_1
       try clear hfz10_2
       try clear hfz10_3
       try clear hfz11_0
       try clear hfz11_1
       try clear hfz11_2
       try clear hfz11_3
       try clear hfz17_0
       try clear hfz17_1
       try clear hfz17_2
       try clear hfz17_3
       try clear hfz19_0
       try clear hfz19_1
       try clear hfz19_2
       try clear hfz19_3
       try clear hfz8_0
       try clear hfz8_1
       try clear hfz8_2
       try clear hfz8_3
       try clear hx280_0
       try clear hx280_1
       try clear hx284_0
       try clear hx284_1
       obtain ⟨x7_2, x8_2, x39_2, rfl, HA, HK2, HO_7, HO_8, BK277, HB⟩ := hrel
       cases gk with
       | zero => exact absurd HA.out (by simp [spec_TouchedBy.l0])
       | succ k2 =>
        have H := HA.out
        clear HA
        simp only [spec_TouchedBy.l0] at H
        by_cases c20 : x39_2 < (((rd_T50 l0_3 a1).f1).length : Int)
        ·rw [if_pos c20] at H
         have c20b0 := decide_eq_true c20
         clear c20
         by_cases c21 : 0 ≤ x39_2
         ·rw [if_pos c21] at H
          have c21b0 := decide_eq_true c21
          clear c21
          by_cases c22 : x39_2 < (((rd_T50 l0_3 a1).f1).length : Int)
          ·rw [if_pos c22] at H
           have c22b0 := decide_eq_true c22
           clear c22
           by_cases c23 : x8_2.length < 17592186044416
           ·rw [if_pos c23] at H
            have LMc23 := am_ c23
            clear c23
            obtain ⟨y287, hy287⟩ : ∃ y_ : List Int, y_ = (x8_2 ++ [(rd_T52 ((rd_T50 l0_3 a1).f1) x39_2).f0]) := ⟨_, rfl⟩
            replace H : ((spec_l2Vars.f k2 ((rd_T52 ((rd_T50 l0_3 a1).f1) x39_2).f1)).bind fun t290 => (spec_TouchedBy.l1 k2 x7_2 y287 ((rd_T50 l0_3 a1).f1) (((rd_T50 l0_3 a1).f1).length : Int) x39_2 t290 (t290.length : Int) 0)) = some (r1, r2, r3) := by first | (rw [hy287]; with_reducible exact H) | (have H2_ := (Option.bind_some _ _).symm.trans H; rw [hy287]; with_reducible exact H2_) | (have H2_ := (Option.bind_some _ _).symm.trans H; with_reducible exact H2_) | with_reducible exact H | (rw [hy287]; exact H) | exact H
            have Ny287 := am_ hy287
            clear hy287
            obtain ⟨t290, A24, H⟩ := Sh.ba H
            have H' := am_ H
            clear H
            have p285 : 0 ≤ (x39_2 : Int) := Sh.od
            have q285 : x39_2 < (((rd_T50 l0_3 a1).f1).length : Int) := Sh.od
            obtain ⟨ad285, A285_1, c285_1, e285, hx285_0, hx285_1, hl285_1, hi285_1⟩ := at_T52 HR284_1.out x39_2 p285 q285
            cases e285
            try replace hx285_0 := Sh.cw hx285_0
            try replace hx285_1 := Sh.cw hx285_1
            have HR285_1 := am_ hi285_1
            have HC285_1 := am_ hl285_1
            clear hi285_1 hl285_1
            replace p285 := eq_true p285
            replace q285 := eq_true q285
            go_wp2_with (first | ((with_reducible refine Sh.d 10 ?_); (try (refine gate_guard (by rfl) ?_; dsimp only)); refine Sh.bx (N := 10) (cs := #[.int .i64 0, .slice none 0 0]) (t := 52) (h := ?_); intro gb286 hg w25 hbox hb; replace HO_7 := am_ (Kd.R_below (Sh.rl HO_7.out) hb); replace HO_8 := am_ (Kd.R_below (Sh.rl HO_8.out) hb); have BK286 := am_ hbox; have GE286 := Sh.ag w hg; replace HB := Sh.hb hb; have NB277_286 := am_ (Sh.nl hg BK277.out); have NB286_277 := am_ (Sh.ng hg BK277.out); replace BK277 := Sh.ab BK277 hb; clear hb hbox hg; have hnb26 := NB286_277.out; have hnc26 := NB277_286.out; obtain ⟨hcz27_0, hcz27_1, hfz27_0, hfz27_1⟩ := Sh.b2 BK286.out) | ((with_reducible refine gate_builtin (b := .append) (xs := #[.tmp 43, .tmp 46]) rfl ?_); (try (refine gate_guard (by rfl) ?_; dsimp only)); at_builtin; refine Kd.R_append (Kd.int .i64) (w0 := w) w.heap.size rfl (.tmp 43) (.tmp 46) 27 3 (.int .i64 0) 8 rfl Try.underlying27 info3 rfl (by decide) (by omega) u8 x8_2 ((rd_T52 ((rd_T50 l0_3 a1).f1) x39_2).f0) [.int .i64 ((rd_T52 ((rd_T50 l0_3 a1).f1) x39_2).f0)] (fun k_ => some k_ ≠ (u7 : Value).ownBlock) (fun _ => False) rfl (by first | (go_simp; done) | (go_simp; rfl)) ?aP (fun _ hk => hk.elim) ?aF ?aO ?aB ?aS ?aL ?_; (case aP => exact rfl); (case aB => exact Sh.bw); (case aF => exact (fun k_ hk => Kd.fresh' (Kd.R_lt (Sh.rl (Kd.R_mono (Kd.R_far (p := ⟨gb286, 1, none⟩) (Kd.R_far (p := ⟨gb286, 0, none⟩) (Kd.R_types HO_7.out BK286.out (by decide)) (fun _ hk => hk.2) (.int .i64 ((rd_T52 ((rd_T50 l0_3 a1).f1) x39_2).f0))) (fun _ hk => hk.2) (.slice A285_1 ((rd_T52 ((rd_T50 l0_3 a1).f1) x39_2).f1).length c285_1)) (fun _ h_ => h_.1)))) k_ hk)); (case aO => exact (Sh.rl (Kd.R_mono (Kd.R_far (p := ⟨gb286, 1, none⟩) (Kd.R_far (p := ⟨gb286, 0, none⟩) (Kd.R_types HO_8.out BK286.out (by decide)) (fun _ hk => hk.2) (.int .i64 ((rd_T52 ((rd_T50 l0_3 a1).f1) x39_2).f0))) (fun _ hk => hk.2) (.slice A285_1 ((rd_T52 ((rd_T50 l0_3 a1).f1) x39_2).f1).length c285_1)) (fun _ hk => hk.1)))); (case aS => exact (below_size Sh.bw)); (case aL => have := LMc23.out; omega); intro v288 w28 ho hb hg hat; rw [← Ny287.out] at ho; have n0_ := am_ (Kd.R_after (ok := (fun _ => True)) (Sh.rl (Kd.R_mono (Kd.R_far (p := ⟨gb286, 1, none⟩) (Kd.R_far (p := ⟨gb286, 0, none⟩) (Kd.R_types HO_7.out BK286.out (by decide)) (fun _ hk => hk.2) (.int .i64 ((rd_T52 ((rd_T50 l0_3 a1).f1) x39_2).f0))) (fun _ hk => hk.2) (.slice A285_1 ((rd_T52 ((rd_T50 l0_3 a1).f1) x39_2).f1).length c285_1)) (fun _ hk => ⟨trivial, hk.1⟩))) hg hat); have n1_ := am_ (blk_grown (g := gb277) (o := .cells #[.int .i64 a0_0, .int .i64 a0_1, .slice A0_2 l0_2.length c0_2, .slice (some ad280) l0_3.length c0_3] 33 (0, 0)) (by refine Sh.pl ?_; refine blk_far ?_ NB277_286.out _; refine Sh.pl ?_; refine blk_far ?_ NB277_286.out _; refine Sh.pl ?_; exact BK277.out) hg (Kd.R_ne HO_8.out BK277.out (by decide))); have n2_ := am_ (blk_grown (g := gb286) (o := .cells #[.int .i64 ((rd_T52 ((rd_T50 l0_3 a1).f1) x39_2).f0), .slice A285_1 ((rd_T52 ((rd_T50 l0_3 a1).f1) x39_2).f1).length c285_1] 52 (0, 0)) (by refine Sh.pl ?_; refine blk_put (cs := #[.int .i64 ((rd_T52 ((rd_T50 l0_3 a1).f1) x39_2).f0), .slice none 0 0]) ?_ 1 _ rfl; refine Sh.pl ?_; refine blk_put (cs := #[.int .i64 0, .slice none 0 0]) ?_ 0 _ rfl; refine Sh.pl ?_; exact BK286.out) hg (Kd.R_ne HO_8.out BK286.out (by decide))); have n3_ := am_ hb; have n4_ := am_ ho; clear HO_7; clear BK277; clear BK286; clear HB; clear HO_8; have HO_7 := n0_; have BK277 := n1_; have BK286 := n2_; have HB := n3_; have HO289 := n4_; clear n0_ n1_ n2_ n3_ n4_; clear ho hb hg hat; obtain ⟨hcz29_0, hcz29_1, hfz29_0, hfz29_1⟩ := Sh.b2 BK286.out) | ((with_reducible refine Sh.k 20 ?_); refine Sh.gL (some 50) Try.func20 #[.slice A285_1 ((rd_T52 ((rd_T50 l0_3 a1).f1) x39_2).f1).length c285_1] (h := ?_); (with_reducible refine (spec_l2Vars.calls k2 _ _ ((rd_T52 ((rd_T50 l0_3 a1).f1) x39_2).f1) t290 _ (Sh.cB HR285_1.out) HC285_1.out A24.out).mono ?_); rintro e w30 ⟨v291, rfl, ho0, hb⟩; refine ⟨_, rfl, ?_⟩; have HO292 := am_ (Kd.R_lower (Kd.R_new' (Kd.R_new' ho0 (Kd.R_lt (Sh.rl HO_7.out))) (Kd.R_lt (Sh.rl HO289.out))) (below_size Sh.bw)); replace HO_7 := am_ (Kd.R_elder' (Sh.rl HO_7.out) (Kd.R_base ho0) hb); replace HO289 := am_ (Kd.R_elder' (Sh.rl HO289.out) (Kd.R_base ho0) hb); replace BK277 := Sh.ab BK277 hb; replace BK286 := Sh.ab BK286 hb; replace HB := Sh.hb hb; (try clear hb); (try clear hb2); (try clear hk); (try clear hi); (try clear ho0); obtain ⟨Ao31, co31, eo31⟩ := Kd.R_slice HO292.out; subst eo31))
            go_loopg [7, 52] k2 (fun kq v7 v52 w' => ∃ (x7_3 : List Int) (x52_3 : Int), v52 = .int .i64 x52_3 ∧ Aside0 (spec_TouchedBy.l1 kq x7_3 y287 ((rd_T50 l0_3 a1).f1) (((rd_T50 l0_3 a1).f1).length : Int) x39_2 t290 (t290.length : Int) x52_3 = some (r1, r2, r3)) ∧ Aside0 (kq ≤ k2) ∧ Aside0 (Kd.R (Kd.int .i64) 3 w' w.heap.size (fun k_ => some k_ ≠ (v288 : Value).ownBlock ∧ some k_ ≠ ((.slice Ao31 t290.length co31) : Value).ownBlock) v7 x7_3) ∧ Aside0 (Kd.R (Kd.int .i64) 3 w' w.heap.size (fun k_ => some k_ ≠ (v7 : Value).ownBlock ∧ some k_ ≠ ((.slice Ao31 t290.length co31) : Value).ownBlock) v288 y287) ∧ Aside0 (Kd.R (Kd.int .i64) 3 w' w.heap.size (fun k_ => some k_ ≠ (v7 : Value).ownBlock ∧ some k_ ≠ (v288 : Value).ownBlock) (.slice Ao31 t290.length co31) t290) ∧ Aside0 (w'.heap[gb277]? = some (.cells #[.int .i64 a0_0, .int .i64 a0_1, (.slice A0_2 l0_2.length c0_2), (.slice (some ad280) l0_3.length c0_3)] 33 (0, 0))) ∧ Aside0 (w'.heap[gb286]? = some (.cells #[.int .i64 ((rd_T52 ((rd_T50 l0_3 a1).f1) x39_2).f0), (.slice A285_1 ((rd_T52 ((rd_T50 l0_3 a1).f1) x39_2).f1).length c285_1)] 52 (0, 0))) ∧ Aside0 (Below w.heap.size w w'))
            case atStart => exact ⟨(x7_2), (0), (Sh.es), H', ⟨Nat.le_refl _⟩, ⟨Sh.rl (Kd.R_mono HO_7.out (fun _ h => ⟨h.1.2, h.2⟩))⟩, ⟨Sh.rl HO289.out⟩, ⟨Sh.rl (Kd.R_mono HO292.out (fun _ h => ⟨h.1.2, h.2⟩))⟩, ⟨by refine Sh.pl ?_; exact BK277.out⟩, ⟨by refine Sh.pl ?_; exact BK286.out⟩, ⟨Sh.bw⟩⟩
            case round =>
             clear H'
             try clear hx2
             try clear hx28
             try clear hcz10_0
             try clear hcz10_1
             try clear hcz10_2
             try clear hcz10_3
             try clear hcz11_0
             try clear hcz11_1
             try clear hcz11_2
             try clear hcz11_3
             try clear hcz17_0
             try clear hcz17_1
             try clear hcz17_2
             try clear hcz17_3
             try clear hcz19_0
             try clear hcz19_1
             try clear hcz19_2
             try clear hcz19_3
             try clear hcz27_0
             try clear hcz27_1
             try clear hcz29_0
             try clear hcz29_1
             try clear hcz8_0
             try clear hcz8_1
             try clear hcz8_2
             try clear hcz8_3
             try clear hfz10_0
             try clear hfz10_1
             try clear hfz10_2
             try clear hfz10_3
             try clear hfz11_0
             try clear hfz11_1
             try clear hfz11_2
             try clear hfz11_3
             try clear hfz17_0
             try clear hfz17_1
             try clear hfz17_2
             try clear hfz17_3
             try clear hfz19_0
             try clear hfz19_1
             try clear hfz19_2
             try clear hfz19_3
             try clear hfz27_0
             try clear hfz27_1
             try clear hfz29_0
             try clear hfz29_1
             try clear hfz8_0
             try clear hfz8_1
             try clear hfz8_2
             try clear hfz8_3
             try clear hx280_0
             try clear hx280_1
             try clear hx284_0
             try clear hx284_1
             try clear hx285_0
             try clear hx285_1
             obtain ⟨x7_3, x52_3, rfl, HA, HK3, HO_7, HO_8, HO_50, BK277, BK286, HB⟩ := hrel
             cases gk with
             | zero => exact absurd HA.out (by simp [spec_TouchedBy.l1])
             | succ k3 =>
              have H := HA.out
              clear HA
              simp only [spec_TouchedBy.l1] at H
              by_cases c32 : x52_3 < (t290.length : Int)
              ·rw [if_pos c32] at H
               have c32b0 := decide_eq_true c32
               clear c32
               by_cases c33 : 0 ≤ x52_3
               ·rw [if_pos c33] at H
                have c33b0 := decide_eq_true c33
                clear c33
                by_cases c34 : x52_3 < (t290.length : Int)
                ·rw [if_pos c34] at H
                 have c34b0 := decide_eq_true c34
                 clear c34
                 obtain ⟨t294, A35, H⟩ := Sh.ba H
                 have H' := am_ H
                 clear H
                 have p293 : 0 ≤ (x52_3 : Int) := Sh.od
                 have q293 : x52_3 < (t290.length : Int) := Sh.od
                 obtain ⟨ad293, e293, hx293_0⟩ := Kd.at_int (Kd.R_reads' HO_50.out).2.2 x52_3 p293 q293
                 cases e293
                 replace p293 := eq_true p293
                 replace q293 := eq_true q293
                 obtain ⟨Ao36, co36, eo36⟩ := Kd.R_slice HO_7.out
                 subst eo36
                 go_wp2_with (first | ((with_reducible refine Sh.k 21 ?_); refine Sh.gL (some 58) Try.func21 #[.slice Ao36 x7_3.length co36, .int .i64 (rd t290 x52_3)] (h := ?_); (with_reducible refine (spec_l1Put.calls k3 (fun k_ => some k_ = (.slice Ao36 x7_3.length co36 : Value).ownBlock) (.slice Ao36 x7_3.length co36) x7_3 (rd t290 x52_3) t294 w _ ?side1 ?side2 A35.out).mono ?_); (case side1 => repeat (first | (with_reducible first | exact HB.out | apply below_alloc | apply pw_below_drewN | apply below_drew1 | refine below_set ?_ GE277.out | refine below_set ?_ GE286.out) | exact HB.out)); (case side2 => exact Kd.R_tight rfl HO_7.out); rintro e w37 ⟨v295, rfl, ho0, hb, hkp⟩; refine ⟨_, rfl, ?_⟩; have n0_ := am_ (Kd.R_mono (ok' := fun k_ => some k_ ≠ (.slice (some ad293) t290.length co31 : Value).ownBlock ∧ some k_ ≠ (v295 : Value).ownBlock) (Kd.R_keptB (HO_8.out) hkp (fun k_ hk_ hs_ => (hk_.1) hs_)) (fun k_ hk_ => ⟨hk_.1.2, fun e_ => Or.elim (ho0.1 k_ e_.symm) (fun hs_ => hk_.2.1 hs_) (fun hn_ => Nat.not_le.2 hk_.2.2 hn_)⟩)); have n1_ := am_ (Kd.R_mono (ok' := fun k_ => some k_ ≠ (v288 : Value).ownBlock ∧ some k_ ≠ (v295 : Value).ownBlock) (Kd.R_keptB (HO_50.out) hkp (fun k_ hk_ hs_ => (hk_.1) hs_)) (fun k_ hk_ => ⟨hk_.1.2, fun e_ => Or.elim (ho0.1 k_ e_.symm) (fun hs_ => hk_.2.1 hs_) (fun hn_ => Nat.not_le.2 hk_.2.2 hn_)⟩)); have n2_ := am_ (blk_kept (Sh.pl BK277.out) hkp (fun hs_ => (fun e_ => (Kd.R_ne HO_7.out BK277.out (by decide)) e_) hs_)); have n3_ := am_ (blk_kept (Sh.pl BK286.out) hkp (fun hs_ => (fun e_ => (Kd.R_ne HO_7.out BK286.out (by decide)) e_) hs_)); have n4_ := am_ (Kd.R_mono (ok' := fun k_ => some k_ ≠ (v288 : Value).ownBlock ∧ some k_ ≠ (.slice (some ad293) t290.length co31 : Value).ownBlock) ho0 (fun k_ hk_ => ⟨Or.elim hk_ (fun hs_ => fun e_ => (((HO_8.out).1 k_ e_.symm).1) hs_) (fun hn_ => (Kd.fresh' (Kd.R_lt (Sh.rl HO_8.out)) k_ hn_)), Or.elim hk_ (fun hs_ => fun e_ => (((HO_50.out).1 k_ e_.symm).1) hs_) (fun hn_ => (Kd.fresh' (Kd.R_lt (Sh.rl HO_50.out)) k_ hn_))⟩)); have n5_ := am_ hb; clear HO_8; clear HO_50; clear BK277; clear BK286; clear HB; clear HO_7; have HO_8 := n0_; have HO_50 := n1_; have BK277 := n2_; have BK286 := n3_; have HO296 := n4_; have HB := n5_; clear n0_ n1_ n2_ n3_ n4_ n5_; (try clear hb); (try clear hkp); (try clear ho0)))
                 go_roundg k3
                 case measure => have := HJ2.out; have := HK2.out; have := HK3.out; omega
                 case rel => exact ⟨(t294), (wrap64 (x52_3 + 1)), (Sh.es), H', ⟨by have := HJ2.out; have := HK2.out; have := HK3.out; omega⟩, ⟨Sh.rl HO296.out⟩, ⟨Sh.rl (Kd.R_mono HO_8.out (fun _ h => ⟨h.2, h.1⟩))⟩, ⟨Sh.rl (Kd.R_mono HO_50.out (fun _ h => ⟨h.2, h.1⟩))⟩, ⟨by refine Sh.pl ?_; exact BK277.out⟩, ⟨by refine Sh.pl ?_; exact BK286.out⟩, ⟨Sh.bw⟩⟩
                ·rw [if_neg c34] at H
                 exact absurd H (by simp)
               ·rw [if_neg c33] at H
                exact absurd H (by simp)
              ·rw [if_neg c32] at H
               have c32b0 := decide_eq_false c32
               clear c32
               have H' := am_ H
               clear H
               go_wp2
               go_roundg k3
               case measure => have := HJ2.out; have := HK2.out; have := HK3.out; omega
               case rel => exact ⟨(x7_3), (y287), (wrap64 (x39_2 + 1)), (Sh.es), H', ⟨by have := HJ2.out; have := HK2.out; have := HK3.out; omega⟩, ⟨Sh.rl (Kd.R_mono HO_7.out (fun _ hk => hk.1))⟩, ⟨Sh.rl (Kd.R_mono HO_8.out (fun _ hk => hk.1))⟩, ⟨by refine Sh.pl ?_; exact BK277.out⟩, ⟨Sh.bw⟩⟩
           ·rw [if_neg c23] at H
            exact absurd H (by simp)
          ·rw [if_neg c22] at H
           exact absurd H (by simp)
         ·rw [if_neg c21] at H
          exact absurd H (by simp)
        ·rw [if_neg c20] at H
         have c20b0 := decide_eq_false c20
         clear c20
         simp only [Option.some.injEq, Prod.mk.injEq] at H
         obtain ⟨rfl, rfl, rfl⟩ := H
         go_wp2
         go_ret3
         exact ⟨_, _, by first | rfl | (simp [errW_none, errW_some] <;> rfl) | (simp [*, errW_none, errW_some] <;> rfl), Sh.rl HO_7.out, Sh.rl HO_8.out, Sh.bw⟩
     ·rw [if_neg c15] at H
      exact absurd H (by simp)
    ·rw [if_neg c14] at H
     exact absurd H (by simp)
def spec_l1Has.l0 : Nat → Int → List Int → Int → Int → Option (Bool)
 | 0, _, _, _, _ => none
 | k + 1, x1, x7, x8, x9 => if x9 < x8 then (if 0 ≤ x9 then (if x9 < (x7.length : Int) then (if (rd x7 x9) = x1 then (some true) else (spec_l1Has.l0 k x1 x7 x8 (wrap64 (x9 + 1)))) else (none)) else (none)) else (some false)
def spec_l1Has.f (k : Nat) (l0 : List Int) (a1 : Int) : Option (Bool) := spec_l1Has.l0 k a1 l0 (l0.length : Int) 0
theorem spec_l1Has.mono_l : ∀ k, (∀ y0 y1 y2 y3, LeO (spec_l1Has.l0 k y0 y1 y2 y3) (spec_l1Has.l0 (k + 1) y0 y1 y2 y3))
 | 0 => fun _ _ _ _ r h => by simp [spec_l1Has.l0] at h
 | k + 1 => by
  have ih0 := spec_l1Has.mono_l k
  ·intro y0 y1 y2 y3
   unfold spec_l1Has.l0
   repeat' with_reducible first | apply ih0 | exact LeO.refl _ | exact LeO.none _ | apply LeO.ite | refine LeO.bind ?_ fun _ => ?_
theorem spec_l1Has.mono : ∀ a0 a1 k, LeO (spec_l1Has.f k a0 a1) (spec_l1Has.f (k + 1) a0 a1) := by
 intro a0 a1 k
 have ih0 := spec_l1Has.mono_l k
 unfold spec_l1Has.f
 repeat' with_reducible first | apply ih0 | exact LeO.refl _ | exact LeO.none _ | apply LeO.ite | refine LeO.bind ?_ fun _ => ?_
theorem spec_l1Has.calls (k : Nat) (A0 : Option Addr) (c0 : Nat) (l0 : List Int) (a1 : Int) (r : Bool) (w : World) (hr0 : Kd.C (Kd.int .i64) w A0 l0.length l0) (hc0 : l0.length ≤ c0) (h : spec_l1Has.f k l0 a1 = some r) :
  Calls Try.prog 54 #[.slice A0 l0.length c0, .int .i64 a1] w fun e w' => e = .returned (.bool r) ∧ Drawn0 w w' := by
 have HR0 := am_ hr0
 have HC0 := am_ hc0
 clear hr0 hc0
 have H := h
 clear h
 unfold spec_l1Has.f at H
 have H' := am_ H
 clear H
 go_enter Try.func54, Try.ntmps54
 go_wp2
 go_loopg [9] k (fun kq v9 w' => ∃ (x9_1 : Int), v9 = .int .i64 x9_1 ∧ Aside0 (spec_l1Has.l0 kq a1 l0 (l0.length : Int) x9_1 = some r) ∧ Aside0 (kq ≤ k) ∧ Drawn0 w w')
 case atStart => exact ⟨(0), (Sh.es), H', ⟨Nat.le_refl _⟩, Sh.dr⟩
 case round =>
  clear H'
  obtain ⟨x9_1, rfl, HA, HK1, ⟨m1, rfl⟩⟩ := hrel
  cases gk with
  | zero => exact absurd HA.out (by simp [spec_l1Has.l0])
  | succ k1 =>
   have H := HA.out
   clear HA
   simp only [spec_l1Has.l0] at H
   by_cases c3 : x9_1 < (l0.length : Int)
   ·rw [if_pos c3] at H
    have c3b0 := decide_eq_true c3
    clear c3
    by_cases c4 : 0 ≤ x9_1
    ·rw [if_pos c4] at H
     have c4b0 := decide_eq_true c4
     clear c4
     by_cases c5 : x9_1 < (l0.length : Int)
     ·rw [if_pos c5] at H
      have c5b0 := decide_eq_true c5
      clear c5
      by_cases c6 : (rd l0 x9_1) = a1
      ·rw [if_pos c6] at H
       have c6b0 : ((rd l0 x9_1) == a1) = true := beq_iff_eq.mpr c6
       have c6b1 : ((rd l0 x9_1) != a1) = false := bne_eq_false_iff_eq.mpr c6
       clear c6
       obtain rfl := Option.some.inj H
       have p297 : 0 ≤ (x9_1 : Int) := Sh.od
       have q297 : x9_1 < (l0.length : Int) := Sh.od
       obtain ⟨ad297, e297, hx297_0⟩ := Kd.at_int HR0.out x9_1 p297 q297
       cases e297
       replace p297 := eq_true p297
       replace q297 := eq_true q297
       go_wp2
       go_ret
       exact ⟨Sh.es, Sh.dr⟩
      ·rw [if_neg c6] at H
       have c6b0 : ((rd l0 x9_1) == a1) = false := beq_eq_false_iff_ne.mpr c6
       have c6b1 : ((rd l0 x9_1) != a1) = true := bne_iff_ne.mpr c6
       have H' := am_ H
       clear H
       have p297 : 0 ≤ (x9_1 : Int) := Sh.od
       have q297 : x9_1 < (l0.length : Int) := Sh.od
       obtain ⟨ad297, e297, hx297_0⟩ := Kd.at_int HR0.out x9_1 p297 q297
       cases e297
       replace p297 := eq_true p297
       replace q297 := eq_true q297
       go_wp2
       go_roundg k1
       case measure => have := HK1.out; omega
       case rel => exact ⟨(wrap64 (x9_1 + 1)), (Sh.es), H', ⟨by have := HK1.out; omega⟩, Sh.dr⟩
     ·rw [if_neg c5] at H
      exact absurd H (by simp)
    ·rw [if_neg c4] at H
     exact absurd H (by simp)
   ·rw [if_neg c3] at H
    have c3b0 := decide_eq_false c3
    clear c3
    obtain rfl := Option.some.inj H
    go_wp2
    go_ret
    exact ⟨Sh.es, Sh.dr⟩
def spec_l7Meet.l0 : Nat → List Int → List Int → Int → Int → Option (Bool)
 | 0, _, _, _, _ => none
 | k + 1, x1, x7, x8, x9 => if x9 < x8 then (if 0 ≤ x9 then (if x9 < (x7.length : Int) then ((spec_l1Has.f k x1 (rd x7 x9)).bind fun t299 => (if t299 = true then (some true) else (spec_l7Meet.l0 k x1 x7 x8 (wrap64 (x9 + 1))))) else (none)) else (none)) else (some false)
def spec_l7Meet.f (k : Nat) (l0 : List Int) (l1 : List Int) : Option (Bool) := spec_l7Meet.l0 k l1 l0 (l0.length : Int) 0
theorem spec_l7Meet.mono_l : ∀ k, (∀ y0 y1 y2 y3, LeO (spec_l7Meet.l0 k y0 y1 y2 y3) (spec_l7Meet.l0 (k + 1) y0 y1 y2 y3))
 | 0 => fun _ _ _ _ r h => by simp [spec_l7Meet.l0] at h
 | k + 1 => by
  have ih0 := spec_l7Meet.mono_l k
  ·intro y0 y1 y2 y3
   unfold spec_l7Meet.l0
   repeat' with_reducible first | apply ih0 | apply spec_l1Has.mono | exact LeO.refl _ | exact LeO.none _ | apply LeO.ite | refine LeO.bind ?_ fun _ => ?_
theorem spec_l7Meet.mono : ∀ a0 a1 k, LeO (spec_l7Meet.f k a0 a1) (spec_l7Meet.f (k + 1) a0 a1) := by
 intro a0 a1 k
 have ih0 := spec_l7Meet.mono_l k
 unfold spec_l7Meet.f
 repeat' with_reducible first | apply ih0 | apply spec_l1Has.mono | exact LeO.refl _ | exact LeO.none _ | apply LeO.ite | refine LeO.bind ?_ fun _ => ?_
theorem spec_l7Meet.calls (k : Nat) (A0 : Option Addr) (c0 : Nat) (l0 : List Int) (A1 : Option Addr) (c1 : Nat) (l1 : List Int) (r : Bool) (w : World) (hr0 : Kd.C (Kd.int .i64) w A0 l0.length l0) (hc0 : l0.length ≤ c0) (hr1 : Kd.C (Kd.int .i64) w A1 l1.length l1) (hc1 : l1.length ≤ c1) (h : spec_l7Meet.f k l0 l1 = some r) :
  Calls Try.prog 33 #[.slice A0 l0.length c0, .slice A1 l1.length c1] w fun e w' => e = .returned (.bool r) ∧ Drawn0 w w' := by
 have HR0 := am_ hr0
 have HC0 := am_ hc0
 clear hr0 hc0
 have HR1 := am_ hr1
 have HC1 := am_ hc1
 clear hr1 hc1
 have H := h
 clear h
 unfold spec_l7Meet.f at H
 have H' := am_ H
 clear H
 go_enter Try.func33, Try.ntmps33
 go_wp2
 go_loopg [9] k (fun kq v9 w' => ∃ (x9_1 : Int), v9 = .int .i64 x9_1 ∧ Aside0 (spec_l7Meet.l0 kq l1 l0 (l0.length : Int) x9_1 = some r) ∧ Aside0 (kq ≤ k) ∧ Drawn0 w w')
 case atStart => exact ⟨(0), (Sh.es), H', ⟨Nat.le_refl _⟩, Sh.dr⟩
 case round =>
  clear H'
  obtain ⟨x9_1, rfl, HA, HK1, ⟨m1, rfl⟩⟩ := hrel
  cases gk with
  | zero => exact absurd HA.out (by simp [spec_l7Meet.l0])
  | succ k1 =>
   have H := HA.out
   clear HA
   simp only [spec_l7Meet.l0] at H
   by_cases c3 : x9_1 < (l0.length : Int)
   ·rw [if_pos c3] at H
    have c3b0 := decide_eq_true c3
    clear c3
    by_cases c4 : 0 ≤ x9_1
    ·rw [if_pos c4] at H
     have c4b0 := decide_eq_true c4
     clear c4
     by_cases c5 : x9_1 < (l0.length : Int)
     ·rw [if_pos c5] at H
      have c5b0 := decide_eq_true c5
      clear c5
      obtain ⟨t299, A6, H⟩ := Sh.ba H
      by_cases c7 : t299 = true
      ·subst c7
       rw [if_pos rfl] at H
       obtain rfl := Option.some.inj H
       have p298 : 0 ≤ (x9_1 : Int) := Sh.od
       have q298 : x9_1 < (l0.length : Int) := Sh.od
       obtain ⟨ad298, e298, hx298_0⟩ := Kd.at_int HR0.out x9_1 p298 q298
       cases e298
       replace p298 := eq_true p298
       replace q298 := eq_true q298
       go_wp2_with (first | ((with_reducible refine Sh.k 54 ?_); refine Sh.gL (some 15) Try.func54 #[.slice A1 l1.length c1, .int .i64 (rd l0 x9_1)] (h := ?_); (with_reducible refine (spec_l1Has.calls k1 _ _ l1 (rd l0 x9_1) true _ ?side1 ?side2 A6.out).mono ?_); (case side1 => repeat (first | exact HR1.out | (with_reducible first | refine Kd.C_alloc ?_ _ | refine Kd.C_drewN ?_ _ | refine Kd.C_drew ?_))); (case side2 => exact HC1.out); rintro e w' ⟨rfl, ⟨nd, rfl⟩⟩; refine ⟨_, rfl, ?_⟩))
       go_ret
       exact ⟨Sh.es, Sh.dr⟩
      ·replace c7 := Bool.eq_false_iff.mpr c7
       subst c7
       rw [Sh.nf] at H
       have H' := am_ H
       clear H
       have p298 : 0 ≤ (x9_1 : Int) := Sh.od
       have q298 : x9_1 < (l0.length : Int) := Sh.od
       obtain ⟨ad298, e298, hx298_0⟩ := Kd.at_int HR0.out x9_1 p298 q298
       cases e298
       replace p298 := eq_true p298
       replace q298 := eq_true q298
       go_wp2_with (first | ((with_reducible refine Sh.k 54 ?_); refine Sh.gL (some 15) Try.func54 #[.slice A1 l1.length c1, .int .i64 (rd l0 x9_1)] (h := ?_); (with_reducible refine (spec_l1Has.calls k1 _ _ l1 (rd l0 x9_1) false _ ?side1 ?side2 A6.out).mono ?_); (case side1 => repeat (first | exact HR1.out | (with_reducible first | refine Kd.C_alloc ?_ _ | refine Kd.C_drewN ?_ _ | refine Kd.C_drew ?_))); (case side2 => exact HC1.out); rintro e w' ⟨rfl, ⟨nd, rfl⟩⟩; refine ⟨_, rfl, ?_⟩))
       go_roundg k1
       case measure => have := HK1.out; omega
       case rel => exact ⟨(wrap64 (x9_1 + 1)), (Sh.es), H', ⟨by have := HK1.out; omega⟩, Sh.dr⟩
     ·rw [if_neg c5] at H
      exact absurd H (by simp)
    ·rw [if_neg c4] at H
     exact absurd H (by simp)
   ·rw [if_neg c3] at H
    have c3b0 := decide_eq_false c3
    clear c3
    obtain rfl := Option.some.inj H
    go_wp2
    go_ret
    exact ⟨Sh.es, Sh.dr⟩
def spec_Apart.j0 : Nat → List Int → List Int → List Int → List Int → Bool → Option (Bool × Bool)
 | 0, _, _, _, _, _ => none
 | k + 1, x8, x9, x11, x12, x33 => if x33 = true then (some (false, false)) else ((spec_l7Meet.f k x9 x11).bind fun t315 => (if t315 = true then (some (false, true)) else ((spec_l7Meet.f k x9 x12).bind fun t316 => (if t316 = true then (some (false, true)) else ((spec_l7Meet.f k x12 x8).bind fun t317 => (some (!t317, true)))))))
def spec_Apart.f (k : Nat) (a0_0 : Int) (a0_1 : Int) (l0_2 : List (S73)) (l0_3 : List (S50)) (a1 : Int) (a2 : Int) : Option (Bool × Bool) := (spec_TouchedBy.f k a0_0 a0_1 l0_2 l0_3 a1).bind fun bt301 => ((spec_TouchedBy.f k a0_0 a0_1 l0_2 l0_3 a2).bind fun bt308 => (if bt301.2.2 = true then (spec_Apart.j0 k bt301.1 bt301.2.1 bt308.1 bt308.2.1 (!bt308.2.2)) else (spec_Apart.j0 k bt301.1 bt301.2.1 bt308.1 bt308.2.1 true)))
theorem spec_Apart.mono_l : ∀ k, (∀ y0 y1 y2 y3 y4, LeO (spec_Apart.j0 k y0 y1 y2 y3 y4) (spec_Apart.j0 (k + 1) y0 y1 y2 y3 y4))
 | 0 => fun _ _ _ _ _ r h => by simp [spec_Apart.j0] at h
 | k + 1 => by
  have ih0 := spec_Apart.mono_l k
  ·intro y0 y1 y2 y3 y4
   unfold spec_Apart.j0
   repeat' with_reducible first | apply ih0 | apply spec_TouchedBy.mono | apply spec_l7Meet.mono | exact LeO.refl _ | exact LeO.none _ | apply LeO.ite | refine LeO.bind ?_ fun _ => ?_
theorem spec_Apart.mono : ∀ a0 a1 a2 a3 a4 a5 k, LeO (spec_Apart.f k a0 a1 a2 a3 a4 a5) (spec_Apart.f (k + 1) a0 a1 a2 a3 a4 a5) := by
 intro a0 a1 a2 a3 a4 a5 k
 have ih0 := spec_Apart.mono_l k
 unfold spec_Apart.f
 repeat' with_reducible first | apply ih0 | apply spec_TouchedBy.mono | apply spec_l7Meet.mono | exact LeO.refl _ | exact LeO.none _ | apply LeO.ite | refine LeO.bind ?_ fun _ => ?_
theorem spec_Apart.calls (k : Nat) (a0_0 : Int) (a0_1 : Int) (A0_2 : Option Addr) (c0_2 : Nat) (l0_2 : List (S73)) (A0_3 : Option Addr) (c0_3 : Nat) (l0_3 : List (S50)) (a1 : Int) (a2 : Int) (r1 : Bool) (r2 : Bool) (w : World) (hr0_2 : Kd.C k73 w A0_2 l0_2.length l0_2) (hc0_2 : l0_2.length ≤ c0_2) (hr0_3 : Kd.C k50 w A0_3 l0_3.length l0_3) (hc0_3 : l0_3.length ≤ c0_3) (h : spec_Apart.f k a0_0 a0_1 l0_2 l0_3 a1 a2 = some (r1, r2)) :
  Calls Try.prog 14 #[.agg #[.int .i64 a0_0, .int .i64 a0_1, .slice A0_2 l0_2.length c0_2, .slice A0_3 l0_3.length c0_3], .int .i64 a1, .int .i64 a2] w fun e w' => e = .returned (.tuple #[.bool r1, .bool r2]) ∧ Below w.heap.size w w' := by
 have hu33 := Try.underlying33
 have HR0_2 := am_ hr0_2
 have HC0_2 := am_ hc0_2
 clear hr0_2 hc0_2
 have HR0_3 := am_ hr0_3
 have HC0_3 := am_ hc0_3
 clear hr0_3 hc0_3
 have HB := am_ (Below.refl w.heap.size w)
 have H := h
 clear h
 unfold spec_Apart.f at H
 obtain ⟨⟨t301, t304, t307⟩, A40, H⟩ := Sh.bd H
 have A4 := am_ A40
 clear A40
 obtain ⟨⟨t308, t311, t314⟩, A50, H⟩ := Sh.bd H
 have A5 := am_ A50
 clear A50
 have HC6 := am_ H
 clear H
 go_enter Try.func14, Try.ntmps14
 go_upto_region 3 with (first | ((with_reducible refine Sh.d 3 ?_); refine Sh.bz w (N := 3) (cs := #[.int .i64 a0_0, .int .i64 a0_1, .slice A0_2 l0_2.length c0_2, .slice A0_3 l0_3.length c0_3]) (t := 33) (h := ?_); clear HB; intro gb300 w7 BK300 GE300 HB; obtain ⟨hcz8_0, hcz8_1, hcz8_2, hcz8_3, hfz8_0, hfz8_1, hfz8_2, hfz8_3⟩ := Sh.b4 BK300.out) | ((with_reducible refine Sh.k 6 ?_); refine Sh.gL (some 17) Try.func6 #[.agg #[.int .i64 a0_0, .int .i64 a0_1, .slice A0_2 l0_2.length c0_2, .slice A0_3 l0_3.length c0_3], .int .i64 a1] (h := ?_); (with_reducible refine (spec_TouchedBy.calls k a0_0 a0_1 _ _ l0_2 _ _ l0_3 a1 t301 t304 t307 _ (Sh.cB HR0_2.out) HC0_2.out (Sh.cB HR0_3.out) HC0_3.out A4.out).mono ?_); rintro e w9 ⟨v302, v305, rfl, ho0, ho1, hb⟩; refine ⟨_, rfl, ?_⟩; have HO303 := am_ (Kd.R_lower ho0 (below_size Sh.bw)); have HO306 := am_ (Kd.R_lower ho1 (below_size Sh.bw)); replace BK300 := Sh.ab BK300 hb; replace HB := Sh.hb hb; (try clear hb); (try clear hb2); (try clear hk); (try clear hi); (try clear ho0); (try clear ho1); obtain ⟨hcz10_0, hcz10_1, hcz10_2, hcz10_3, hfz10_0, hfz10_1, hfz10_2, hfz10_3⟩ := Sh.b4 BK300.out) | ((with_reducible refine Sh.k 6 ?_); refine Sh.gL (some 24) Try.func6 #[.agg #[.int .i64 a0_0, .int .i64 a0_1, .slice A0_2 l0_2.length c0_2, .slice A0_3 l0_3.length c0_3], .int .i64 a2] (h := ?_); (with_reducible refine (spec_TouchedBy.calls k a0_0 a0_1 _ _ l0_2 _ _ l0_3 a2 t308 t311 t314 _ (Sh.cB HR0_2.out) HC0_2.out (Sh.cB HR0_3.out) HC0_3.out A5.out).mono ?_); rintro e w11 ⟨v309, v312, rfl, ho0, ho1, hb⟩; refine ⟨_, rfl, ?_⟩; have HO310 := am_ (Kd.R_lower (Kd.R_new' (Kd.R_new' ho0 (Kd.R_lt (Sh.rl HO303.out))) (Kd.R_lt (Sh.rl HO306.out))) (below_size Sh.bw)); have HO313 := am_ (Kd.R_lower (Kd.R_new' (Kd.R_new' ho1 (Kd.R_lt (Sh.rl HO303.out))) (Kd.R_lt (Sh.rl HO306.out))) (below_size Sh.bw)); replace HO303 := am_ (Kd.R_mono (Kd.R_told (Kd.R_told (Kd.R_old (Sh.rl HO303.out) hb) (Kd.R_base ho0)) (Kd.R_base ho1)) (fun _ h_ => h_.1)); replace HO306 := am_ (Kd.R_mono (Kd.R_told (Kd.R_told (Kd.R_old (Sh.rl HO306.out) hb) (Kd.R_base ho0)) (Kd.R_base ho1)) (fun _ h_ => h_.1)); replace BK300 := Sh.ab BK300 hb; replace HB := Sh.hb hb; (try clear hb); (try clear hb2); (try clear hk); (try clear hi); (try clear ho0); (try clear ho1)))
 (try simp only [Act.put, List.setIfInBounds_toArray, List.set_cons_zero, List.set_cons_succ])
 go_cut [33] (fun v33 wc => ∃ (kq : Nat) (x33_5 : Bool), v33 = .bool x33_5 ∧ Aside0 (spec_Apart.j0 kq t301 t304 t308 t311 x33_5 = some (r1, r2)) ∧ Aside0 (kq ≤ k) ∧ Aside0 (Kd.R (Kd.int .i64) 3 wc w.heap.size (fun k_ => some k_ ≠ (v305 : Value).ownBlock ∧ some k_ ≠ (v309 : Value).ownBlock ∧ some k_ ≠ (v312 : Value).ownBlock) v302 t301) ∧ Aside0 (Kd.R (Kd.int .i64) 3 wc w.heap.size (fun k_ => some k_ ≠ (v302 : Value).ownBlock ∧ some k_ ≠ (v309 : Value).ownBlock ∧ some k_ ≠ (v312 : Value).ownBlock) v305 t304) ∧ Aside0 (Kd.R (Kd.int .i64) 3 wc w.heap.size (fun k_ => some k_ ≠ (v302 : Value).ownBlock ∧ some k_ ≠ (v305 : Value).ownBlock ∧ some k_ ≠ (v312 : Value).ownBlock) v309 t308) ∧ Aside0 (Kd.R (Kd.int .i64) 3 wc w.heap.size (fun k_ => some k_ ≠ (v302 : Value).ownBlock ∧ some k_ ≠ (v305 : Value).ownBlock ∧ some k_ ≠ (v309 : Value).ownBlock) v312 t311) ∧ Aside0 (wc.heap[gb300]? = some (.cells #[.int .i64 a0_0, .int .i64 a0_1, (.slice A0_2 l0_2.length c0_2), (.slice A0_3 l0_3.length c0_3)] 33 (0, 0))) ∧ Aside0 (Below w.heap.size w wc))
 case first =>
  have H := HC6.out
  clear HC6
  by_cases c12 : t307 = true
  ·subst c12
   rw [if_pos rfl] at H
   have H' := am_ H
   clear H
   go_wp2
   go_meet
   case rel => exact ⟨_, (!t314), (Sh.es), H', ⟨Sh.om⟩, ⟨Sh.rl (Kd.R_mono HO303.out (fun _ h => ⟨h.1.1, h.1.2, h.2⟩))⟩, ⟨Sh.rl (Kd.R_mono HO306.out (fun _ h => ⟨h.1.1, h.1.2, h.2⟩))⟩, ⟨Sh.rl (Kd.R_mono HO310.out (fun _ h => ⟨h.1.2, h.2, h.1.1⟩))⟩, ⟨Sh.rl (Kd.R_mono HO313.out (fun _ h => ⟨h.1.2, h.2, h.1.1⟩))⟩, ⟨by refine Sh.pl ?_; exact BK300.out⟩, ⟨Sh.bw⟩⟩
  ·replace c12 := Bool.eq_false_iff.mpr c12
   subst c12
   rw [Sh.nf] at H
   have H' := am_ H
   clear H
   go_wp2
   go_meet
   case rel => exact ⟨_, (true), (Sh.es), H', ⟨Sh.om⟩, ⟨Sh.rl (Kd.R_mono HO303.out (fun _ h => ⟨h.1.1, h.1.2, h.2⟩))⟩, ⟨Sh.rl (Kd.R_mono HO306.out (fun _ h => ⟨h.1.1, h.1.2, h.2⟩))⟩, ⟨Sh.rl (Kd.R_mono HO310.out (fun _ h => ⟨h.1.2, h.2, h.1.1⟩))⟩, ⟨Sh.rl (Kd.R_mono HO313.out (fun _ h => ⟨h.1.2, h.2, h.1.1⟩))⟩, ⟨by refine Sh.pl ?_; exact BK300.out⟩, ⟨Sh.bw⟩⟩
 case rest =>
  clear HC6
  try clear hcz10_0
  try clear hcz10_1
  try clear hcz10_2
  try clear hcz10_3
  try clear hcz8_0
  try clear hcz8_1
  try clear hcz8_2
  try clear hcz8_3
  try clear hfz10_0
  try clear hfz10_1
  try clear hfz10_2
  try clear hfz10_3
  try clear hfz8_0
  try clear hfz8_1
  try clear hfz8_2
  try clear hfz8_3
  obtain ⟨kq, x33_5, rfl, HA, HJ5, HO_8, HO_9, HO_11, HO_12, BK300, HB⟩ := hcut
  cases kq with
  | zero => exact absurd HA.out (by simp [spec_Apart.j0])
  | succ kj5 =>
   have H := HA.out
   clear HA
   simp only [spec_Apart.j0] at H
   by_cases c13 : x33_5 = true
   ·subst c13
    rw [if_pos rfl] at H
    simp only [Option.some.injEq, Prod.mk.injEq] at H
    obtain ⟨rfl, rfl⟩ := H
    go_wp2
    go_ret2
    exact ⟨Sh.eR, Sh.bw⟩
   ·replace c13 := Bool.eq_false_iff.mpr c13
    subst c13
    rw [Sh.nf] at H
    obtain ⟨t315, A14, H⟩ := Sh.ba H
    by_cases c15 : t315 = true
    ·subst c15
     rw [if_pos rfl] at H
     simp only [Option.some.injEq, Prod.mk.injEq] at H
     obtain ⟨rfl, rfl⟩ := H
     obtain ⟨Ao16, co16, eo16⟩ := Kd.R_slice HO_9.out
     subst eo16
     obtain ⟨Ao17, co17, eo17⟩ := Kd.R_slice HO_11.out
     subst eo17
     go_wp2_with (first | ((with_reducible refine Sh.k 33 ?_); refine Sh.gD (some 36) Try.func33 #[.slice Ao16 t304.length co16, .slice Ao17 t308.length co17] (spec_l7Meet.calls kj5 _ _ t304 _ _ t308 true _ (Sh.cR (Kd.R_reads' HO_9.out).2.2) (Kd.R_reads' HO_9.out).2.1 (Sh.cR (Kd.R_reads' HO_11.out).2.2) (Kd.R_reads' HO_11.out).2.1 A14.out) fun nd => ?_))
     go_ret2
     exact ⟨Sh.eR, Sh.bw⟩
    ·replace c15 := Bool.eq_false_iff.mpr c15
     subst c15
     rw [Sh.nf] at H
     obtain ⟨t316, A18, H⟩ := Sh.ba H
     by_cases c19 : t316 = true
     ·subst c19
      rw [if_pos rfl] at H
      simp only [Option.some.injEq, Prod.mk.injEq] at H
      obtain ⟨rfl, rfl⟩ := H
      obtain ⟨Ao20, co20, eo20⟩ := Kd.R_slice HO_9.out
      subst eo20
      obtain ⟨Ao21, co21, eo21⟩ := Kd.R_slice HO_11.out
      subst eo21
      go_wp2_with (first | ((with_reducible refine Sh.k 33 ?_); refine Sh.gD (some 36) Try.func33 #[.slice Ao20 t304.length co20, .slice Ao21 t308.length co21] (spec_l7Meet.calls kj5 _ _ t304 _ _ t308 false _ (Sh.cR (Kd.R_reads' HO_9.out).2.2) (Kd.R_reads' HO_9.out).2.1 (Sh.cR (Kd.R_reads' HO_11.out).2.2) (Kd.R_reads' HO_11.out).2.1 A14.out) fun nd => ?_; obtain ⟨Ao22, co22, eo22⟩ := Kd.R_slice HO_12.out; subst eo22) | (go_at_call 33; (with_reducible refine (spec_l7Meet.calls kj5 _ _ t304 _ _ t311 true _ (Sh.cR (Kd.R_reads' HO_9.out).2.2) (Kd.R_reads' HO_9.out).2.1 (Sh.cR (Kd.R_reads' HO_12.out).2.2) (Kd.R_reads' HO_12.out).2.1 A18.out).mono ?_); rintro e w' ⟨rfl, ⟨nd, rfl⟩⟩))
      go_ret2
      exact ⟨Sh.eR, Sh.bw⟩
     ·replace c19 := Bool.eq_false_iff.mpr c19
      subst c19
      rw [Sh.nf] at H
      obtain ⟨t317, A23, H⟩ := Sh.ba H
      simp only [Option.some.injEq, Prod.mk.injEq] at H
      obtain ⟨rfl, rfl⟩ := H
      obtain ⟨Ao24, co24, eo24⟩ := Kd.R_slice HO_9.out
      subst eo24
      obtain ⟨Ao25, co25, eo25⟩ := Kd.R_slice HO_11.out
      subst eo25
      go_wp2_with (first | ((with_reducible refine Sh.k 33 ?_); refine Sh.gD (some 36) Try.func33 #[.slice Ao24 t304.length co24, .slice Ao25 t308.length co25] (spec_l7Meet.calls kj5 _ _ t304 _ _ t308 false _ (Sh.cR (Kd.R_reads' HO_9.out).2.2) (Kd.R_reads' HO_9.out).2.1 (Sh.cR (Kd.R_reads' HO_11.out).2.2) (Kd.R_reads' HO_11.out).2.1 A14.out) fun nd => ?_; obtain ⟨Ao26, co26, eo26⟩ := Kd.R_slice HO_12.out; subst eo26) | (go_at_call 33; (with_reducible refine (spec_l7Meet.calls kj5 _ _ t304 _ _ t311 false _ (Sh.cR (Kd.R_reads' HO_9.out).2.2) (Kd.R_reads' HO_9.out).2.1 (Sh.cR (Kd.R_reads' HO_12.out).2.2) (Kd.R_reads' HO_12.out).2.1 A18.out).mono ?_); rintro e w' ⟨rfl, ⟨nd, rfl⟩⟩; obtain ⟨Ao27, co27, eo27⟩ := Kd.R_slice HO_8.out; subst eo27) | (go_at_call 33; (with_reducible refine (spec_l7Meet.calls kj5 _ _ t311 _ _ t301 t317 _ (Sh.cR (Kd.R_reads' HO_12.out).2.2) (Kd.R_reads' HO_12.out).2.1 (Sh.cR (Kd.R_reads' HO_8.out).2.2) (Kd.R_reads' HO_8.out).2.1 A23.out).mono ?_); rintro e w' ⟨rfl, ⟨nd, rfl⟩⟩))
      go_ret2
      exact ⟨Sh.eR, Sh.bw⟩
def impl_isWide.f (a0 : Int) : Option (Bool) := if a0 ≥ 1 then (some (decide (a0 ≤ 64))) else (some false)
theorem impl_isWide.calls (a0 : Int) (r : Bool) (w : World) (h : impl_isWide.f a0 = some r) :
  Calls Try.prog 43 #[.int .i64 a0] w fun e w' => e = .returned (.bool r) ∧ Drawn0 w w' := by
 have H := h
 clear h
 unfold impl_isWide.f at H
 by_cases c2 : a0 ≥ 1
 ·rw [if_pos c2] at H
  have c2b0 : decide (1 ≤ a0) = true := decide_eq_true c2
  clear c2
  obtain rfl := Option.some.inj H
  go_enter Try.func43, Try.ntmps43
  go_wp2
  go_ret
  exact ⟨Sh.es, Sh.dr⟩
 ·rw [if_neg c2] at H
  have c2b0 : decide (1 ≤ a0) = false := decide_eq_false c2
  clear c2
  obtain rfl := Option.some.inj H
  go_enter Try.func43, Try.ntmps43
  go_wp2
  go_ret
  exact ⟨Sh.es, Sh.dr⟩
def impl_isVars.f (a0 : Int) : Option (Bool) := if a0 ≥ 1 then (some (decide (a0 ≤ 4))) else (some false)
theorem impl_isVars.calls (a0 : Int) (r : Bool) (w : World) (h : impl_isVars.f a0 = some r) :
  Calls Try.prog 44 #[.int .i64 a0] w fun e w' => e = .returned (.bool r) ∧ Drawn0 w w' := by
 have H := h
 clear h
 unfold impl_isVars.f at H
 by_cases c2 : a0 ≥ 1
 ·rw [if_pos c2] at H
  have c2b0 : decide (1 ≤ a0) = true := decide_eq_true c2
  clear c2
  obtain rfl := Option.some.inj H
  go_enter Try.func44, Try.ntmps44
  go_wp2
  go_ret
  exact ⟨Sh.es, Sh.dr⟩
 ·rw [if_neg c2] at H
  have c2b0 : decide (1 ≤ a0) = false := decide_eq_false c2
  clear c2
  obtain rfl := Option.some.inj H
  go_enter Try.func44, Try.ntmps44
  go_wp2
  go_ret
  exact ⟨Sh.es, Sh.dr⟩
theorem slices_IndexFunc_int_int.gen (g : Nat) (lb : Array Value) (eg : ∀ args w, (callFunc g args).run Try.prog w = .ok (.enter g args) w) (q : Int → Option Bool) (A0 : Option Addr) (c0 : Nat) (l0 : List (Int)) (r : Int) (w : World) (hr0 : Kd.C (Kd.int .i64) w A0 l0.length l0) (hc0 : l0.length ≤ c0)
  (hp : ∀ (W : World) (x : Int) (b : Bool), Below w.heap.size w W → x ∈ l0 → q x = some b → Calls Try.prog g (#[.int .i64 x] ++ lb) W fun e w' => e = .returned (.bool b) ∧ Below W.heap.size W w')
  (h : idxO q l0 0 = some r) : Calls Try.prog 55 #[.slice A0 l0.length c0, .func (.func g) #[] lb] w fun e w' => e = .returned (.int .i64 r) ∧ Below w.heap.size w w' := by
 have HR := am_ hr0
 have HP := am_ hp
 have HH := am_ h
 have hn : l0.length ≤ 9223372036854775807 := hr0.2.1
 clear hr0 hp h
 go_enter Try.func55, Try.ntmps55
 go_wp2
 go_loopg [5, 8] l0.length (fun gg _ s8 wr => ∃ kk : Nat, kk ≤ l0.length ∧ l0.length - kk ≤ gg ∧ s8 = .int .i64 kk ∧ Aside0 (idxO q (l0.drop kk) kk = some r) ∧ Aside0 (Below w.heap.size w wr))
 case atStart => exact ⟨0, Nat.zero_le _, by omega, rfl, HH, ⟨Below.refl _ _⟩⟩
 case round =>
  obtain ⟨kk, hkk, hg, rfl, HA, HB⟩ := hrel
  clear HH
  by_cases hlt : kk < l0.length
  ·have hltz : (kk : Int) < (l0.length : Int) := by omega
   have h0z : 0 ≤ (kk : Int) := by omega
   obtain ⟨ad, e, hx⟩ := Kd.at_int HR.out (kk : Int) h0z hltz
   have er : rd l0 (kk : Int) = l0.getD kk 0 := by simp [rd]
   rw [er] at hx
   have hA := HA.out
   rw [drop_getD hlt 0] at hA
   obtain ⟨b, hb, hA2⟩ := Option.bind_eq_some_iff.mp hA
   have HA2 := am_ hA2
   have hin := getD_in hlt (0 : Int)
   have hcall := HP.out wr _ b HB.out hin hb
   generalize l0.getD kk 0 = y at hx hcall
   clear HA hA hA2 hb er hin
   skip
   cases e
   simp only [Int.toNat_natCast] at hx
   replace hx := (HB.out.cell (World.block_lt_of_cell? w _ hx)).trans hx
   cases b with
   | true =>
    go_wp2_with (go_at_fn g; refine hcall.mono ?_; rintro e w' ⟨rfl, hb2⟩)
    go_ret
    have h3 := HA2.out
    simp only [if_true] at h3
    exact ⟨by rw [← Option.some.inj h3]; rfl, below_step HB.out hb2⟩
   | false =>
    go_wp2_with (go_at_fn g; refine hcall.mono ?_; rintro e w' ⟨rfl, hb2⟩)
    go_roundg (l0.length - (kk + 1))
    case measure => omega
    case rel =>
     refine ⟨kk + 1, by omega, by omega, by go_num, ⟨by have h3 := HA2.out; simpa using h3⟩, ⟨below_step HB.out hb2⟩⟩
  ·have hltz : ¬ (kk : Int) < (l0.length : Int) := by omega
   have hA := HA.out
   rw [List.drop_of_length_le (by omega)] at hA
   have h4 : (-1 : Int) = r := Option.some.inj hA
   subst h4
   clear HA hA
   have : kk = l0.length := by omega
   subst this
   go_wp2
   go_ret
   exact ⟨rfl, HB.out⟩
theorem slices_ContainsFunc_int_int.gen (g : Nat) (lb : Array Value) (eg : ∀ args w, (callFunc g args).run Try.prog w = .ok (.enter g args) w) (q : Int → Option Bool) (A0 : Option Addr) (c0 : Nat) (l0 : List (Int)) (r : Bool) (w : World) (hr0 : Kd.C (Kd.int .i64) w A0 l0.length l0) (hc0 : l0.length ≤ c0)
  (hp : ∀ (W : World) (x : Int) (b : Bool), Below w.heap.size w W → x ∈ l0 → q x = some b → Calls Try.prog g (#[.int .i64 x] ++ lb) W fun e w' => e = .returned (.bool b) ∧ Below W.heap.size W w')
  (h : anyO q l0 = some r) : Calls Try.prog 35 #[.slice A0 l0.length c0, .func (.func g) #[] lb] w fun e w' => e = .returned (.bool r) ∧ Below w.heap.size w w' := by
 obtain ⟨i, hi, hd⟩ := idxO_of_anyO l0 r 0 (Int.le_refl 0) h
 have HC := am_ (slices_IndexFunc_int_int.gen g lb eg q A0 c0 l0 i w hr0 hc0 hp hi)
 have HD := am_ hd
 clear hr0 hp h hi hd
 go_enter Try.func35, Try.ntmps35
 go_wp2_with (go_at_call 55; refine HC.out.mono ?_; rintro e w' ⟨rfl, hb2⟩)
 go_ret
 exact ⟨by rw [← HD.out]; rfl, hb2⟩
mutual
def impl_operandsOf.j0 : Nat → Int → Bool → Option (Int × Int × Int)
 | 0, _, _ => none
 | k + 1, x0, x5 => if x5 = true then (some (0, 0, 1)) else (if x0 = 20 then (some (0, 0, 2)) else (if x0 = 13 then (some (1, 1, 1)) else (if x0 = 19 then (some (1, 2, 2)) else (if x0 ≥ 3 then (impl_operandsOf.j1 k x0 (decide (x0 ≤ 12))) else (impl_operandsOf.j1 k x0 false)))))
def impl_operandsOf.j1 : Nat → Int → Bool → Option (Int × Int × Int)
 | 0, _, _ => none
 | k + 1, x0, x21 => if x21 = true then (some (2, 1, 1)) else (if x0 ≥ 14 then (impl_operandsOf.j2 k x0 (decide (x0 ≤ 16))) else (impl_operandsOf.j2 k x0 false))
def impl_operandsOf.j2 : Nat → Int → Bool → Option (Int × Int × Int)
 | 0, _, _ => none
 | k + 1, x0, x28 => if x28 = true then (some (2, 1, 2)) else (if x0 = 17 then (some (2, 2, 2)) else (if x0 = 18 then (some (2, 2, 2)) else (some (0, 0, 0))))
end
def impl_operandsOf.f (k : Nat) (a0 : Int) : Option (Int × Int × Int) := if a0 = 1 then (impl_operandsOf.j0 k a0 true) else (impl_operandsOf.j0 k a0 (a0 == 2))
theorem impl_operandsOf.mono_l : ∀ k, (∀ y0 y1, LeO (impl_operandsOf.j0 k y0 y1) (impl_operandsOf.j0 (k + 1) y0 y1)) ∧ (∀ y0 y1, LeO (impl_operandsOf.j1 k y0 y1) (impl_operandsOf.j1 (k + 1) y0 y1)) ∧ (∀ y0 y1, LeO (impl_operandsOf.j2 k y0 y1) (impl_operandsOf.j2 (k + 1) y0 y1))
 | 0 => ⟨fun _ _ r h => by simp [impl_operandsOf.j0] at h, fun _ _ r h => by simp [impl_operandsOf.j1] at h, fun _ _ r h => by simp [impl_operandsOf.j2] at h⟩
 | k + 1 => by
  obtain ⟨ih0, ih1, ih2⟩ := impl_operandsOf.mono_l k
  and_intros <;> intros
  all_goals (first | unfold impl_operandsOf.j0 | unfold impl_operandsOf.j1 | unfold impl_operandsOf.j2)
  all_goals repeat' with_reducible first | apply ih0 | apply ih1 | apply ih2 | exact LeO.refl _ | exact LeO.none _ | apply LeO.ite | refine LeO.bind ?_ fun _ => ?_
theorem impl_operandsOf.mono : ∀ a0 k, LeO (impl_operandsOf.f k a0) (impl_operandsOf.f (k + 1) a0) := by
 intro a0 k
 obtain ⟨ih0, ih1, ih2⟩ := impl_operandsOf.mono_l k
 unfold impl_operandsOf.f
 repeat' with_reducible first | apply ih0 | apply ih1 | apply ih2 | exact LeO.refl _ | exact LeO.none _ | apply LeO.ite | refine LeO.bind ?_ fun _ => ?_
theorem impl_operandsOf.calls (k : Nat) (a0 : Int) (r1 : Int) (r2 : Int) (r3 : Int) (w : World) (h : impl_operandsOf.f k a0 = some (r1, r2, r3)) :
  Calls Try.prog 89 #[.int .i64 a0] w fun e w' => e = .returned (.tuple #[.int .i64 r1, .int .i64 r2, .int .i64 r3]) ∧ Drawn0 w w' := by
 have H := h
 clear h
 unfold impl_operandsOf.f at H
 have HC2 := am_ H
 clear H
 go_enter Try.func89, Try.ntmps89
 go_upto_region 1 with (fail)
 go_cut [5] (fun v5 wc => ∃ (kq : Nat) (x5_1 : Bool), v5 = .bool x5_1 ∧ Aside0 (impl_operandsOf.j0 kq a0 x5_1 = some (r1, r2, r3)) ∧ Aside0 (kq ≤ k) ∧ Drawn0 w wc)
 case first =>
  have H := HC2.out
  clear HC2
  by_cases c3 : a0 = 1
  ·rw [if_pos c3] at H
   have c3b0 : (a0 == 1) = true := beq_iff_eq.mpr c3
   have c3b1 : (a0 != 1) = false := bne_eq_false_iff_eq.mpr c3
   clear c3
   first | rw [c3b0] | (simp only [i64_w, i32_w]; rw [c3b0]) | skip
   have H' := am_ H
   clear H
   go_wp2
   go_meet
   case rel => exact ⟨_, (true), (Sh.es), H', ⟨Sh.om⟩, Sh.dr⟩
  ·rw [if_neg c3] at H
   have c3b0 : (a0 == 1) = false := beq_eq_false_iff_ne.mpr c3
   have c3b1 : (a0 != 1) = true := bne_iff_ne.mpr c3
   first | rw [c3b0] | (simp only [i64_w, i32_w]; rw [c3b0]) | skip
   have H' := am_ H
   clear H
   go_wp2
   go_meet
   case rel => exact ⟨_, ((a0 == 2)), (Sh.es), H', ⟨Sh.om⟩, Sh.dr⟩
 case rest =>
  clear HC2
  obtain ⟨kq, x5_1, rfl, HA, HJ1, ⟨mc1, rfl⟩⟩ := hcut
  cases kq with
  | zero => exact absurd HA.out (by simp [impl_operandsOf.j0])
  | succ kj1 =>
   have H := HA.out
   clear HA
   simp only [impl_operandsOf.j0] at H
   by_cases c4 : x5_1 = true
   ·subst c4
    rw [if_pos rfl] at H
    simp only [Option.some.injEq, Prod.mk.injEq] at H
    obtain ⟨rfl, rfl, rfl⟩ := H
    go_wp2
    go_ret3
    exact ⟨Sh.es, Sh.dr⟩
   ·replace c4 := Bool.eq_false_iff.mpr c4
    subst c4
    rw [Sh.nf] at H
    by_cases c5 : a0 = 20
    ·rw [if_pos c5] at H
     have c5b0 : (a0 == 20) = true := beq_iff_eq.mpr c5
     have c5b1 : (a0 != 20) = false := bne_eq_false_iff_eq.mpr c5
     clear c5
     simp only [Option.some.injEq, Prod.mk.injEq] at H
     obtain ⟨rfl, rfl, rfl⟩ := H
     go_wp2
     go_ret3
     exact ⟨Sh.es, Sh.dr⟩
    ·rw [if_neg c5] at H
     have c5b0 : (a0 == 20) = false := beq_eq_false_iff_ne.mpr c5
     have c5b1 : (a0 != 20) = true := bne_iff_ne.mpr c5
     by_cases c6 : a0 = 13
     ·rw [if_pos c6] at H
      have c6b0 : (a0 == 13) = true := beq_iff_eq.mpr c6
      have c6b1 : (a0 != 13) = false := bne_eq_false_iff_eq.mpr c6
      clear c6
      simp only [Option.some.injEq, Prod.mk.injEq] at H
      obtain ⟨rfl, rfl, rfl⟩ := H
      go_wp2
      go_ret3
      exact ⟨Sh.es, Sh.dr⟩
     ·rw [if_neg c6] at H
      have c6b0 : (a0 == 13) = false := beq_eq_false_iff_ne.mpr c6
      have c6b1 : (a0 != 13) = true := bne_iff_ne.mpr c6
      by_cases c7 : a0 = 19
      ·rw [if_pos c7] at H
       have c7b0 : (a0 == 19) = true := beq_iff_eq.mpr c7
       have c7b1 : (a0 != 19) = false := bne_eq_false_iff_eq.mpr c7
       clear c7
       simp only [Option.some.injEq, Prod.mk.injEq] at H
       obtain ⟨rfl, rfl, rfl⟩ := H
       go_wp2
       go_ret3
       exact ⟨Sh.es, Sh.dr⟩
      ·rw [if_neg c7] at H
       have c7b0 : (a0 == 19) = false := beq_eq_false_iff_ne.mpr c7
       have c7b1 : (a0 != 19) = true := bne_iff_ne.mpr c7
       have HC8 := am_ H
       clear H
       go_upto_region 9 with (fail)
       go_cut [21] (fun v21 wc => ∃ (kq : Nat) (x21_7 : Bool), v21 = .bool x21_7 ∧ Aside0 (impl_operandsOf.j1 kq a0 x21_7 = some (r1, r2, r3)) ∧ Aside0 (kq ≤ kj1) ∧ Drawn0 w wc)
       case first =>
        have H := HC8.out
        clear HC8
        by_cases c9 : a0 ≥ 3
        ·rw [if_pos c9] at H
         have c9b0 : decide (3 ≤ a0) = true := decide_eq_true c9
         clear c9
         first | rw [c9b0] | (simp only [i64_w, i32_w]; rw [c9b0]) | skip
         have H' := am_ H
         clear H
         go_wp2
         go_meet
         case rel => exact ⟨_, (decide (a0 ≤ 12)), (Sh.es), H', ⟨by have := HJ1.out; first | omega | exact Nat.le_refl _⟩, Sh.dr⟩
        ·rw [if_neg c9] at H
         have c9b0 : decide (3 ≤ a0) = false := decide_eq_false c9
         clear c9
         first | rw [c9b0] | (simp only [i64_w, i32_w]; rw [c9b0]) | skip
         have H' := am_ H
         clear H
         go_wp2
         go_meet
         case rel => exact ⟨_, (false), (Sh.es), H', ⟨by have := HJ1.out; first | omega | exact Nat.le_refl _⟩, Sh.dr⟩
       case rest =>
        clear HC8
        obtain ⟨kq, x21_7, rfl, HA, HJ7, ⟨mc7, rfl⟩⟩ := hcut
        cases kq with
        | zero => exact absurd HA.out (by simp [impl_operandsOf.j1])
        | succ kj7 =>
         have H := HA.out
         clear HA
         simp only [impl_operandsOf.j1] at H
         by_cases c10 : x21_7 = true
         ·subst c10
          rw [if_pos rfl] at H
          simp only [Option.some.injEq, Prod.mk.injEq] at H
          obtain ⟨rfl, rfl, rfl⟩ := H
          go_wp2
          go_ret3
          exact ⟨Sh.es, Sh.dr⟩
         ·replace c10 := Bool.eq_false_iff.mpr c10
          subst c10
          rw [Sh.nf] at H
          have HC11 := am_ H
          clear H
          go_upto_region 11 with (fail)
          go_cut [28] (fun v28 wc => ∃ (kq : Nat) (x28_10 : Bool), v28 = .bool x28_10 ∧ Aside0 (impl_operandsOf.j2 kq a0 x28_10 = some (r1, r2, r3)) ∧ Aside0 (kq ≤ kj7) ∧ Drawn0 w wc)
          case first =>
           have H := HC11.out
           clear HC11
           by_cases c12 : a0 ≥ 14
           ·rw [if_pos c12] at H
            have c12b0 : decide (14 ≤ a0) = true := decide_eq_true c12
            clear c12
            first | rw [c12b0] | (simp only [i64_w, i32_w]; rw [c12b0]) | skip
            have H' := am_ H
            clear H
            go_wp2
            go_meet
            case rel => exact ⟨_, (decide (a0 ≤ 16)), (Sh.es), H', ⟨by have := HJ1.out; have := HJ7.out; first | omega | exact Nat.le_refl _⟩, Sh.dr⟩
           ·rw [if_neg c12] at H
            have c12b0 : decide (14 ≤ a0) = false := decide_eq_false c12
            clear c12
            first | rw [c12b0] | (simp only [i64_w, i32_w]; rw [c12b0]) | skip
            have H' := am_ H
            clear H
            go_wp2
            go_meet
            case rel => exact ⟨_, (false), (Sh.es), H', ⟨by have := HJ1.out; have := HJ7.out; first | omega | exact Nat.le_refl _⟩, Sh.dr⟩
          case rest =>
           clear HC11
           obtain ⟨kq, x28_10, rfl, HA, HJ10, ⟨mc10, rfl⟩⟩ := hcut
           cases kq with
           | zero => exact absurd HA.out (by simp [impl_operandsOf.j2])
           | succ kj10 =>
            have H := HA.out
            clear HA
            simp only [impl_operandsOf.j2] at H
            by_cases c13 : x28_10 = true
            ·subst c13
             rw [if_pos rfl] at H
             simp only [Option.some.injEq, Prod.mk.injEq] at H
             obtain ⟨rfl, rfl, rfl⟩ := H
             go_wp2
             go_ret3
             exact ⟨Sh.es, Sh.dr⟩
            ·replace c13 := Bool.eq_false_iff.mpr c13
             subst c13
             rw [Sh.nf] at H
             by_cases c14 : a0 = 17
             ·rw [if_pos c14] at H
              have c14b0 : (a0 == 17) = true := beq_iff_eq.mpr c14
              have c14b1 : (a0 != 17) = false := bne_eq_false_iff_eq.mpr c14
              clear c14
              simp only [Option.some.injEq, Prod.mk.injEq] at H
              obtain ⟨rfl, rfl, rfl⟩ := H
              go_wp2
              go_ret3
              exact ⟨Sh.es, Sh.dr⟩
             ·rw [if_neg c14] at H
              have c14b0 : (a0 == 17) = false := beq_eq_false_iff_ne.mpr c14
              have c14b1 : (a0 != 17) = true := bne_iff_ne.mpr c14
              by_cases c15 : a0 = 18
              ·rw [if_pos c15] at H
               have c15b0 : (a0 == 18) = true := beq_iff_eq.mpr c15
               have c15b1 : (a0 != 18) = false := bne_eq_false_iff_eq.mpr c15
               clear c15
               simp only [Option.some.injEq, Prod.mk.injEq] at H
               obtain ⟨rfl, rfl, rfl⟩ := H
               go_wp2
               go_ret3
               exact ⟨Sh.es, Sh.dr⟩
              ·rw [if_neg c15] at H
               have c15b0 : (a0 == 18) = false := beq_eq_false_iff_ne.mpr c15
               have c15b1 : (a0 != 18) = true := bne_iff_ne.mpr c15
               simp only [Option.some.injEq, Prod.mk.injEq] at H
               obtain ⟨rfl, rfl, rfl⟩ := H
               go_wp2
               go_ret3
               exact ⟨Sh.es, Sh.dr⟩
def impl_mask.f (a0 : Int) : Option (Int) := if 0 ≤ (wrap64 (64 - a0)) then (some (shr .u64 18446744073709551615 (wrap64 (64 - a0)))) else (none)
theorem impl_mask.calls (a0 : Int) (r : Int) (w : World) (h : impl_mask.f a0 = some r) :
  Calls Try.prog 95 #[.int .i64 a0] w fun e w' => e = .returned (.int .u64 r) ∧ Drawn0 w w' := by
 have H := h
 clear h
 unfold impl_mask.f at H
 obtain ⟨ji2, hj1⟩ : ∃ j_ : Int, (wrap64 (64 - a0)) = j_ := ⟨_, rfl⟩
 replace H : (if 0 ≤ (ji2) then (some (shr .u64 18446744073709551615 (ji2))) else (none)) = some r := by first | (rw [hj1] at H; exact H) | (simp only [hj1] at H ⊢; exact H)
 have hji2w : (IntKind.i64.wrap (64 - a0)) = ji2 := (i64_w _).trans hj1
 by_cases c3 : 0 ≤ (ji2)
 ·rw [if_pos c3] at H
  have c3b0 := eq_true c3
  have c3b1 := decide_eq_true c3
  clear c3
  obtain ⟨ji4, hj2⟩ : ∃ j_ : Int, (shr .u64 18446744073709551615 (ji2)) = j_ := ⟨_, rfl⟩
  replace H : (some ji4) = some r := by first | (rw [hj2] at H; exact H) | (simp only [hj2] at H ⊢; exact H)
  have hji4_ : (18446744073709551615 / 2 ^ min (ji2).toNat 64) = ji4 := hj2
  have hji4z : (ji2) ≤ 64 → (18446744073709551615 / 2 ^ (ji2).toNat) = ji4 := shr_small hj2
  obtain rfl := Option.some.inj H
  go_enter Try.func95, Try.ntmps95
  go_wp2
  go_ret
  exact ⟨by first | rfl | (simp; done) | (simp only [← hj1, ← hj2] <;> (first | rfl | simp)) | (simp [*]; done), Sh.dr⟩
 ·rw [if_neg c3] at H
  exact absurd H (by simp)
def impl_GoodWord.f (a0 : Int) (a1 : Int) : Option (Bool) := (impl_isWide.f a0).bind fun t318 => (if t318 = true then ((impl_mask.f a0).bind fun t319 => (some (decide (a1 ≤ t319)))) else (some false))
theorem impl_GoodWord.calls (a0 : Int) (a1 : Int) (r : Bool) (w : World) (h : impl_GoodWord.f a0 a1 = some r) :
  Calls Try.prog 94 #[.int .i64 a0, .int .u64 a1] w fun e w' => e = .returned (.bool r) ∧ Drawn0 w w' := by
 have H := h
 clear h
 unfold impl_GoodWord.f at H
 obtain ⟨t318, A3, H⟩ := Sh.ba H
 by_cases c4 : t318 = true
 ·subst c4
  rw [if_pos rfl] at H
  obtain ⟨t319, A5, H⟩ := Sh.ba H
  obtain rfl := Option.some.inj H
  go_enter Try.func94, Try.ntmps94
  go_wp2_with (first | ((with_reducible refine Sh.k 43 ?_); refine Sh.gD (some 6) Try.func43 #[.int .i64 a0] (impl_isWide.calls a0 true _ A3.out) fun nd => ?_) | (go_at_call 95; (with_reducible refine (impl_mask.calls a0 t319 _ A5.out).mono ?_); rintro e w' ⟨rfl, ⟨nd, rfl⟩⟩))
  go_ret
  exact ⟨Sh.es, Sh.dr⟩
 ·replace c4 := Bool.eq_false_iff.mpr c4
  subst c4
  rw [Sh.nf] at H
  obtain rfl := Option.some.inj H
  go_enter Try.func94, Try.ntmps94
  go_wp2_with (first | ((with_reducible refine Sh.k 43 ?_); refine Sh.gD (some 6) Try.func43 #[.int .i64 a0] (impl_isWide.calls a0 false _ A3.out) fun nd => ?_))
  go_ret
  exact ⟨Sh.es, Sh.dr⟩
def impl_isLeafRight.f (a0 : Int) (a1 : Int) (a2_0 : Int) (a2_1 : Int) : Option (Bool) := if a2_0 = 1 then ((impl_GoodWord.f a0 a2_1).bind fun t321 => (some t321)) else (if a2_0 = 2 then (some (decide (a2_1 < (IntKind.u64.wrap (a1))))) else (if a2_0 = 20 then (some (decide (a2_1 ≤ 1))) else (some (a2_1 == 0))))
theorem impl_isLeafRight.calls (a0 : Int) (a1 : Int) (a2_0 : Int) (a2_1 : Int) (r : Bool) (w : World) (h : impl_isLeafRight.f a0 a1 a2_0 a2_1 = some r) :
  Calls Try.prog 90 #[.int .i64 a0, .int .i64 a1, .agg #[.int .i64 a2_0, .int .u64 a2_1]] w fun e w' => e = .returned (.bool r) ∧ Below w.heap.size w w' := by
 have hu73 := Try.underlying73
 have HB := am_ (Below.refl w.heap.size w)
 have H := h
 clear h
 unfold impl_isLeafRight.f at H
 by_cases c4 : a2_0 = 1
 ·rw [if_pos c4] at H
  have c4b0 : (a2_0 == 1) = true := beq_iff_eq.mpr c4
  have c4b1 : (a2_0 != 1) = false := bne_eq_false_iff_eq.mpr c4
  clear c4
  obtain ⟨t321, A5, H⟩ := Sh.ba H
  obtain rfl := Option.some.inj H
  go_enter Try.func90, Try.ntmps90
  go_wp2_with (first | ((with_reducible refine Sh.d 5 ?_); refine Sh.bz w (N := 5) (cs := #[.int .i64 a2_0, .int .u64 a2_1]) (t := 73) (h := ?_); clear HB; intro gb320 w6 BK320 GE320 HB; obtain ⟨hcz7_0, hcz7_1, hfz7_0, hfz7_1⟩ := Sh.b2 BK320.out) | ((with_reducible refine Sh.k 94 ?_); refine Sh.gD (some 14) Try.func94 #[.int .i64 a0, .int .u64 a2_1] (impl_GoodWord.calls a0 a2_1 t321 _ A5.out) fun nd => ?_))
  go_ret
  exact ⟨Sh.eR, Sh.bw⟩
 ·rw [if_neg c4] at H
  have c4b0 : (a2_0 == 1) = false := beq_eq_false_iff_ne.mpr c4
  have c4b1 : (a2_0 != 1) = true := bne_iff_ne.mpr c4
  by_cases c8 : a2_0 = 2
  ·rw [if_pos c8] at H
   have c8b0 : (a2_0 == 2) = true := beq_iff_eq.mpr c8
   have c8b1 : (a2_0 != 2) = false := bne_eq_false_iff_eq.mpr c8
   clear c8
   obtain rfl := Option.some.inj H
   go_enter Try.func90, Try.ntmps90
   go_wp2_with (first | ((with_reducible refine Sh.d 5 ?_); refine Sh.bz w (N := 5) (cs := #[.int .i64 a2_0, .int .u64 a2_1]) (t := 73) (h := ?_); clear HB; intro gb320 w9 BK320 GE320 HB; obtain ⟨hcz10_0, hcz10_1, hfz10_0, hfz10_1⟩ := Sh.b2 BK320.out))
   go_ret
   exact ⟨Sh.eR, Sh.bw⟩
  ·rw [if_neg c8] at H
   have c8b0 : (a2_0 == 2) = false := beq_eq_false_iff_ne.mpr c8
   have c8b1 : (a2_0 != 2) = true := bne_iff_ne.mpr c8
   by_cases c11 : a2_0 = 20
   ·rw [if_pos c11] at H
    have c11b0 : (a2_0 == 20) = true := beq_iff_eq.mpr c11
    have c11b1 : (a2_0 != 20) = false := bne_eq_false_iff_eq.mpr c11
    clear c11
    obtain rfl := Option.some.inj H
    go_enter Try.func90, Try.ntmps90
    go_wp2_with (first | ((with_reducible refine Sh.d 5 ?_); refine Sh.bz w (N := 5) (cs := #[.int .i64 a2_0, .int .u64 a2_1]) (t := 73) (h := ?_); clear HB; intro gb320 w12 BK320 GE320 HB; obtain ⟨hcz13_0, hcz13_1, hfz13_0, hfz13_1⟩ := Sh.b2 BK320.out))
    go_ret
    exact ⟨Sh.eR, Sh.bw⟩
   ·rw [if_neg c11] at H
    have c11b0 : (a2_0 == 20) = false := beq_eq_false_iff_ne.mpr c11
    have c11b1 : (a2_0 != 20) = true := bne_iff_ne.mpr c11
    obtain rfl := Option.some.inj H
    go_enter Try.func90, Try.ntmps90
    go_wp2_with (first | ((with_reducible refine Sh.d 5 ?_); refine Sh.bz w (N := 5) (cs := #[.int .i64 a2_0, .int .u64 a2_1]) (t := 73) (h := ?_); clear HB; intro gb320 w14 BK320 GE320 HB; obtain ⟨hcz15_0, hcz15_1, hfz15_0, hfz15_1⟩ := Sh.b2 BK320.out))
    go_ret
    exact ⟨Sh.eR, Sh.bw⟩
def impl_GoodTerm_1.f (a0 : Int) (a1_0 : Int) : Option (Bool) := some (a0 != a1_0)
theorem impl_GoodTerm_1.calls (a0 : Int) (bp1 : Nat) (a1_0 : Int) (r : Bool) (w : World) (hb1 : w.heap[bp1]? = some (.cells #[.int .i64 a1_0] 3 (0, 0))) (h : impl_GoodTerm_1.f a0 a1_0 = some r) :
  Calls Try.prog 91 #[.int .i64 a0, .pointer (some ⟨bp1, 0, none⟩)] w fun e w' => e = .returned (.bool r) ∧ Drawn0 w w' := by
 have HX1 := am_ hb1
 clear hb1
 have H := h
 clear h
 unfold impl_GoodTerm_1.f at H
 obtain rfl := Option.some.inj H
 have hcz3_0 : w.cell? ⟨bp1, 0, none⟩ = some (.int .i64 a1_0) := (blk_cell HX1.out 0).trans rfl
 have hfz3_0 := blk_frozen HX1.out 0
 go_enter Try.func91, Try.ntmps91
 go_wp2
 go_ret
 exact ⟨Sh.es, Sh.dr⟩
def slices_ContainsFunc_int_int_by_impl_GoodTerm_1.f (l0 : List Int) (a1_0 : Int) : Option (Bool) := anyO (fun x_ => impl_GoodTerm_1.f x_ a1_0) l0
theorem slices_ContainsFunc_int_int_by_impl_GoodTerm_1.calls (A0 : Option Addr) (c0 : Nat) (l0 : List Int) (bp1 : Nat) (a1_0 : Int) (r : Bool) (w : World) (hr0 : Kd.C (Kd.int .i64) w A0 l0.length l0) (hc0 : l0.length ≤ c0) (hb1 : w.heap[bp1]? = some (.cells #[.int .i64 a1_0] 3 (0, 0))) (h : slices_ContainsFunc_int_int_by_impl_GoodTerm_1.f l0 a1_0 = some r) :
  Calls Try.prog 35 #[.slice A0 l0.length c0, .func (.func 91) #[] #[.pointer (some ⟨bp1, 0, none⟩)]] w fun e w' => e = .returned (.bool r) ∧ Below w.heap.size w w' := by
 refine slices_ContainsFunc_int_int.gen 91 #[.pointer (some ⟨bp1, 0, none⟩)] (enters_of Try.func91 (by kernel_rfl) rfl) _ A0 c0 l0 r w hr0 hc0 ?_ h
 intro W x b hB_ hin_ hq_
 refine (impl_GoodTerm_1.calls x bp1 a1_0 b W ((hB_.block _ (blk_lt hb1)).trans hb1) hq_).mono ?_
 rintro e w' ⟨rfl, hd_⟩
 exact ⟨rfl, hd_.below⟩
end Go.Proofs.Ytjenmoopbmklfaa.P
