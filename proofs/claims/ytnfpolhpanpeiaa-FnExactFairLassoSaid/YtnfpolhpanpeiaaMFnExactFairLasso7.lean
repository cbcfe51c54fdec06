/- Go functions of this seat as Lean functions, and the proofs that the calls come to what these say; printed by a program of this session. No condition. -/
import Derived.Test.YtnfpolhpanpeiaaP0
import Derived.Test.YtnfpolhpanpeiaaMFnExactFairLasso4
import Derived.Test.YtnfpolhpanpeiaaMFnExactFairLasso5
import Derived.Test.YtnfpolhpanpeiaaMFnExactFairLasso6
set_option linter.unusedVariables false
set_option linter.unusedSimpArgs false
set_option maxHeartbeats 40000000
set_option maxRecDepth 100000
namespace Go.Proofs.Ytnfpolhpanpeiaa.P
open Go.RowKit Go.Proofs.YtnfpolhpanpeiaaW.PrintWords Go.Proofs.YtnfpolhpanpeiaaW.PrintLast Go.Proofs.YtnfpolhpanpeiaaW.PrintMore Go.Proofs.Ytnfpolhpanpeiaa.Hof
attribute [local go_sem] max2_int min2_int max_two min_two max_three min_three max_four min_four
mutual
def spec_l11Lasso.l0 : Nat → List (List Int) → List Int → List (List Int) → List Int → Int → List Int → Int → Int → Option (List Int × List Int × Bool)
 | 0, _, _, _, _, _, _, _, _ => none
 | k + 1, x0, x1, x2, x9, x10, x32, x33, x34 => if x34 < x33 then (if 0 ≤ x34 then (if x34 < (x32.length : Int) then (if 0 ≤ (rd x32 x34) then (if (rd x32 x34) < (x9.length : Int) then (if (rd x9 (rd x32 x34)) ≥ 0 then (if x10 < 0 then (spec_l11Lasso.l0 k x0 x1 x2 x9 (rd x32 x34) x32 x33 (wrap64 (x34 + 1))) else (if 0 ≤ x10 then (if x10 < (x9.length : Int) then (if (rd x9 (rd x32 x34)) < (rd x9 x10) then (spec_l11Lasso.l0 k x0 x1 x2 x9 (rd x32 x34) x32 x33 (wrap64 (x34 + 1))) else (spec_l11Lasso.l0 k x0 x1 x2 x9 x10 x32 x33 (wrap64 (x34 + 1)))) else (none)) else (none))) else (spec_l11Lasso.l0 k x0 x1 x2 x9 x10 x32 x33 (wrap64 (x34 + 1)))) else (none)) else (none)) else (none)) else (none)) else (if x10 < 0 then (some (([] : List Int), ([] : List Int), false)) else ((spec_l11Path.f k x0 x1 (([x10] : List Int))).bind fun bt261 => ((spec_l11Parts.f k x0).bind fun t265 => ((spec_l11Within.f k x0 t265).bind fun t268 => (spec_l11Lasso.l1 k x10 bt261.1 t265 t268 (([x10] : List Int)) x2 (x2.length : Int) 0)))))
def spec_l11Lasso.l1 : Nat → Int → List Int → List Int → List (List Int) → List Int → List (List Int) → Int → Int → Option (List Int × List Int × Bool)
 | 0, _, _, _, _, _, _, _, _ => none
 | k + 1, x10, x13, x15, x16, x17, x77, x78, x79 => if x79 < x78 then (if 0 ≤ x79 then (if x79 < (x77.length : Int) then (spec_l11Lasso.l2 k x10 x13 x15 x16 x17 ([] : List Int) x77 x78 x79 (rd_L1 x77 x79) ((rd_L1 x77 x79).length : Int) 0) else (none)) else (none)) else (if 0 ≤ (wrap64 ((x17.length : Int) - 1)) then (if (wrap64 ((x17.length : Int) - 1)) < (x17.length : Int) then (if 0 ≤ (rd x17 (wrap64 ((x17.length : Int) - 1))) then (if (rd x17 (wrap64 ((x17.length : Int) - 1))) < (x16.length : Int) then ((spec_l11Path.f k x16 (rd_L1 x16 (rd x17 (wrap64 ((x17.length : Int) - 1)))) (([x10] : List Int))).bind fun bt279 => (if 0 ≤ (wrap64 ((x13.length : Int) - 1)) then (if (wrap64 ((x13.length : Int) - 1)) ≤ (x13.length : Int) then (if 0 ≤ (wrap64 ((bt279.1.length : Int) - 1)) then (if (wrap64 ((bt279.1.length : Int) - 1)) ≤ (bt279.1.length : Int) then ((some (bt279.1.take ((wrap64 ((bt279.1.length : Int) - 1)) : Int).toNat : List Int)).bind fun y286 => (if x17.length + y286.length < 17592186044416 then (some ((x13.take ((wrap64 ((x13.length : Int) - 1)) : Int).toNat), (x17 ++ y286), true)) else (none))) else (none)) else (none)) else (none)) else (none))) else (none)) else (none)) else (none)) else (none))
def spec_l11Lasso.l2 : Nat → Int → List Int → List Int → List (List Int) → List Int → List Int → List (List Int) → Int → Int → List Int → Int → Int → Option (List Int × List Int × Bool)
 | 0, _, _, _, _, _, _, _, _, _, _, _, _ => none
 | k + 1, x10, x13, x15, x16, x17, x20, x77, x78, x79, x83, x84, x85 => if x85 < x84 then (if 0 ≤ x85 then (if x85 < (x83.length : Int) then (if 0 ≤ (rd x83 x85) then (if (rd x83 x85) < (x15.length : Int) then (if 0 ≤ x10 then (if x10 < (x15.length : Int) then (if (rd x15 (rd x83 x85)) = (rd x15 x10) then (if x20.length < 17592186044416 then (spec_l11Lasso.l2 k x10 x13 x15 x16 x17 (x20 ++ [rd x83 x85]) x77 x78 x79 x83 x84 (wrap64 (x85 + 1))) else (none)) else (spec_l11Lasso.l2 k x10 x13 x15 x16 x17 x20 x77 x78 x79 x83 x84 (wrap64 (x85 + 1)))) else (none)) else (none)) else (none)) else (none)) else (none)) else (none)) else (if 0 ≤ (wrap64 ((x17.length : Int) - 1)) then (if (wrap64 ((x17.length : Int) - 1)) ≤ (x17.length : Int) then ((spec_l11Path.f k x16 (x17.drop ((wrap64 ((x17.length : Int) - 1)) : Int).toNat) x20).bind fun bt304 => (if 1 ≤ (bt304.1.length : Int) then ((some (bt304.1.drop 1 : List Int)).bind fun y308 => (if x17.length + y308.length < 17592186044416 then (spec_l11Lasso.l1 k x10 x13 x15 x16 (x17 ++ y308) x77 x78 (wrap64 (x79 + 1))) else (none))) else (none))) else (none)) else (none))
end
def spec_l11Lasso.f (k : Nat) (l0 : List (List Int)) (l1 : List Int) (l2 : List (List Int)) : Option (List Int × List Int × Bool) := (spec_l11Far.f k l0 l1).bind fun t248 => ((spec_l11Fair.f k l0 l2).bind fun t251 => (spec_l11Lasso.l0 k l0 l1 l2 t248 (-1) t251 (t251.length : Int) 0))
theorem spec_l11Lasso.mono_l : ∀ k, (∀ y0 y1 y2 y3 y4 y5 y6 y7, LeO (spec_l11Lasso.l0 k y0 y1 y2 y3 y4 y5 y6 y7) (spec_l11Lasso.l0 (k + 1) y0 y1 y2 y3 y4 y5 y6 y7)) ∧ (∀ y0 y1 y2 y3 y4 y5 y6 y7, LeO (spec_l11Lasso.l1 k y0 y1 y2 y3 y4 y5 y6 y7) (spec_l11Lasso.l1 (k + 1) y0 y1 y2 y3 y4 y5 y6 y7)) ∧ (∀ y0 y1 y2 y3 y4 y5 y6 y7 y8 y9 y10 y11, LeO (spec_l11Lasso.l2 k y0 y1 y2 y3 y4 y5 y6 y7 y8 y9 y10 y11) (spec_l11Lasso.l2 (k + 1) y0 y1 y2 y3 y4 y5 y6 y7 y8 y9 y10 y11))
 | 0 => ⟨fun _ _ _ _ _ _ _ _ r h => by simp [spec_l11Lasso.l0] at h, fun _ _ _ _ _ _ _ _ r h => by simp [spec_l11Lasso.l1] at h, fun _ _ _ _ _ _ _ _ _ _ _ _ r h => by simp [spec_l11Lasso.l2] at h⟩
 | k + 1 => by
  obtain ⟨ih0, ih1, ih2⟩ := spec_l11Lasso.mono_l k
  and_intros <;> intros
  all_goals (first | unfold spec_l11Lasso.l0 | unfold spec_l11Lasso.l1 | unfold spec_l11Lasso.l2)
  all_goals repeat' with_reducible first | apply ih0 | apply ih1 | apply ih2 | apply spec_l11Fair.mono | apply spec_l11Far.mono | apply spec_l11Parts.mono | apply spec_l11Path.mono | apply spec_l11Within.mono | exact LeO.refl _ | exact LeO.none _ | apply LeO.ite | refine LeO.bind ?_ fun _ => ?_
theorem spec_l11Lasso.mono : ∀ a0 a1 a2 k, LeO (spec_l11Lasso.f k a0 a1 a2) (spec_l11Lasso.f (k + 1) a0 a1 a2) := by
 intro a0 a1 a2 k
 obtain ⟨ih0, ih1, ih2⟩ := spec_l11Lasso.mono_l k
 unfold spec_l11Lasso.f
 repeat' with_reducible first | apply ih0 | apply ih1 | apply ih2 | apply spec_l11Fair.mono | apply spec_l11Far.mono | apply spec_l11Parts.mono | apply spec_l11Path.mono | apply spec_l11Within.mono | exact LeO.refl _ | exact LeO.none _ | apply LeO.ite | refine LeO.bind ?_ fun _ => ?_
def spec_l11Lasso.T6 : Bool × List (List Nat × List Nat) := (true, [([], []), ([], []), ([0, 1], [0, 1]), ([2], [2]), ([3], [3]), ([4], [4]), ([5], [5]), ([6, 5], [5, 6]), ([7, 5, 5], [5, 7]), ([8], [8]), ([8], [8]), ([9, 10, 8], [8, 9, 10]), ([11, 8], [8, 11]), ([8], [8]), ([8], [8]), ([13, 14, 8], [8, 13, 14]), ([15, 8], [8, 15]), ([12, 16, 8], [8, 12, 16]), ([8, 17, 5], [5, 8, 17]), ([5, 18], [5, 18])])
def spec_l11Lasso.B6 : List Nat := [0, 0, 3, 7, 15, 31, 63, 127, 255, 511, 511, 2047, 4095, 511, 511, 25087, 57855, 131071, 262143, 524287]
theorem spec_l11Lasso.tab6 : rtab .any (opsOf Try.f42 6) = spec_l11Lasso.T6 := by kernel_rfl
theorem spec_l11Lasso.bits6 : waitsOk spec_l11Lasso.T6.2 spec_l11Lasso.B6 = true := by kernel_rfl
def spec_l11Lasso.T22 : Bool × List (List Nat × List Nat) := (true, [([], []), ([], []), ([0, 1], [0, 1]), ([2], [2]), ([], []), ([], []), ([4, 5], [4, 5]), ([6], [6]), ([3, 7], [3, 7])])
def spec_l11Lasso.B22 : List Nat := [0, 0, 3, 7, 0, 0, 48, 112, 255]
theorem spec_l11Lasso.tab22 : rtab .any (opsOf Try.f42 22) = spec_l11Lasso.T22 := by kernel_rfl
theorem spec_l11Lasso.bits22 : waitsOk spec_l11Lasso.T22.2 spec_l11Lasso.B22 = true := by kernel_rfl
def spec_l11Lasso.T29 : Bool × List (List Nat × List Nat) := (true, [([], []), ([], []), ([1], [1]), ([2], [2]), ([0, 3], [0, 3]), ([], []), ([], []), ([], []), ([7], [7]), ([8], [8]), ([6, 9], [6, 9]), ([5, 10], [5, 10]), ([4, 11, 0, 1, 2, 3, 4], [4]), ([11, 12, 0, 1, 2, 3, 4, 5, 6, 7, 8, 9, 10, 11, 12], [11]), ([13, 0, 1, 2, 3, 4, 5, 6, 7, 8, 9, 10, 11, 12, 13], [])])
def spec_l11Lasso.B29 : List Nat := [0, 0, 2, 6, 15, 0, 0, 0, 128, 384, 960, 2016, 4095, 8191, 16383]
theorem spec_l11Lasso.tab29 : rtab .any (opsOf Try.f42 29) = spec_l11Lasso.T29 := by kernel_rfl
theorem spec_l11Lasso.bits29 : waitsOk spec_l11Lasso.T29.2 spec_l11Lasso.B29 = true := by kernel_rfl
theorem spec_l11Lasso.calls (k : Nat) (A0 : Option Addr) (c0 : Nat) (l0 : List (List Int)) (A1 : Option Addr) (c1 : Nat) (l1 : List Int) (A2 : Option Addr) (c2 : Nat) (l2 : List (List Int)) (r1 : List Int) (r2 : List Int) (r3 : Bool) (w : World) (hr0 : Kd.C (Kd.slice 3 (Kd.int .i64)) w A0 l0.length l0) (hc0 : l0.length ≤ c0) (hr1 : Kd.C (Kd.int .i64) w A1 l1.length l1) (hc1 : l1.length ≤ c1) (hr2 : Kd.C (Kd.slice 3 (Kd.int .i64)) w A2 l2.length l2) (hc2 : l2.length ≤ c2) (h : spec_l11Lasso.f k l0 l1 l2 = some (r1, r2, r3)) :
  Calls Try.prog 42 #[.slice A0 l0.length c0, .slice A1 l1.length c1, .slice A2 l2.length c2] w fun e w' => ∃ v0_ v1_ : Value, e = .returned (.tuple #[v0_, v1_, .bool r3]) ∧ Kd.R (Kd.int .i64) 3 w' w.heap.size (fun k_ => some k_ ≠ (v1_ : Value).ownBlock) v0_ r1 ∧ Kd.R (Kd.int .i64) 3 w' w.heap.size (fun k_ => some k_ ≠ (v0_ : Value).ownBlock) v1_ r2 ∧ Below w.heap.size w w' := by
 have HR0 := am_ hr0
 have HC0 := am_ hc0
 clear hr0 hc0
 have HR1 := am_ hr1
 have HC1 := am_ hc1
 clear hr1 hc1
 have HR2 := am_ hr2
 have HC2 := am_ hc2
 clear hr2 hc2
 have HB := am_ (Below.refl w.heap.size w)
 have H := h
 clear h
 unfold spec_l11Lasso.f at H
 obtain ⟨t248, A4, H⟩ := Sh.ba H
 obtain ⟨t251, A5, H⟩ := Sh.ba H
 have H' := am_ H
 clear H
 go_enter Try.func42, Try.ntmps42
 go_wp2_with (first | ((with_reducible refine Sh.k 50 ?_); refine Sh.gL (some 29) Try.func50 #[.slice A0 l0.length c0, .slice A1 l1.length c1] (h := ?_); (with_reducible refine (spec_l11Far.calls k _ _ l0 _ _ l1 t248 _ ?side1 ?side2 ?side3 ?side4 A4.out).mono ?_); (case side1 => repeat (first | exact HR0.out | (with_reducible first | refine Kd.C_alloc ?_ _ | refine Kd.C_drewN ?_ _ | refine Kd.C_drew ?_))); (case side2 => exact HC0.out); (case side3 => repeat (first | exact HR1.out | (with_reducible first | refine Kd.C_alloc ?_ _ | refine Kd.C_drewN ?_ _ | refine Kd.C_drew ?_))); (case side4 => exact HC1.out); rintro e w6 ⟨v249, rfl, ho0, hb⟩; refine ⟨_, rfl, ?_⟩; have HO250 := am_ (Kd.R_lower ho0 (below_size Sh.bw)); replace HB := Sh.hb hb; (try clear hb); (try clear ho0)) | ((with_reducible refine Sh.k 38 ?_); refine Sh.gL (some 32) Try.func38 #[.slice A0 l0.length c0, .slice A2 l2.length c2] (h := ?_); (with_reducible refine (spec_l11Fair.calls k _ _ l0 _ _ l2 t251 _ (Sh.cB HR0.out) HC0.out (Sh.cB HR2.out) HC2.out A5.out).mono ?_); rintro e w7 ⟨v252, rfl, ho0, hb⟩; refine ⟨_, rfl, ?_⟩; have HO253 := am_ (Kd.R_lower (Kd.R_new' ho0 (Kd.R_lt (Sh.rl HO250.out))) (below_size Sh.bw)); replace HO250 := am_ (Kd.R_elder' (Sh.rl HO250.out) (Kd.R_base ho0) hb); replace HB := Sh.hb hb; (try clear hb); (try clear ho0); obtain ⟨Ao8, co8, eo8⟩ := Kd.R_slice HO253.out; subst eo8))
 go_loopg [10, 34] k (fun kq v10 v34 w' => ∃ (x10_1 : Int) (x34_1 : Int), v10 = .int .i64 x10_1 ∧ v34 = .int .i64 x34_1 ∧ Aside0 (spec_l11Lasso.l0 kq l0 l1 l2 t248 x10_1 t251 (t251.length : Int) x34_1 = some (r1, r2, r3)) ∧ Aside0 (kq ≤ k) ∧ Aside0 (Kd.R (Kd.int .i64) 3 w' w.heap.size (fun k_ => some k_ ≠ ((.slice Ao8 t251.length co8) : Value).ownBlock) v249 t248) ∧ Aside0 (Kd.R (Kd.int .i64) 3 w' w.heap.size (fun k_ => some k_ ≠ (v249 : Value).ownBlock) (.slice Ao8 t251.length co8) t251) ∧ Aside0 (Below w.heap.size w w'))
 case atStart => exact ⟨((-1)), (0), (Sh.es), (Sh.es), H', ⟨Nat.le_refl _⟩, ⟨Sh.rl (Kd.R_mono HO250.out (fun _ hk => hk.2))⟩, ⟨Sh.rl (Kd.R_mono HO253.out (fun _ hk => hk.2))⟩, ⟨Sh.bw⟩⟩
 case round =>
  clear H'
  obtain ⟨x10_1, x34_1, rfl, rfl, HA, HK1, HO_9, HO_32, HB⟩ := hrel
  cases gk with
  | zero => exact absurd HA.out (by simp [spec_l11Lasso.l0])
  | succ k1 =>
   have H := HA.out
   clear HA
   simp only [spec_l11Lasso.l0] at H
   by_cases c9 : x34_1 < (t251.length : Int)
   ·rw [if_pos c9] at H
    replace c9 := decide_eq_true c9
    by_cases c10 : 0 ≤ x34_1
    ·rw [if_pos c10] at H
     replace c10 := decide_eq_true c10
     by_cases c11 : x34_1 < (t251.length : Int)
     ·rw [if_pos c11] at H
      replace c11 := decide_eq_true c11
      by_cases c12 : 0 ≤ (rd t251 x34_1)
      ·rw [if_pos c12] at H
       replace c12 := decide_eq_true c12
       by_cases c13 : (rd t251 x34_1) < (t248.length : Int)
       ·rw [if_pos c13] at H
        replace c13 := decide_eq_true c13
        by_cases c14 : (rd t248 (rd t251 x34_1)) ≥ 0
        ·rw [if_pos c14] at H
         have c14b0 : decide (0 ≤ (rd t248 (rd t251 x34_1))) = true := decide_eq_true c14
         clear c14
         by_cases c15 : x10_1 < 0
         ·rw [if_pos c15] at H
          replace c15 := decide_eq_true c15
          have H' := am_ H
          clear H
          have p254 : 0 ≤ (x34_1 : Int) := Sh.od
          have q254 : x34_1 < (t251.length : Int) := Sh.od
          obtain ⟨ad254, e254, hx254_0⟩ := Kd.at_int (Kd.R_reads' HO_32.out).2.2 x34_1 p254 q254
          cases e254
          replace p254 := eq_true p254
          replace q254 := eq_true q254
          try go_wp2
          replace HO_9 := am_ (Kd.R_drew HO_9.out)
          replace HO_32 := am_ (Kd.R_drew HO_32.out)
          replace HB := am_ (below_drew1 HB.out)
          obtain ⟨Ao17, co17, eo17⟩ := Kd.R_slice HO_9.out
          (first | subst eo17 | (injection eo17 with f1_ f2_ f3_; have f4_ := f1_.symm; have f5_ := f3_.symm; clear f1_ f2_ f3_; subst f4_; subst f5_))
          have p255 : 0 ≤ ((rd t251 x34_1) : Int) := Sh.od
          have q255 : (rd t251 x34_1) < (t248.length : Int) := Sh.od
          obtain ⟨ad255, e255, hx255_0⟩ := Kd.at_int (Kd.R_reads' HO_9.out).2.2 (rd t251 x34_1) p255 q255
          cases e255
          replace p255 := eq_true p255
          replace q255 := eq_true q255
          refine start_ (n := 20) (S := fun w' => w'.cell? (ad255.add ((rd t251 x34_1)).toNat) = some (.int .i64 (rd t248 (rd t251 x34_1)))) (ds := []) (Sh.nm 20 0) (by kernel_rfl) rfl rfl (hx255_0) (fun hHeld => ?_); refine with_tabW spec_l11Lasso.tab6 spec_l11Lasso.bits6 (fun HT_ HW_ => ?_)
          generalize wr.drew = w16 at HO_9 HO_32 HB hx255_0 hHeld ⊢
          refine Sh.qA 0 ?_; refine Sh.qA 1 ?_; refine Sh.qA 2 ?_; refine Sh.qT 3 hHeld ?_; refine Sh.qA 4 ?_; refine Sh.qA 5 ?_; refine Sh.qA 6 ?_; refine Sh.qA 7 ?_; refine Sh.qA 8 ?_; refine Sh.qU 9 ?_; refine Sh.qU 10 ?_; refine Sh.qU 11 ?_; refine Sh.qU 12 ?_; refine Sh.qU 13 ?_; refine Sh.qU 14 ?_; refine Sh.qU 15 ?_; refine Sh.qU 16 ?_; refine Sh.qU 17 ?_; refine Sh.qA 18 ?_; refine Sh.qA 19 ?_
          refine done_ (done_of HT_.out (by kernel_rfl)) ?_
          try go_wp2
          go_roundg k1
          case measure => have := HK1.out; omega
          case rel => exact ⟨(rd t251 x34_1), (wrap64 (x34_1 + 1)), (Sh.es), (Sh.es), H', ⟨by have := HK1.out; omega⟩, ⟨Sh.rl HO_9.out⟩, ⟨Sh.rl HO_32.out⟩, ⟨Sh.bw⟩⟩
         ·rw [if_neg c15] at H
          replace c15 := decide_eq_false c15
          by_cases c18 : 0 ≤ x10_1
          ·rw [if_pos c18] at H
           replace c18 := decide_eq_true c18
           by_cases c19 : x10_1 < (t248.length : Int)
           ·rw [if_pos c19] at H
            replace c19 := decide_eq_true c19
            by_cases c20 : (rd t248 (rd t251 x34_1)) < (rd t248 x10_1)
            ·rw [if_pos c20] at H
             replace c20 := decide_eq_true c20
             have H' := am_ H
             clear H
             have p254 : 0 ≤ (x34_1 : Int) := Sh.od
             have q254 : x34_1 < (t251.length : Int) := Sh.od
             obtain ⟨ad254, e254, hx254_0⟩ := Kd.at_int (Kd.R_reads' HO_32.out).2.2 x34_1 p254 q254
             cases e254
             replace p254 := eq_true p254
             replace q254 := eq_true q254
             try go_wp2
             replace HO_9 := am_ (Kd.R_drew HO_9.out)
             replace HO_32 := am_ (Kd.R_drew HO_32.out)
             replace HB := am_ (below_drew1 HB.out)
             obtain ⟨Ao22, co22, eo22⟩ := Kd.R_slice HO_9.out
             (first | subst eo22 | (injection eo22 with f1_ f2_ f3_; have f4_ := f1_.symm; have f5_ := f3_.symm; clear f1_ f2_ f3_; subst f4_; subst f5_))
             have p255 : 0 ≤ ((rd t251 x34_1) : Int) := Sh.od
             have q255 : (rd t251 x34_1) < (t248.length : Int) := Sh.od
             obtain ⟨ad255, e255, hx255_0⟩ := Kd.at_int (Kd.R_reads' HO_9.out).2.2 (rd t251 x34_1) p255 q255
             cases e255
             replace p255 := eq_true p255
             replace q255 := eq_true q255
             have p256 : 0 ≤ ((rd t251 x34_1) : Int) := Sh.od
             have q256 : (rd t251 x34_1) < (t248.length : Int) := Sh.od
             obtain ⟨ad256, e256, hx256_0⟩ := Kd.at_int (Kd.R_reads' HO_9.out).2.2 (rd t251 x34_1) p256 q256
             obtain rfl : ad255 = ad256 := (by injection e256)
             replace p256 := eq_true p256
             replace q256 := eq_true q256
             have p257 : 0 ≤ (x10_1 : Int) := Sh.od
             have q257 : x10_1 < (t248.length : Int) := Sh.od
             obtain ⟨ad257, e257, hx257_0⟩ := Kd.at_int (Kd.R_reads' HO_9.out).2.2 x10_1 p257 q257
             obtain rfl : ad255 = ad257 := (by injection e257)
             replace p257 := eq_true p257
             replace q257 := eq_true q257
             refine start_ (n := 20) (S := fun w' => w'.cell? (ad255.add ((rd t251 x34_1)).toNat) = some (.int .i64 (rd t248 (rd t251 x34_1))) ∧ w'.cell? (ad255.add ((rd t251 x34_1)).toNat) = some (.int .i64 (rd t248 (rd t251 x34_1))) ∧ w'.cell? (ad255.add (x10_1).toNat) = some (.int .i64 (rd t248 x10_1))) (ds := []) (Sh.nm 20 0) (by kernel_rfl) rfl rfl ⟨hx255_0, hx256_0, hx257_0⟩ (fun hHeld => ?_); refine with_tabW spec_l11Lasso.tab6 spec_l11Lasso.bits6 (fun HT_ HW_ => ?_)
             generalize wr.drew = w21 at HO_9 HO_32 HB hx255_0 hx256_0 hx257_0 hHeld ⊢
             refine Sh.qA 0 ?_; refine Sh.qA 1 ?_; refine Sh.qA 2 ?_; refine Sh.qT 3 hHeld ?_; refine Sh.qA 4 ?_; refine Sh.qA 5 ?_; refine Sh.qA 6 ?_; refine Sh.qA 7 ?_; refine Sh.qA 8 ?_; refine Sh.qA 9 ?_; refine Sh.qA 10 ?_; refine Sh.qA 11 ?_; refine Sh.qA 13 ?_; refine Sh.qA 14 ?_; refine Sh.qA 15 ?_; refine Sh.qT 12 hHeld ?_; refine Sh.qT 16 hHeld ?_; refine Sh.qA 17 ?_; refine Sh.qA 18 ?_; refine Sh.qA 19 ?_
             refine done_ (done_of HT_.out (by kernel_rfl)) ?_
             try go_wp2
             go_roundg k1
             case measure => have := HK1.out; omega
             case rel => exact ⟨(rd t251 x34_1), (wrap64 (x34_1 + 1)), (Sh.es), (Sh.es), H', ⟨by have := HK1.out; omega⟩, ⟨Sh.rl HO_9.out⟩, ⟨Sh.rl HO_32.out⟩, ⟨Sh.bw⟩⟩
            ·rw [if_neg c20] at H
             replace c20 := decide_eq_false c20
             have H' := am_ H
             clear H
             have p254 : 0 ≤ (x34_1 : Int) := Sh.od
             have q254 : x34_1 < (t251.length : Int) := Sh.od
             obtain ⟨ad254, e254, hx254_0⟩ := Kd.at_int (Kd.R_reads' HO_32.out).2.2 x34_1 p254 q254
             cases e254
             replace p254 := eq_true p254
             replace q254 := eq_true q254
             try go_wp2
             replace HO_9 := am_ (Kd.R_drew HO_9.out)
             replace HO_32 := am_ (Kd.R_drew HO_32.out)
             replace HB := am_ (below_drew1 HB.out)
             obtain ⟨Ao24, co24, eo24⟩ := Kd.R_slice HO_9.out
             (first | subst eo24 | (injection eo24 with f1_ f2_ f3_; have f4_ := f1_.symm; have f5_ := f3_.symm; clear f1_ f2_ f3_; subst f4_; subst f5_))
             have p255 : 0 ≤ ((rd t251 x34_1) : Int) := Sh.od
             have q255 : (rd t251 x34_1) < (t248.length : Int) := Sh.od
             obtain ⟨ad255, e255, hx255_0⟩ := Kd.at_int (Kd.R_reads' HO_9.out).2.2 (rd t251 x34_1) p255 q255
             cases e255
             replace p255 := eq_true p255
             replace q255 := eq_true q255
             have p256 : 0 ≤ ((rd t251 x34_1) : Int) := Sh.od
             have q256 : (rd t251 x34_1) < (t248.length : Int) := Sh.od
             obtain ⟨ad256, e256, hx256_0⟩ := Kd.at_int (Kd.R_reads' HO_9.out).2.2 (rd t251 x34_1) p256 q256
             obtain rfl : ad255 = ad256 := (by injection e256)
             replace p256 := eq_true p256
             replace q256 := eq_true q256
             have p257 : 0 ≤ (x10_1 : Int) := Sh.od
             have q257 : x10_1 < (t248.length : Int) := Sh.od
             obtain ⟨ad257, e257, hx257_0⟩ := Kd.at_int (Kd.R_reads' HO_9.out).2.2 x10_1 p257 q257
             obtain rfl : ad255 = ad257 := (by injection e257)
             replace p257 := eq_true p257
             replace q257 := eq_true q257
             refine start_ (n := 20) (S := fun w' => w'.cell? (ad255.add ((rd t251 x34_1)).toNat) = some (.int .i64 (rd t248 (rd t251 x34_1))) ∧ w'.cell? (ad255.add ((rd t251 x34_1)).toNat) = some (.int .i64 (rd t248 (rd t251 x34_1))) ∧ w'.cell? (ad255.add (x10_1).toNat) = some (.int .i64 (rd t248 x10_1))) (ds := []) (Sh.nm 20 0) (by kernel_rfl) rfl rfl ⟨hx255_0, hx256_0, hx257_0⟩ (fun hHeld => ?_); refine with_tabW spec_l11Lasso.tab6 spec_l11Lasso.bits6 (fun HT_ HW_ => ?_)
             generalize wr.drew = w23 at HO_9 HO_32 HB hx255_0 hx256_0 hx257_0 hHeld ⊢
             refine Sh.qA 0 ?_; refine Sh.qA 1 ?_; refine Sh.qA 2 ?_; refine Sh.qT 3 hHeld ?_; refine Sh.qA 4 ?_; refine Sh.qA 5 ?_; refine Sh.qA 6 ?_; refine Sh.qA 7 ?_; refine Sh.qA 8 ?_; refine Sh.qA 9 ?_; refine Sh.qA 10 ?_; refine Sh.qA 11 ?_; refine Sh.qA 13 ?_; refine Sh.qA 14 ?_; refine Sh.qA 15 ?_; refine Sh.qT 12 hHeld ?_; refine Sh.qT 16 hHeld ?_; refine Sh.qA 17 ?_; refine Sh.qA 18 ?_; refine Sh.qA 19 ?_
             refine done_ (done_of HT_.out (by kernel_rfl)) ?_
             try go_wp2
             go_roundg k1
             case measure => have := HK1.out; omega
             case rel => exact ⟨(x10_1), (wrap64 (x34_1 + 1)), (Sh.es), (Sh.es), H', ⟨by have := HK1.out; omega⟩, ⟨Sh.rl HO_9.out⟩, ⟨Sh.rl HO_32.out⟩, ⟨Sh.bw⟩⟩
           ·rw [if_neg c19] at H
            cases H
          ·rw [if_neg c18] at H
           cases H
        ·rw [if_neg c14] at H
         have c14b0 : decide (0 ≤ (rd t248 (rd t251 x34_1))) = false := decide_eq_false c14
         clear c14
         have H' := am_ H
         clear H
         have p254 : 0 ≤ (x34_1 : Int) := Sh.od
         have q254 : x34_1 < (t251.length : Int) := Sh.od
         obtain ⟨ad254, e254, hx254_0⟩ := Kd.at_int (Kd.R_reads' HO_32.out).2.2 x34_1 p254 q254
         cases e254
         replace p254 := eq_true p254
         replace q254 := eq_true q254
         try go_wp2
         replace HO_9 := am_ (Kd.R_drew HO_9.out)
         replace HO_32 := am_ (Kd.R_drew HO_32.out)
         replace HB := am_ (below_drew1 HB.out)
         obtain ⟨Ao26, co26, eo26⟩ := Kd.R_slice HO_9.out
         (first | subst eo26 | (injection eo26 with f1_ f2_ f3_; have f4_ := f1_.symm; have f5_ := f3_.symm; clear f1_ f2_ f3_; subst f4_; subst f5_))
         have p255 : 0 ≤ ((rd t251 x34_1) : Int) := Sh.od
         have q255 : (rd t251 x34_1) < (t248.length : Int) := Sh.od
         obtain ⟨ad255, e255, hx255_0⟩ := Kd.at_int (Kd.R_reads' HO_9.out).2.2 (rd t251 x34_1) p255 q255
         cases e255
         replace p255 := eq_true p255
         replace q255 := eq_true q255
         refine start_ (n := 20) (S := fun w' => w'.cell? (ad255.add ((rd t251 x34_1)).toNat) = some (.int .i64 (rd t248 (rd t251 x34_1)))) (ds := []) (Sh.nm 20 0) (by kernel_rfl) rfl rfl (hx255_0) (fun hHeld => ?_); refine with_tabW spec_l11Lasso.tab6 spec_l11Lasso.bits6 (fun HT_ HW_ => ?_)
         generalize wr.drew = w25 at HO_9 HO_32 HB hx255_0 hHeld ⊢
         refine Sh.qA 0 ?_; refine Sh.qA 1 ?_; refine Sh.qA 2 ?_; refine Sh.qT 3 hHeld ?_; refine Sh.qA 4 ?_; refine Sh.qA 5 ?_; refine Sh.qU 6 ?_; refine Sh.qU 7 ?_; refine Sh.qU 8 ?_; refine Sh.qU 9 ?_; refine Sh.qU 10 ?_; refine Sh.qU 11 ?_; refine Sh.qU 12 ?_; refine Sh.qU 13 ?_; refine Sh.qU 14 ?_; refine Sh.qU 15 ?_; refine Sh.qU 16 ?_; refine Sh.qU 17 ?_; refine Sh.qU 18 ?_; refine Sh.qA 19 ?_
         refine done_ (done_of HT_.out (by kernel_rfl)) ?_
         try go_wp2
         go_roundg k1
         case measure => have := HK1.out; omega
         case rel => exact ⟨(x10_1), (wrap64 (x34_1 + 1)), (Sh.es), (Sh.es), H', ⟨by have := HK1.out; omega⟩, ⟨Sh.rl HO_9.out⟩, ⟨Sh.rl HO_32.out⟩, ⟨Sh.bw⟩⟩
       ·rw [if_neg c13] at H
        cases H
      ·rw [if_neg c12] at H
       cases H
     ·rw [if_neg c11] at H
      cases H
    ·rw [if_neg c10] at H
     cases H
   ·rw [if_neg c9] at H
    replace c9 := decide_eq_false c9
    by_cases c27 : x10_1 < 0
    ·rw [if_pos c27] at H
     replace c27 := decide_eq_true c27
     simp only [Option.some.injEq, Prod.mk.injEq] at H
     obtain ⟨rfl, rfl, rfl⟩ := H
     go_wp2
     go_ret3
     exact ⟨_, _, by first | rfl | (simp [errW_none, errW_some] <;> rfl) | (simp [*, errW_none, errW_some] <;> rfl), by first | exact Kd.R_nil _ _ _ _ _ | exact Kd.N_nil _ _ _ _ _ | exact Kd.V_nil _ _ _ _ _ | exact Kd.Q_nil _ _ _ _ _ | exact Kd.S_nil _ _ _ _ _, by first | exact Kd.R_nil _ _ _ _ _ | exact Kd.N_nil _ _ _ _ _ | exact Kd.V_nil _ _ _ _ _ | exact Kd.Q_nil _ _ _ _ _ | exact Kd.S_nil _ _ _ _ _, Sh.bw⟩
    ·rw [if_neg c27] at H
     replace c27 := decide_eq_false c27
     obtain ⟨y258, hy258⟩ : ∃ y_ : List Int, y_ = (([x10_1] : List Int)) := ⟨_, rfl⟩
     replace H : ((spec_l11Path.f k1 l0 l1 y258).bind fun bt261 => ((spec_l11Parts.f k1 l0).bind fun t265 => ((spec_l11Within.f k1 l0 t265).bind fun t268 => (spec_l11Lasso.l1 k1 x10_1 bt261.1 t265 t268 (([x10_1] : List Int)) l2 (l2.length : Int) 0)))) = some (r1, r2, r3) := by first | (rw [hy258]; with_reducible exact H) | (have H2_ := (Option.bind_some _ _).symm.trans H; rw [hy258]; with_reducible exact H2_) | (have H2_ := (Option.bind_some _ _).symm.trans H; with_reducible exact H2_) | with_reducible exact H | (rw [hy258]; exact H) | exact H
     have Ny258 := am_ hy258
     clear hy258
     obtain ⟨⟨t261, t262⟩, A280, H⟩ := Sh.bd H
     have A28 := am_ A280
     clear A280
     obtain ⟨t265, A29, H⟩ := Sh.ba H
     obtain ⟨t268, A30, H⟩ := Sh.ba H
     obtain ⟨y271, hy271⟩ : ∃ y_ : List Int, y_ = (([x10_1] : List Int)) := ⟨_, rfl⟩
     replace H : (spec_l11Lasso.l1 k1 x10_1 t261 t265 t268 y271 l2 (l2.length : Int) 0) = some (r1, r2, r3) := by first | (rw [hy271]; with_reducible exact H) | (have H2_ := (Option.bind_some _ _).symm.trans H; rw [hy271]; with_reducible exact H2_) | (have H2_ := (Option.bind_some _ _).symm.trans H; with_reducible exact H2_) | with_reducible exact H | (rw [hy271]; exact H) | exact H
     have Ny271 := am_ hy271
     clear hy271
     have H' := am_ H
     clear H
     go_wp2_with (first | ((with_reducible refine Sh.d 66 ?_); refine Kd.R_lit (Kd.int .i64) _ 3 ?hg (N := 66) ?hd (xs := ([x10_1] : List Int)) (inner := [.int .i64 x10_1]) (ok := fun _ => True) (okp := fun _ => True) ?hr ?hp (fun _ hk => hk) trivial (Below.refl _ _) (Nat.le_refl _) (by simp) ?_; (case hd => rfl); (case hg => rfl); (case hr => first | (go_simp; done) | (go_simp; rfl)); (case hp => exact (Reps.one (show Kd.M (Kd.int .i64) _ _ _ x10_1 [.int .i64 x10_1] from rfl) (Reps.none _ _))); intro v259 w31 ho32 hb hg_ hnew_; clear hg_ hnew_; (first | rw [← Ny258.out] at ho32 | (simp only [Int.reduceToNat] at ho32; rw [← Ny258.out] at ho32)); have HO260 := am_ (Kd.R_lower (Kd.R_new' (Kd.R_new' ho32 (Kd.R_lt (Sh.rl HO_9.out))) (Kd.R_lt (Sh.rl HO_32.out))) (below_size Sh.bw)); replace HO_9 := am_ (Kd.R_elder' (Sh.rl HO_9.out) (Kd.R_base ho32) hb); replace HO_32 := am_ (Kd.R_elder' (Sh.rl HO_32.out) (Kd.R_base ho32) hb); replace HB := Sh.hb hb; clear hb ho32; obtain ⟨Ao33, co33, eo33⟩ := Kd.R_slice HO260.out; subst eo33) | ((with_reducible refine Sh.k 59 ?_); refine Sh.gL (some 67) Try.func59 #[.slice A0 l0.length c0, .slice A1 l1.length c1, .slice Ao33 y258.length co33] (h := ?_); (with_reducible refine (spec_l11Path.calls k1 _ _ l0 _ _ l1 _ _ y258 t261 t262 _ (Sh.cB HR0.out) HC0.out (Sh.cB HR1.out) HC1.out (Sh.cR (Kd.R_reads' HO260.out).2.2) (Kd.R_reads' HO260.out).2.1 A28.out).mono ?_); rintro e w34 ⟨v263, rfl, ho0, hb⟩; refine ⟨_, rfl, ?_⟩; have n0_ := am_ (Kd.R_elder' (Sh.rl HO_9.out) (Kd.R_base ho0) hb); have n1_ := am_ (Kd.R_elder' (Sh.rl HO_32.out) (Kd.R_base ho0) hb); have n2_ := am_ (Kd.R_elder' (Sh.rl HO260.out) (Kd.R_base ho0) hb); have n3_ := am_ (Kd.R_lower (Kd.R_new' (Kd.R_new' (Kd.R_new' ho0 (Kd.R_lt (Sh.rl HO_9.out))) (Kd.R_lt (Sh.rl HO_32.out))) (Kd.R_lt (Sh.rl HO260.out))) (below_size Sh.bw)); have n4_ := am_ (below_step Sh.bw hb); clear HO_9; clear HO_32; clear HO260; clear HB; have HO_9 := n0_; have HO_32 := n1_; have HO260 := n2_; have HO264 := n3_; have HB := n4_; clear n0_ n1_ n2_ n3_ n4_; (try clear hb); (try clear hk); (try clear ho0)) | ((with_reducible refine Sh.k 28 ?_); refine Sh.gL (some 71) Try.func28 #[.slice A0 l0.length c0] (h := ?_); (with_reducible refine (spec_l11Parts.calls k1 _ _ l0 t265 _ (Sh.cB HR0.out) HC0.out A29.out).mono ?_); rintro e w35 ⟨v266, rfl, ho0, hb⟩; refine ⟨_, rfl, ?_⟩; have n0_ := am_ (Kd.R_elder' (Sh.rl HO_9.out) (Kd.R_base ho0) hb); have n1_ := am_ (Kd.R_elder' (Sh.rl HO_32.out) (Kd.R_base ho0) hb); have n2_ := am_ (Kd.R_elder' (Sh.rl HO260.out) (Kd.R_base ho0) hb); have n3_ := am_ (Kd.R_elder' (Sh.rl HO264.out) (Kd.R_base ho0) hb); have n4_ := am_ (Kd.R_lower (Kd.R_new' (Kd.R_new' (Kd.R_new' (Kd.R_new' ho0 (Kd.R_lt (Sh.rl HO_9.out))) (Kd.R_lt (Sh.rl HO_32.out))) (Kd.R_lt (Sh.rl HO260.out))) (Kd.R_lt (Sh.rl HO264.out))) (below_size Sh.bw)); have n5_ := am_ (below_step Sh.bw hb); clear HO_9; clear HO_32; clear HO260; clear HO264; clear HB; have HO_9 := n0_; have HO_32 := n1_; have HO260 := n2_; have HO264 := n3_; have HO267 := n4_; have HB := n5_; clear n0_ n1_ n2_ n3_ n4_ n5_; (try clear hb); (try clear ho0); obtain ⟨Ao36, co36, eo36⟩ := Kd.R_slice HO267.out; subst eo36) | ((with_reducible refine Sh.k 51 ?_); refine Sh.gL (some 74) Try.func51 #[.slice A0 l0.length c0, .slice Ao36 t265.length co36] (h := ?_); (with_reducible refine (spec_l11Within.calls k1 _ _ l0 _ _ t265 t268 _ (Sh.cB HR0.out) HC0.out (Sh.cR (Kd.R_reads' HO267.out).2.2) (Kd.R_reads' HO267.out).2.1 A30.out).mono ?_); rintro e w37 ⟨v269, rfl, ho0, hb⟩; refine ⟨_, rfl, ?_⟩; have n0_ := am_ (Kd.R_below (Sh.rl HO_9.out) hb); have n1_ := am_ (Kd.R_below (Sh.rl HO_32.out) hb); have n2_ := am_ (Kd.R_below (Sh.rl HO260.out) hb); have n3_ := am_ (Kd.R_below (Sh.rl HO264.out) hb); have n4_ := am_ (Kd.R_below (Sh.rl HO267.out) hb); have n5_ := am_ (Kd.S_lower (Kd.S_new' (Kd.S_new' (Kd.S_new' (Kd.S_new' (Kd.S_new' ho0 (Kd.R_lt (Sh.rl HO_9.out))) (Kd.R_lt (Sh.rl HO_32.out))) (Kd.R_lt (Sh.rl HO260.out))) (Kd.R_lt (Sh.rl HO264.out))) (Kd.R_lt (Sh.rl HO267.out))) (below_size Sh.bw)); have n6_ := am_ (below_step Sh.bw hb); clear HO_9; clear HO_32; clear HO260; clear HO264; clear HO267; clear HB; have HO_9 := n0_; have HO_32 := n1_; have HO260 := n2_; have HO264 := n3_; have HO267 := n4_; have HO270 := n5_; have HB := n6_; clear n0_ n1_ n2_ n3_ n4_ n5_ n6_; (try clear hb); (try clear ho0)) | ((with_reducible refine Sh.d 76 ?_); refine Kd.R_lit (Kd.int .i64) _ 3 ?hg (N := 76) ?hd (xs := ([x10_1] : List Int)) (inner := [.int .i64 x10_1]) (ok := fun _ => True) (okp := fun _ => True) ?hr ?hp (fun _ hk => hk) trivial (Below.refl _ _) (Nat.le_refl _) (by simp) ?_; (case hd => rfl); (case hg => rfl); (case hr => first | (go_simp; done) | (go_simp; rfl)); (case hp => exact (Reps.one (show Kd.M (Kd.int .i64) _ _ _ x10_1 [.int .i64 x10_1] from rfl) (Reps.none _ _))); intro v272 w38 ho39 hb hg_ hnew_; clear hg_ hnew_; (first | rw [← Ny271.out] at ho39 | (simp only [Int.reduceToNat] at ho39; rw [← Ny271.out] at ho39)); have n0_ := am_ (Kd.R_elder' (Sh.rl HO_9.out) (Kd.R_base ho39) hb); have n1_ := am_ (Kd.R_elder' (Sh.rl HO_32.out) (Kd.R_base ho39) hb); have n2_ := am_ (Kd.R_elder' (Sh.rl HO260.out) (Kd.R_base ho39) hb); have n3_ := am_ (Kd.R_elder' (Sh.rl HO264.out) (Kd.R_base ho39) hb); have n4_ := am_ (Kd.R_elder' (Sh.rl HO267.out) (Kd.R_base ho39) hb); have n5_ := am_ (Kd.S_elder' (by (with_reducible repeat (first | apply Kd.S_alloc | apply Kd.S_drewN | apply Kd.S_drew)); exact HO270.out) (Kd.R_base ho39) hb); have n6_ := am_ (Kd.R_lower (Kd.R_new' (Kd.R_new' (Kd.R_new' (Kd.R_new' (Kd.R_new' ho39 (Kd.R_lt (Sh.rl HO_9.out))) (Kd.R_lt (Sh.rl HO_32.out))) (Kd.R_lt (Sh.rl HO260.out))) (Kd.R_lt (Sh.rl HO264.out))) (Kd.R_lt (Sh.rl HO267.out))) (below_size Sh.bw)); have n7_ := am_ (below_step Sh.bw hb); clear HO_9; clear HO_32; clear HO260; clear HO264; clear HO267; clear HO270; clear HB; have HO_9 := n0_; have HO_32 := n1_; have HO260 := n2_; have HO264 := n3_; have HO267 := n4_; have HO270 := n5_; have HO273 := n6_; have HB := n7_; clear n0_ n1_ n2_ n3_ n4_ n5_ n6_ n7_; clear hb ho39))
     go_loopg [17, 79] k1 (fun kq v17 v79 w' => ∃ (x17_2 : List Int) (x79_2 : Int), v79 = .int .i64 x79_2 ∧ Aside0 (spec_l11Lasso.l1 kq x10_1 t261 t265 t268 x17_2 l2 (l2.length : Int) x79_2 = some (r1, r2, r3)) ∧ Aside0 (kq ≤ k1) ∧ Aside0 (Kd.R (Kd.int .i64) 3 w' w.heap.size (fun k_ => some k_ ≠ ((.slice Ao36 t265.length co36) : Value).ownBlock ∧ some k_ ≠ (v17 : Value).ownBlock) v263 t261) ∧ Aside0 (Kd.R (Kd.int .i64) 3 w' w.heap.size (fun k_ => some k_ ≠ (v263 : Value).ownBlock ∧ some k_ ≠ (v17 : Value).ownBlock) (.slice Ao36 t265.length co36) t265) ∧ Aside0 (Kd.S (Kd.slice 3 (Kd.int .i64)) 26 w' w.heap.size (fun k_ => some k_ ≠ (v263 : Value).ownBlock ∧ some k_ ≠ ((.slice Ao36 t265.length co36) : Value).ownBlock ∧ some k_ ≠ (v17 : Value).ownBlock) v269 t268) ∧ Aside0 (Kd.R (Kd.int .i64) 3 w' w.heap.size (fun k_ => some k_ ≠ (v263 : Value).ownBlock ∧ some k_ ≠ ((.slice Ao36 t265.length co36) : Value).ownBlock) v17 x17_2) ∧ Aside0 (Below w.heap.size w w'))
     case atStart => exact ⟨(y271), (0), (Sh.es), H', ⟨Nat.le_refl _⟩, ⟨Sh.rl (Kd.R_mono HO264.out (fun _ h => ⟨h.1.2, h.2⟩))⟩, ⟨Sh.rl (Kd.R_mono HO267.out (fun _ h => ⟨h.1.2, h.2⟩))⟩, ⟨by (with_reducible repeat (first | apply Kd.S_alloc | apply Kd.S_drewN | apply Kd.S_drew)); exact Kd.S_mono HO270.out (fun _ h => ⟨h.1.1.2, h.1.2, h.2⟩)⟩, ⟨Sh.rl (Kd.R_mono HO273.out (fun _ h => ⟨h.1.2, h.2⟩))⟩, ⟨Sh.bw⟩⟩
     case round =>
      clear H'
      try clear hx2
      try clear hx25
      try clear hx254_0
      try clear hx255_0
      try clear hx256_0
      try clear hx257_0
      obtain ⟨x17_2, x79_2, rfl, HA, HK2, HO_13, HO_15, HO_16, HO_17, HB⟩ := hrel
      cases gk with
      | zero => exact absurd HA.out (by simp [spec_l11Lasso.l1])
      | succ k2 =>
       have H := HA.out
       clear HA
       simp only [spec_l11Lasso.l1] at H
       by_cases c40 : x79_2 < (l2.length : Int)
       ·rw [if_pos c40] at H
        replace c40 := decide_eq_true c40
        by_cases c41 : 0 ≤ x79_2
        ·rw [if_pos c41] at H
         replace c41 := decide_eq_true c41
         by_cases c42 : x79_2 < (l2.length : Int)
         ·rw [if_pos c42] at H
          replace c42 := decide_eq_true c42
          have H' := am_ H
          clear H
          have p293 : 0 ≤ (x79_2 : Int) := Sh.od
          have q293 : x79_2 < (l2.length : Int) := Sh.od
          obtain ⟨ad293, A293_0, c293_0, e293, hx293_0, hl293_0, hi293_0⟩ := at_L1 HR2.out x79_2 p293 q293
          cases e293
          try replace hx293_0 := Sh.cw hx293_0
          have HR293_0 := am_ hi293_0
          have HC293_0 := am_ hl293_0
          clear hi293_0 hl293_0
          replace p293 := eq_true p293
          replace q293 := eq_true q293
          go_wp2
          go_loopg [20, 85] k2 (fun kq v20 v85 w' => ∃ (x20_3 : List Int) (x85_3 : Int), v85 = .int .i64 x85_3 ∧ Aside0 (spec_l11Lasso.l2 kq x10_1 t261 t265 t268 x17_2 x20_3 l2 (l2.length : Int) x79_2 (rd_L1 l2 x79_2) ((rd_L1 l2 x79_2).length : Int) x85_3 = some (r1, r2, r3)) ∧ Aside0 (kq ≤ k2) ∧ Aside0 (Kd.R (Kd.int .i64) 3 w' w.heap.size (fun k_ => some k_ ≠ ((.slice Ao36 t265.length co36) : Value).ownBlock ∧ some k_ ≠ (u17 : Value).ownBlock ∧ some k_ ≠ (v20 : Value).ownBlock) v263 t261) ∧ Aside0 (Kd.R (Kd.int .i64) 3 w' w.heap.size (fun k_ => some k_ ≠ (v263 : Value).ownBlock ∧ some k_ ≠ (u17 : Value).ownBlock ∧ some k_ ≠ (v20 : Value).ownBlock) (.slice Ao36 t265.length co36) t265) ∧ Aside0 (Kd.S (Kd.slice 3 (Kd.int .i64)) 26 w' w.heap.size (fun k_ => some k_ ≠ (v263 : Value).ownBlock ∧ some k_ ≠ ((.slice Ao36 t265.length co36) : Value).ownBlock ∧ some k_ ≠ (u17 : Value).ownBlock ∧ some k_ ≠ (v20 : Value).ownBlock) v269 t268) ∧ Aside0 (Kd.R (Kd.int .i64) 3 w' w.heap.size (fun k_ => some k_ ≠ (v263 : Value).ownBlock ∧ some k_ ≠ ((.slice Ao36 t265.length co36) : Value).ownBlock ∧ some k_ ≠ (v20 : Value).ownBlock) u17 x17_2) ∧ Aside0 (Kd.R (Kd.int .i64) 3 w' w.heap.size (fun k_ => some k_ ≠ (v263 : Value).ownBlock ∧ some k_ ≠ ((.slice Ao36 t265.length co36) : Value).ownBlock ∧ some k_ ≠ (u17 : Value).ownBlock) v20 x20_3) ∧ Aside0 (Below w.heap.size w w'))
          case atStart => exact ⟨(([] : List Int)), (0), (Sh.es), H', ⟨Nat.le_refl _⟩, ⟨Sh.rl (Kd.R_mono HO_13.out (fun _ hk => ⟨hk.1, ⟨hk.2, (by simp [Value.ownBlock])⟩⟩))⟩, ⟨Sh.rl (Kd.R_mono HO_15.out (fun _ hk => ⟨hk.1, ⟨hk.2, (by simp [Value.ownBlock])⟩⟩))⟩, ⟨by (with_reducible repeat (first | apply Kd.S_alloc | apply Kd.S_drewN | apply Kd.S_drew)); exact Kd.S_mono HO_16.out (fun _ hk => ⟨hk.1, ⟨hk.2.1, ⟨hk.2.2, (by simp [Value.ownBlock])⟩⟩⟩)⟩, ⟨Sh.rl (Kd.R_mono HO_17.out (fun _ hk => ⟨hk.1, ⟨hk.2, (by simp [Value.ownBlock])⟩⟩))⟩, ⟨by first | exact Kd.R_nil _ _ _ _ _ | exact Kd.N_nil _ _ _ _ _ | exact Kd.V_nil _ _ _ _ _ | exact Kd.Q_nil _ _ _ _ _ | exact Kd.S_nil _ _ _ _ _⟩, ⟨Sh.bw⟩⟩
          case round =>
           clear H'
           try clear hx2
           try clear hx25
           try clear hx29
           try clear hx254_0
           try clear hx255_0
           try clear hx256_0
           try clear hx257_0
           try clear hx293_0
           obtain ⟨x20_3, x85_3, rfl, HA, HK3, HO_13, HO_15, HO_16, HO_17, HO_20, HB⟩ := hrel
           cases gk with
           | zero => exact absurd HA.out (by simp [spec_l11Lasso.l2])
           | succ k3 =>
            have H := HA.out
            clear HA
            simp only [spec_l11Lasso.l2] at H
            by_cases c43 : x85_3 < ((rd_L1 l2 x79_2).length : Int)
            ·rw [if_pos c43] at H
             replace c43 := decide_eq_true c43
             by_cases c44 : 0 ≤ x85_3
             ·rw [if_pos c44] at H
              replace c44 := decide_eq_true c44
              by_cases c45 : x85_3 < ((rd_L1 l2 x79_2).length : Int)
              ·rw [if_pos c45] at H
               replace c45 := decide_eq_true c45
               by_cases c46 : 0 ≤ (rd (rd_L1 l2 x79_2) x85_3)
               ·rw [if_pos c46] at H
                replace c46 := decide_eq_true c46
                by_cases c47 : (rd (rd_L1 l2 x79_2) x85_3) < (t265.length : Int)
                ·rw [if_pos c47] at H
                 replace c47 := decide_eq_true c47
                 by_cases c48 : 0 ≤ x10_1
                 ·rw [if_pos c48] at H
                  replace c48 := decide_eq_true c48
                  by_cases c49 : x10_1 < (t265.length : Int)
                  ·rw [if_pos c49] at H
                   replace c49 := decide_eq_true c49
                   by_cases c50 : (rd t265 (rd (rd_L1 l2 x79_2) x85_3)) = (rd t265 x10_1)
                   ·rw [if_pos c50] at H
                    have c50b0 : ((rd t265 (rd (rd_L1 l2 x79_2) x85_3)) == (rd t265 x10_1)) = true := beq_iff_eq.mpr c50
                    have c50b1 : ((rd t265 (rd (rd_L1 l2 x79_2) x85_3)) != (rd t265 x10_1)) = false := bne_eq_false_iff_eq.mpr c50
                    clear c50
                    by_cases c51 : x20_3.length < 17592186044416
                    ·rw [if_pos c51] at H
                     have LMc51 := am_ c51
                     clear c51
                     obtain ⟨y297, hy297⟩ : ∃ y_ : List Int, y_ = (x20_3 ++ [rd (rd_L1 l2 x79_2) x85_3]) := ⟨_, rfl⟩
                     replace H : (spec_l11Lasso.l2 k3 x10_1 t261 t265 t268 x17_2 y297 l2 (l2.length : Int) x79_2 (rd_L1 l2 x79_2) ((rd_L1 l2 x79_2).length : Int) (wrap64 (x85_3 + 1))) = some (r1, r2, r3) := by first | (rw [hy297]; with_reducible exact H) | (have H2_ := (Option.bind_some _ _).symm.trans H; rw [hy297]; with_reducible exact H2_) | (have H2_ := (Option.bind_some _ _).symm.trans H; with_reducible exact H2_) | with_reducible exact H | (rw [hy297]; exact H) | exact H
                     have Ny297 := am_ hy297
                     clear hy297
                     have H' := am_ H
                     clear H
                     have p294 : 0 ≤ (x85_3 : Int) := Sh.od
                     have q294 : x85_3 < ((rd_L1 l2 x79_2).length : Int) := Sh.od
                     obtain ⟨ad294, e294, hx294_0⟩ := Kd.at_int HR293_0.out x85_3 p294 q294
                     cases e294
                     try replace hx294_0 := Sh.cw hx294_0
                     replace p294 := eq_true p294
                     replace q294 := eq_true q294
                     try go_wp2
                     replace HO_13 := am_ (Kd.R_drew HO_13.out)
                     replace HO_15 := am_ (Kd.R_drew HO_15.out)
                     replace HO_16 := am_ (Kd.S_drew HO_16.out)
                     replace HO_17 := am_ (Kd.R_drew HO_17.out)
                     replace HO_20 := am_ (Kd.R_drew HO_20.out)
                     replace HB := am_ (below_drew1 HB.out)
                     have p295 : 0 ≤ ((rd (rd_L1 l2 x79_2) x85_3) : Int) := Sh.od
                     have q295 : (rd (rd_L1 l2 x79_2) x85_3) < (t265.length : Int) := Sh.od
                     obtain ⟨ad295, e295, hx295_0⟩ := Kd.at_int (Kd.R_reads' HO_15.out).2.2 (rd (rd_L1 l2 x79_2) x85_3) p295 q295
                     cases e295
                     replace p295 := eq_true p295
                     replace q295 := eq_true q295
                     have p296 : 0 ≤ (x10_1 : Int) := Sh.od
                     have q296 : x10_1 < (t265.length : Int) := Sh.od
                     obtain ⟨ad296, e296, hx296_0⟩ := Kd.at_int (Kd.R_reads' HO_15.out).2.2 x10_1 p296 q296
                     obtain rfl : ad295 = ad296 := (by injection e296)
                     replace p296 := eq_true p296
                     replace q296 := eq_true q296
                     refine start_ (n := 9) (S := fun w' => w'.cell? (ad295.add ((rd (rd_L1 l2 x79_2) x85_3)).toNat) = some (.int .i64 (rd t265 (rd (rd_L1 l2 x79_2) x85_3))) ∧ w'.cell? (ad295.add (x10_1).toNat) = some (.int .i64 (rd t265 x10_1))) (ds := []) (Sh.nm 9 0) (by kernel_rfl) rfl rfl ⟨hx295_0, hx296_0⟩ (fun hHeld => ?_); refine with_tabW spec_l11Lasso.tab22 spec_l11Lasso.bits22 (fun HT_ HW_ => ?_)
                     generalize wr.drew = w52 at HO_13 HO_15 HO_16 HO_17 HO_20 HB hx295_0 hx296_0 hHeld ⊢
                     refine Sh.qA 0 ?_; refine Sh.qA 1 ?_; refine Sh.qA 2 ?_; refine Sh.qA 4 ?_; refine Sh.qA 5 ?_; refine Sh.qA 6 ?_; refine Sh.qT 3 hHeld ?_; refine Sh.qT 7 hHeld ?_; refine Sh.qA 8 ?_
                     refine done_ (done_of HT_.out (by kernel_rfl)) ?_
                     try go_wp2_with (first | ((with_reducible refine gate_builtin (b := .append) (xs := #[.tmp 98, .tmp 100]) rfl ?_); at_builtin; refine Kd.R_append (Kd.int .i64) (w0 := w) w.heap.size rfl (.tmp 98) (.tmp 100) 26 3 (.int .i64 0) 8 rfl Try.underlying26 info3 rfl (by decide) (by omega) u20 x20_3 (rd (rd_L1 l2 x79_2) x85_3) [.int .i64 (rd (rd_L1 l2 x79_2) x85_3)] (fun k_ => some k_ ≠ (v263 : Value).ownBlock ∧ some k_ ≠ (.slice (some ad295) t265.length co36 : Value).ownBlock ∧ some k_ ≠ (u17 : Value).ownBlock) (fun _ => False) rfl rfl ?aP (fun _ hk => hk.elim) ?aF ?aO ?aB ?aS ?aL ?_; (case aP => exact rfl); (case aB => exact Sh.bw); (case aF => exact (fun k_ hk => ⟨Kd.fresh' (Kd.R_lt (Sh.rl HO_13.out)) k_ hk, Kd.fresh' (Kd.R_lt (Sh.rl HO_15.out)) k_ hk, Kd.fresh' (Kd.R_lt (Sh.rl HO_17.out)) k_ hk⟩)); (case aO => exact (Sh.rl HO_20.out)); (case aS => exact (below_size Sh.bw)); (case aL => have := LMc51.out; omega); intro v298 w53 ho hb hg hat; rw [← Ny297.out] at ho; have n0_ := am_ (Kd.R_after (ok := (fun k_ => some k_ ≠ (.slice (some ad295) t265.length co36 : Value).ownBlock ∧ some k_ ≠ (u17 : Value).ownBlock)) (Sh.rl (Kd.R_mono HO_13.out (fun _ h => ⟨⟨h.1, h.2.1⟩, h.2.2⟩))) hg hat); have n1_ := am_ (Kd.R_after (ok := (fun k_ => some k_ ≠ (v263 : Value).ownBlock ∧ some k_ ≠ (u17 : Value).ownBlock)) (Sh.rl (Kd.R_mono HO_15.out (fun _ h => ⟨⟨h.1, h.2.1⟩, h.2.2⟩))) hg hat); have n2_ := am_ (Kd.S_after (ok := (fun k_ => some k_ ≠ (v263 : Value).ownBlock ∧ some k_ ≠ (.slice (some ad295) t265.length co36 : Value).ownBlock ∧ some k_ ≠ (u17 : Value).ownBlock)) (by (with_reducible repeat (first | apply Kd.S_alloc | apply Kd.S_drewN | apply Kd.S_drew)); exact Kd.S_mono HO_16.out (fun _ h => ⟨⟨h.1, h.2.1, h.2.2.1⟩, h.2.2.2⟩)) hg hat); have n3_ := am_ (Kd.R_after (ok := (fun k_ => some k_ ≠ (v263 : Value).ownBlock ∧ some k_ ≠ (.slice (some ad295) t265.length co36 : Value).ownBlock)) (Sh.rl (Kd.R_mono HO_17.out (fun _ h => ⟨⟨h.1, h.2.1⟩, h.2.2⟩))) hg hat); have n4_ := am_ hb; have n5_ := am_ ho; clear HO_13; clear HO_15; clear HO_16; clear HO_17; clear HB; clear HO_20; have HO_13 := n0_; have HO_15 := n1_; have HO_16 := n2_; have HO_17 := n3_; have HB := n4_; have HO299 := n5_; clear n0_ n1_ n2_ n3_ n4_ n5_; clear ho hb hg hat))
                     go_roundg k3
                     case measure => have := HK1.out; have := HK2.out; have := HK3.out; omega
                     case rel => exact ⟨(y297), (wrap64 (x85_3 + 1)), (Sh.es), H', ⟨by have := HK1.out; have := HK2.out; have := HK3.out; omega⟩, ⟨Sh.rl (Kd.R_mono HO_13.out (fun _ h => ⟨h.1.1, h.1.2, h.2⟩))⟩, ⟨Sh.rl (Kd.R_mono HO_15.out (fun _ h => ⟨h.1.1, h.1.2, h.2⟩))⟩, ⟨by (with_reducible repeat (first | apply Kd.S_alloc | apply Kd.S_drewN | apply Kd.S_drew)); exact Kd.S_mono HO_16.out (fun _ h => ⟨h.1.1, h.1.2.1, h.1.2.2, h.2⟩)⟩, ⟨Sh.rl (Kd.R_mono HO_17.out (fun _ h => ⟨h.1.1, h.1.2, h.2⟩))⟩, ⟨Sh.rl HO299.out⟩, ⟨Sh.bw⟩⟩
                    ·rw [if_neg c51] at H
                     cases H
                   ·rw [if_neg c50] at H
                    have c50b0 : ((rd t265 (rd (rd_L1 l2 x79_2) x85_3)) == (rd t265 x10_1)) = false := beq_eq_false_iff_ne.mpr c50
                    have c50b1 : ((rd t265 (rd (rd_L1 l2 x79_2) x85_3)) != (rd t265 x10_1)) = true := bne_iff_ne.mpr c50
                    have H' := am_ H
                    clear H
                    have p294 : 0 ≤ (x85_3 : Int) := Sh.od
                    have q294 : x85_3 < ((rd_L1 l2 x79_2).length : Int) := Sh.od
                    obtain ⟨ad294, e294, hx294_0⟩ := Kd.at_int HR293_0.out x85_3 p294 q294
                    cases e294
                    try replace hx294_0 := Sh.cw hx294_0
                    replace p294 := eq_true p294
                    replace q294 := eq_true q294
                    try go_wp2
                    replace HO_13 := am_ (Kd.R_drew HO_13.out)
                    replace HO_15 := am_ (Kd.R_drew HO_15.out)
                    replace HO_16 := am_ (Kd.S_drew HO_16.out)
                    replace HO_17 := am_ (Kd.R_drew HO_17.out)
                    replace HO_20 := am_ (Kd.R_drew HO_20.out)
                    replace HB := am_ (below_drew1 HB.out)
                    have p295 : 0 ≤ ((rd (rd_L1 l2 x79_2) x85_3) : Int) := Sh.od
                    have q295 : (rd (rd_L1 l2 x79_2) x85_3) < (t265.length : Int) := Sh.od
                    obtain ⟨ad295, e295, hx295_0⟩ := Kd.at_int (Kd.R_reads' HO_15.out).2.2 (rd (rd_L1 l2 x79_2) x85_3) p295 q295
                    cases e295
                    replace p295 := eq_true p295
                    replace q295 := eq_true q295
                    have p296 : 0 ≤ (x10_1 : Int) := Sh.od
                    have q296 : x10_1 < (t265.length : Int) := Sh.od
                    obtain ⟨ad296, e296, hx296_0⟩ := Kd.at_int (Kd.R_reads' HO_15.out).2.2 x10_1 p296 q296
                    obtain rfl : ad295 = ad296 := (by injection e296)
                    replace p296 := eq_true p296
                    replace q296 := eq_true q296
                    refine start_ (n := 9) (S := fun w' => w'.cell? (ad295.add ((rd (rd_L1 l2 x79_2) x85_3)).toNat) = some (.int .i64 (rd t265 (rd (rd_L1 l2 x79_2) x85_3))) ∧ w'.cell? (ad295.add (x10_1).toNat) = some (.int .i64 (rd t265 x10_1))) (ds := []) (Sh.nm 9 0) (by kernel_rfl) rfl rfl ⟨hx295_0, hx296_0⟩ (fun hHeld => ?_); refine with_tabW spec_l11Lasso.tab22 spec_l11Lasso.bits22 (fun HT_ HW_ => ?_)
                    generalize wr.drew = w54 at HO_13 HO_15 HO_16 HO_17 HO_20 HB hx295_0 hx296_0 hHeld ⊢
                    refine Sh.qA 0 ?_; refine Sh.qA 1 ?_; refine Sh.qA 2 ?_; refine Sh.qA 4 ?_; refine Sh.qA 5 ?_; refine Sh.qA 6 ?_; refine Sh.qT 3 hHeld ?_; refine Sh.qT 7 hHeld ?_; refine Sh.qA 8 ?_
                    refine done_ (done_of HT_.out (by kernel_rfl)) ?_
                    try go_wp2
                    go_roundg k3
                    case measure => have := HK1.out; have := HK2.out; have := HK3.out; omega
                    case rel => exact ⟨(x20_3), (wrap64 (x85_3 + 1)), (Sh.es), H', ⟨by have := HK1.out; have := HK2.out; have := HK3.out; omega⟩, ⟨Sh.rl HO_13.out⟩, ⟨Sh.rl HO_15.out⟩, ⟨by (with_reducible repeat (first | apply Kd.S_alloc | apply Kd.S_drewN | apply Kd.S_drew)); exact HO_16.out⟩, ⟨Sh.rl HO_17.out⟩, ⟨Sh.rl HO_20.out⟩, ⟨Sh.bw⟩⟩
                  ·rw [if_neg c49] at H
                   cases H
                 ·rw [if_neg c48] at H
                  cases H
                ·rw [if_neg c47] at H
                 cases H
               ·rw [if_neg c46] at H
                cases H
              ·rw [if_neg c45] at H
               cases H
             ·rw [if_neg c44] at H
              cases H
            ·rw [if_neg c43] at H
             replace c43 := decide_eq_false c43
             obtain ⟨ji55, hj1⟩ : ∃ j_ : Int, (wrap64 ((x17_2.length : Int) - 1)) = j_ := ⟨_, rfl⟩
             replace H : (if 0 ≤ (ji55) then (if (ji55) ≤ (x17_2.length : Int) then ((spec_l11Path.f k3 t268 (x17_2.drop ((ji55) : Int).toNat) x20_3).bind fun bt304 => (if 1 ≤ (bt304.1.length : Int) then ((some (bt304.1.drop 1 : List Int)).bind fun y308 => (if x17_2.length + y308.length < 17592186044416 then (spec_l11Lasso.l1 k3 x10_1 t261 t265 t268 (x17_2 ++ y308) l2 (l2.length : Int) (wrap64 (x79_2 + 1))) else (none))) else (none))) else (none)) else (none)) = some (r1, r2, r3) := by first | (rw [hj1] at H; exact H) | (simp only [hj1] at H ⊢; exact H)
             have hji55w : (IntKind.i64.wrap ((x17_2.length : Int) - 1)) = ji55 := (i64_w _).trans hj1
             by_cases c56 : 0 ≤ (ji55)
             ·rw [if_pos c56] at H
              have c56b0 := eq_true c56
              have c56b1 := decide_eq_true c56
              clear c56
              by_cases c57 : (ji55) ≤ (x17_2.length : Int)
              ·rw [if_pos c57] at H
               have c57b0 := eq_true c57
               have c57b1 := decide_eq_true c57
               clear c57
               obtain ⟨y300, hy300⟩ : ∃ y_ : List Int, y_ = (x17_2.drop ((ji55) : Int).toNat) := ⟨_, rfl⟩
               replace H : ((spec_l11Path.f k3 t268 y300 x20_3).bind fun bt304 => (if 1 ≤ (bt304.1.length : Int) then ((some (bt304.1.drop 1 : List Int)).bind fun y308 => (if x17_2.length + y308.length < 17592186044416 then (spec_l11Lasso.l1 k3 x10_1 t261 t265 t268 (x17_2 ++ y308) l2 (l2.length : Int) (wrap64 (x79_2 + 1))) else (none))) else (none))) = some (r1, r2, r3) := by first | (rw [hy300]; with_reducible exact H) | (have H2_ := (Option.bind_some _ _).symm.trans H; rw [hy300]; with_reducible exact H2_) | (have H2_ := (Option.bind_some _ _).symm.trans H; with_reducible exact H2_) | with_reducible exact H | (rw [hy300]; exact H) | exact H
               have Ny300 := am_ hy300
               clear hy300
               obtain ⟨⟨t304, t305⟩, A580, H⟩ := Sh.bd H
               have A58 := am_ A580
               clear A580
               by_cases c59 : 1 ≤ (t304.length : Int)
               ·rw [if_pos c59] at H
                have c59b0 := eq_true c59
                have c59b1 := decide_eq_true c59
                clear c59
                obtain ⟨y308, hy308⟩ : ∃ y_ : List Int, y_ = (t304.drop 1) := ⟨_, rfl⟩
                replace H : (if x17_2.length + y308.length < 17592186044416 then (spec_l11Lasso.l1 k3 x10_1 t261 t265 t268 (x17_2 ++ y308) l2 (l2.length : Int) (wrap64 (x79_2 + 1))) else (none)) = some (r1, r2, r3) := by first | (rw [hy308]; with_reducible exact H) | (have H2_ := (Option.bind_some _ _).symm.trans H; rw [hy308]; with_reducible exact H2_) | (have H2_ := (Option.bind_some _ _).symm.trans H; with_reducible exact H2_) | with_reducible exact H | (rw [hy308]; exact H) | exact H
                have Ny308 := am_ hy308
                clear hy308
                by_cases c60 : x17_2.length + y308.length < 17592186044416
                ·rw [if_pos c60] at H
                 have LMc60 := am_ c60
                 clear c60
                 obtain ⟨y312, hy312⟩ : ∃ y_ : List Int, y_ = (x17_2 ++ y308) := ⟨_, rfl⟩
                 replace H : (spec_l11Lasso.l1 k3 x10_1 t261 t265 t268 y312 l2 (l2.length : Int) (wrap64 (x79_2 + 1))) = some (r1, r2, r3) := by first | (rw [hy312]; with_reducible exact H) | (have H2_ := (Option.bind_some _ _).symm.trans H; rw [hy312]; with_reducible exact H2_) | (have H2_ := (Option.bind_some _ _).symm.trans H; with_reducible exact H2_) | with_reducible exact H | (rw [hy312]; exact H) | exact H
                 have Ny312 := am_ hy312
                 clear hy312
                 have H' := am_ H
                 clear H
                 obtain ⟨Ao61, co61, eo61⟩ := Kd.R_slice HO_17.out
                 subst eo61
                 have q62 : ((ji55) : Int) ≤ ((x17_2.length : Int) : Int) := Sh.od
                 obtain ⟨i062, hi062, _, hsz62, _⟩ := info_parts info3
                 have hroom62 : x17_2.length ≤ co61 := (Kd.R_reads' HO_17.out).2.1
                 have hC62 : Kd.C (Kd.int .i64) _ Ao61 x17_2.length x17_2 := (Kd.R_reads' HO_17.out).2.2
                 have q062 : (0 : Int) ≤ ((ji55) : Int) := Sh.od
                 have hcut62 := cut_from (P := Try.prog) 26 3 .i64 Try.underlying26 hi062 1 hsz62 Ao61 x17_2.length co61 (ji55) q062 q62
                 have hr62 := Kd.C_drop (m := ((ji55) : Int).toNat) (c := co61) hC62 (by omega) hroom62
                 obtain ⟨A62, hA62⟩ : ∃ A1, A1 = (if co61 = ((ji55) : Int).toNat then Ao61 else (Ao61 : Option Addr).map (·.add (((ji55) : Int).toNat * 1))) := ⟨_, rfl⟩
                 obtain ⟨c62, hc62⟩ : ∃ c1, c1 = co61 - ((ji55) : Int).toNat := ⟨_, rfl⟩
                 have hy62 : y300.length = x17_2.length - ((ji55) : Int).toNat := (by rw [Ny300.out, List.length_drop] <;> omega)
                 rw [show (x17_2).drop ((ji55) : Int).toNat = y300 from Ny300.out.symm] at hr62
                 replace hr62 : Kd.C (Kd.int .i64) _ A62 y300.length y300 := (by rw [hA62]; exact hr62)
                 rw [← hy62, ← hA62, ← hc62] at hcut62
                 have HR303 := am_ hr62
                 have HC303 := am_ (show y300.length ≤ c62 from by rw [hy62, hc62]; exact Nat.sub_le_sub_right hroom62 _)
                 clear hr62 hC62 hroom62 hi062 hsz62 hc62
                 have KY62 := am_ hy62
                 have KA62 := am_ hA62
                 clear hy62 hA62
                 have KL62 := am_ (show ((ji55) : Int).toNat ≤ x17_2.length from by omega)
                 replace q62 := eq_true q62
                 obtain ⟨Ao63, co63, eo63⟩ := Kd.S_slice HO_16.out
                 subst eo63
                 obtain ⟨Ao64, co64, eo64⟩ := Kd.R_slice HO_20.out
                 subst eo64
                 go_wp2_with (first | ((with_reducible refine Sh.k 59 ?_); refine Sh.gL (some 111) Try.func59 #[.slice Ao63 t268.length co63, .slice A62 y300.length c62, .slice Ao64 x20_3.length co64] (h := ?_); (with_reducible refine (spec_l11Path.calls k3 _ _ t268 _ _ y300 _ _ x20_3 t304 t305 _ (Sh.cR (Kd.S_reads' HO_16.out).2.2) (Kd.S_reads' HO_16.out).2.1 ?side3 ?side4 ?side5 ?side6 A58.out).mono ?_); (case side3 => repeat (first | exact (by repeat (first | (with_reducible exact HR303.out) | (with_reducible first | refine Kd.C_alloc ?_ _ | refine Kd.C_drewN ?_ _ | refine Kd.C_drew ?_) | exact HR303.out)) | (with_reducible first | refine Kd.C_alloc ?_ _ | refine Kd.C_drewN ?_ _ | refine Kd.C_drew ?_))); (case side4 => exact HC303.out); (case side5 => repeat (first | exact (Kd.R_reads' HO_20.out).2.2 | (with_reducible first | refine Kd.C_alloc ?_ _ | refine Kd.C_drewN ?_ _ | refine Kd.C_drew ?_))); (case side6 => exact (Kd.R_reads' HO_20.out).2.1); rintro e w65 ⟨v306, rfl, ho0, hb⟩; refine ⟨_, rfl, ?_⟩; have n0_ := am_ (Kd.R_elder' (Sh.rl HO_13.out) (Kd.R_base ho0) hb); have n1_ := am_ (Kd.R_elder' (Sh.rl HO_15.out) (Kd.R_base ho0) hb); have n2_ := am_ (Kd.S_elder' (by (with_reducible repeat (first | apply Kd.S_alloc | apply Kd.S_drewN | apply Kd.S_drew)); exact HO_16.out) (Kd.R_base ho0) hb); have n3_ := am_ (Kd.R_elder' (Sh.rl HO_17.out) (Kd.R_base ho0) hb); have n4_ := am_ (Kd.R_elder' (Sh.rl HO_20.out) (Kd.R_base ho0) hb); have n5_ := am_ (Kd.R_lower (Kd.R_new' (Kd.R_new' (Kd.R_new' (Kd.R_new' ho0 (Kd.R_lt (Sh.rl HO_13.out))) (Kd.R_lt (Sh.rl HO_15.out))) (Kd.R_lt (Sh.rl HO_17.out))) (Kd.R_lt (Sh.rl HO_20.out))) (below_size Sh.bw)); have n6_ := am_ (Kd.C_below (by repeat (first | (with_reducible exact HR303.out) | (with_reducible first | refine Kd.C_alloc ?_ _ | refine Kd.C_drewN ?_ _ | refine Kd.C_drew ?_) | exact HR303.out)) hb); have n7_ := am_ (below_step Sh.bw hb); clear HO_13; clear HO_15; clear HO_16; clear HO_17; clear HO_20; clear HR303; clear HB; have HO_13 := n0_; have HO_15 := n1_; have HO_16 := n2_; have HO_17 := n3_; have HO_20 := n4_; have HO307 := n5_; have HR303 := n6_; have HB := n7_; clear n0_ n1_ n2_ n3_ n4_ n5_ n6_ n7_; (try clear hb); (try clear hk); (try clear ho0); obtain ⟨Ao67, co67, eo67⟩ := Kd.R_slice HO307.out; subst eo67; have q66 : (1 : Int) ≤ ((t304.length : Int) : Int) := Sh.od; obtain ⟨i066, hi066, _, hsz66, _⟩ := info_parts info3; have hroom66 : t304.length ≤ co67 := (Kd.R_reads' HO307.out).2.1; have hC66 : Kd.C (Kd.int .i64) _ Ao67 t304.length t304 := (Kd.R_reads' HO307.out).2.2; have hcut66 := cut_from (P := Try.prog) 26 3 .i64 Try.underlying26 hi066 1 hsz66 Ao67 t304.length co67 1 (by omega) q66; have hr66 := Kd.C_drop (m := (1 : Int).toNat) (c := co67) hC66 (by omega) hroom66; obtain ⟨A66, hA66⟩ : ∃ A1, A1 = (if co67 = (1 : Int).toNat then Ao67 else (Ao67 : Option Addr).map (·.add ((1 : Int).toNat * 1))) := ⟨_, rfl⟩; obtain ⟨c66, hc66⟩ : ∃ c1, c1 = co67 - (1 : Int).toNat := ⟨_, rfl⟩; have hy66 : y308.length = t304.length - (1 : Int).toNat := (by rw [Ny308.out, List.length_drop] <;> omega); rw [show (t304).drop (1 : Int).toNat = y308 from Ny308.out.symm] at hr66; replace hr66 : Kd.C (Kd.int .i64) _ A66 y308.length y308 := (by rw [hA66]; exact hr66); rw [← hy66, ← hA66, ← hc66] at hcut66; have HR311 := am_ hr66; have HC311 := am_ (show y308.length ≤ c66 from by rw [hy66, hc66]; exact Nat.sub_le_sub_right hroom66 _); clear hr66 hC66 hroom66 hi066 hsz66 hc66; have KY66 := am_ hy66; have KA66 := am_ hA66; clear hy66 hA66; have KL66 := am_ (show 1 ≤ t304.length from by omega); replace q66 := eq_true q66) | ((with_reducible refine gate_builtin (b := .append) (xs := #[.tmp 114, .tmp 116]) rfl ?_); at_builtin; refine Kd.R_append_rows (Kd.int .i64) (w0 := w) w.heap.size rfl (.tmp 114) (.tmp 116) 26 3 (.int .i64 0) 8 rfl Try.underlying26 info3 rfl (by decide) (by omega) (.slice Ao61 x17_2.length co61) x17_2 y308 _ _ _ (fun k_ => some k_ ≠ (v263 : Value).ownBlock ∧ some k_ ≠ (.slice Ao36 t265.length co36 : Value).ownBlock ∧ some k_ ≠ (.slice Ao64 x20_3.length co64 : Value).ownBlock ∧ some k_ ≠ (.slice Ao67 t304.length co67 : Value).ownBlock) (fun _ => False) rfl rfl ?aO ?aR (fun _ _ h => h) (fun _ h => h.elim) ?aF ?aB ?aS ?aL ?_; (case aR => repeat (first | exact (by repeat (first | (with_reducible exact HR311.out) | (with_reducible first | refine Kd.C_alloc ?_ _ | refine Kd.C_drewN ?_ _ | refine Kd.C_drew ?_) | exact HR311.out)) | (with_reducible first | refine Kd.C_alloc ?_ _ | refine Kd.C_drewN ?_ _ | refine Kd.C_drew ?_))); (case aB => exact Sh.bw); (case aF => exact (fun k_ hk => ⟨Kd.fresh' (Kd.R_lt (Sh.rl HO_13.out)) k_ hk, Kd.fresh' (Kd.R_lt (Sh.rl HO_15.out)) k_ hk, Kd.fresh' (Kd.R_lt (Sh.rl HO_20.out)) k_ hk, Kd.fresh' (Kd.R_lt (Sh.rl HO307.out)) k_ hk⟩)); (case aO => exact (Sh.rl (Kd.R_mono HO_17.out (fun _ h => ⟨h.1.1, h.1.2.1, h.1.2.2, h.2⟩)))); (case aS => exact (below_size Sh.bw)); (case aL => have := LMc60.out; omega); intro v313 w68 ho hb hg hat; rw [← Ny312.out] at ho; have n0_ := am_ (Kd.R_after (ok := (fun k_ => some k_ ≠ (.slice Ao36 t265.length co36 : Value).ownBlock ∧ some k_ ≠ (.slice Ao64 x20_3.length co64 : Value).ownBlock ∧ some k_ ≠ (.slice Ao67 t304.length co67 : Value).ownBlock)) (Sh.rl (Kd.R_mono HO_13.out (fun _ h => ⟨⟨h.1.1, h.1.2.2, h.2⟩, h.1.2.1⟩))) hg hat); have n1_ := am_ (Kd.R_after (ok := (fun k_ => some k_ ≠ (v263 : Value).ownBlock ∧ some k_ ≠ (.slice Ao64 x20_3.length co64 : Value).ownBlock ∧ some k_ ≠ (.slice Ao67 t304.length co67 : Value).ownBlock)) (Sh.rl (Kd.R_mono HO_15.out (fun _ h => ⟨⟨h.1.1, h.1.2.2, h.2⟩, h.1.2.1⟩))) hg hat); have n2_ := am_ (Kd.S_after (ok := (fun k_ => some k_ ≠ (v263 : Value).ownBlock ∧ some k_ ≠ (.slice Ao36 t265.length co36 : Value).ownBlock ∧ some k_ ≠ (.slice Ao64 x20_3.length co64 : Value).ownBlock ∧ some k_ ≠ (.slice Ao67 t304.length co67 : Value).ownBlock)) (by (with_reducible repeat (first | apply Kd.S_alloc | apply Kd.S_drewN | apply Kd.S_drew)); exact Kd.S_mono HO_16.out (fun _ h => ⟨⟨h.1.1, h.1.2.1, h.1.2.2.2, h.2⟩, h.1.2.2.1⟩)) hg hat); have n3_ := am_ (Kd.R_after (ok := (fun k_ => some k_ ≠ (v263 : Value).ownBlock ∧ some k_ ≠ (.slice Ao36 t265.length co36 : Value).ownBlock ∧ some k_ ≠ (.slice Ao67 t304.length co67 : Value).ownBlock)) (Sh.rl (Kd.R_mono HO_20.out (fun _ h => ⟨⟨h.1.1, h.1.2.1, h.2⟩, h.1.2.2⟩))) hg hat); have n4_ := am_ (Kd.R_after (ok := (fun k_ => some k_ ≠ (v263 : Value).ownBlock ∧ some k_ ≠ (.slice Ao36 t265.length co36 : Value).ownBlock ∧ some k_ ≠ (.slice Ao64 x20_3.length co64 : Value).ownBlock)) (Sh.rl (Kd.R_mono HO307.out (fun _ h => ⟨⟨h.1.1.1.2, h.1.1.2, h.2⟩, h.1.2⟩))) hg hat); have n5_ := am_ hb; have n6_ := am_ ((show Kd.C (Kd.int .i64) w68 A66 y308.length y308 from by rw [Ny308.out, KA66.out]; exact Kd.C_drop (m := 1) (c := co67) ((Kd.R_reads' (Kd.R_after (ok := (fun k_ => some k_ ≠ (v263 : Value).ownBlock ∧ some k_ ≠ (.slice Ao36 t265.length co36 : Value).ownBlock ∧ some k_ ≠ (.slice Ao64 x20_3.length co64 : Value).ownBlock)) (Sh.rl (Kd.R_mono HO307.out (fun _ h => ⟨⟨h.1.1.1.2, h.1.1.2, h.2⟩, h.1.2⟩))) hg hat)).2.2) KL66.out ((Kd.R_reads' (Kd.R_after (ok := (fun k_ => some k_ ≠ (v263 : Value).ownBlock ∧ some k_ ≠ (.slice Ao36 t265.length co36 : Value).ownBlock ∧ some k_ ≠ (.slice Ao64 x20_3.length co64 : Value).ownBlock)) (Sh.rl (Kd.R_mono HO307.out (fun _ h => ⟨⟨h.1.1.1.2, h.1.1.2, h.2⟩, h.1.2⟩))) hg hat)).2.1))); have n7_ := am_ ho; clear HO_13; clear HO_15; clear HO_16; clear HO_20; clear HO307; clear HB; clear HR311; clear HO_17; have HO_13 := n0_; have HO_15 := n1_; have HO_16 := n2_; have HO_20 := n3_; have HO307 := n4_; have HB := n5_; have HR311 := n6_; have HO314 := n7_; clear n0_ n1_ n2_ n3_ n4_ n5_ n6_ n7_; clear ho hb hg hat))
                 go_roundg k3
                 case measure => have := HK1.out; have := HK2.out; have := HK3.out; omega
                 case rel => exact ⟨(y312), (wrap64 (x79_2 + 1)), (Sh.es), H', ⟨by have := HK1.out; have := HK2.out; have := HK3.out; omega⟩, ⟨Sh.rl (Kd.R_mono HO_13.out (fun _ h => ⟨h.1.1, h.2⟩))⟩, ⟨Sh.rl (Kd.R_mono HO_15.out (fun _ h => ⟨h.1.1, h.2⟩))⟩, ⟨by (with_reducible repeat (first | apply Kd.S_alloc | apply Kd.S_drewN | apply Kd.S_drew)); exact Kd.S_mono HO_16.out (fun _ h => ⟨h.1.1, h.1.2.1, h.2⟩)⟩, ⟨Sh.rl (Kd.R_mono HO314.out (fun _ h => ⟨h.1, h.2.1⟩))⟩, ⟨Sh.bw⟩⟩
                ·rw [if_neg c60] at H
                 cases H
               ·rw [if_neg c59] at H
                cases H
              ·rw [if_neg c57] at H
               cases H
             ·rw [if_neg c56] at H
              cases H
         ·rw [if_neg c42] at H
          cases H
        ·rw [if_neg c41] at H
         cases H
       ·rw [if_neg c40] at H
        replace c40 := decide_eq_false c40
        obtain ⟨ji69, hj1⟩ : ∃ j_ : Int, (wrap64 ((x17_2.length : Int) - 1)) = j_ := ⟨_, rfl⟩
        replace H : (if 0 ≤ (ji69) then (if (ji69) < (x17_2.length : Int) then (if 0 ≤ (rd x17_2 (ji69)) then (if (rd x17_2 (ji69)) < (t268.length : Int) then ((spec_l11Path.f k2 t268 (rd_L1 t268 (rd x17_2 (ji69))) (([x10_1] : List Int))).bind fun bt279 => (if 0 ≤ (wrap64 ((t261.length : Int) - 1)) then (if (wrap64 ((t261.length : Int) - 1)) ≤ (t261.length : Int) then (if 0 ≤ (wrap64 ((bt279.1.length : Int) - 1)) then (if (wrap64 ((bt279.1.length : Int) - 1)) ≤ (bt279.1.length : Int) then ((some (bt279.1.take ((wrap64 ((bt279.1.length : Int) - 1)) : Int).toNat : List Int)).bind fun y286 => (if x17_2.length + y286.length < 17592186044416 then (some ((t261.take ((wrap64 ((t261.length : Int) - 1)) : Int).toNat), (x17_2 ++ y286), true)) else (none))) else (none)) else (none)) else (none)) else (none))) else (none)) else (none)) else (none)) else (none)) = some (r1, r2, r3) := by first | (rw [hj1] at H; exact H) | (simp only [hj1] at H ⊢; exact H)
        have hji69w : (IntKind.i64.wrap ((x17_2.length : Int) - 1)) = ji69 := (i64_w _).trans hj1
        by_cases c70 : 0 ≤ (ji69)
        ·rw [if_pos c70] at H
         replace c70 := decide_eq_true c70
         by_cases c71 : (ji69) < (x17_2.length : Int)
         ·rw [if_pos c71] at H
          replace c71 := decide_eq_true c71
          by_cases c72 : 0 ≤ (rd x17_2 (ji69))
          ·rw [if_pos c72] at H
           replace c72 := decide_eq_true c72
           by_cases c73 : (rd x17_2 (ji69)) < (t268.length : Int)
           ·rw [if_pos c73] at H
            replace c73 := decide_eq_true c73
            obtain ⟨y276, hy276⟩ : ∃ y_ : List Int, y_ = (([x10_1] : List Int)) := ⟨_, rfl⟩
            replace H : ((spec_l11Path.f k2 t268 (rd_L1 t268 (rd x17_2 (ji69))) y276).bind fun bt279 => (if 0 ≤ (wrap64 ((t261.length : Int) - 1)) then (if (wrap64 ((t261.length : Int) - 1)) ≤ (t261.length : Int) then (if 0 ≤ (wrap64 ((bt279.1.length : Int) - 1)) then (if (wrap64 ((bt279.1.length : Int) - 1)) ≤ (bt279.1.length : Int) then ((some (bt279.1.take ((wrap64 ((bt279.1.length : Int) - 1)) : Int).toNat : List Int)).bind fun y286 => (if x17_2.length + y286.length < 17592186044416 then (some ((t261.take ((wrap64 ((t261.length : Int) - 1)) : Int).toNat), (x17_2 ++ y286), true)) else (none))) else (none)) else (none)) else (none)) else (none))) = some (r1, r2, r3) := by first | (rw [hy276]; with_reducible exact H) | (have H2_ := (Option.bind_some _ _).symm.trans H; rw [hy276]; with_reducible exact H2_) | (have H2_ := (Option.bind_some _ _).symm.trans H; with_reducible exact H2_) | with_reducible exact H | (rw [hy276]; exact H) | exact H
            have Ny276 := am_ hy276
            clear hy276
            obtain ⟨⟨t279, t280⟩, A740, H⟩ := Sh.bd H
            have A74 := am_ A740
            clear A740
            obtain ⟨ji75, hj2⟩ : ∃ j_ : Int, (wrap64 ((t261.length : Int) - 1)) = j_ := ⟨_, rfl⟩
            have hj3 := hj1; (try rw [hj2] at hj3)
            replace H : (if 0 ≤ (ji75) then (if (ji75) ≤ (t261.length : Int) then (if 0 ≤ (wrap64 ((t279.length : Int) - 1)) then (if (wrap64 ((t279.length : Int) - 1)) ≤ (t279.length : Int) then ((some (t279.take ((wrap64 ((t279.length : Int) - 1)) : Int).toNat : List Int)).bind fun y286 => (if x17_2.length + y286.length < 17592186044416 then (some ((t261.take ((ji75) : Int).toNat), (x17_2 ++ y286), true)) else (none))) else (none)) else (none)) else (none)) else (none)) = some (r1, r2, r3) := by first | (rw [hj2] at H; exact H) | (simp only [hj2] at H ⊢; exact H)
            (try rw [hj2] at A74)
            have hji75w : (IntKind.i64.wrap ((t261.length : Int) - 1)) = ji75 := (i64_w _).trans hj2
            by_cases c76 : 0 ≤ (ji75)
            ·rw [if_pos c76] at H
             have c76b0 := eq_true c76
             have c76b1 := decide_eq_true c76
             clear c76
             by_cases c77 : (ji75) ≤ (t261.length : Int)
             ·rw [if_pos c77] at H
              have c77b0 := eq_true c77
              have c77b1 := decide_eq_true c77
              clear c77
              obtain ⟨y283, hy283⟩ : ∃ y_ : List Int, y_ = (t261.take ((ji75) : Int).toNat) := ⟨_, rfl⟩
              replace H : (if 0 ≤ (wrap64 ((t279.length : Int) - 1)) then (if (wrap64 ((t279.length : Int) - 1)) ≤ (t279.length : Int) then ((some (t279.take ((wrap64 ((t279.length : Int) - 1)) : Int).toNat : List Int)).bind fun y286 => (if x17_2.length + y286.length < 17592186044416 then (some (y283, (x17_2 ++ y286), true)) else (none))) else (none)) else (none)) = some (r1, r2, r3) := by first | (rw [hy283]; with_reducible exact H) | (have H2_ := (Option.bind_some _ _).symm.trans H; rw [hy283]; with_reducible exact H2_) | (have H2_ := (Option.bind_some _ _).symm.trans H; with_reducible exact H2_) | with_reducible exact H | (rw [hy283]; exact H) | exact H
              have Ny283 := am_ hy283
              clear hy283
              obtain ⟨ji78, hj4⟩ : ∃ j_ : Int, (wrap64 ((t279.length : Int) - 1)) = j_ := ⟨_, rfl⟩
              have hj5 := hj1; (try rw [hj4] at hj5)
              have hj6 := hj2; (try rw [hj4] at hj6)
              replace H : (if 0 ≤ (ji78) then (if (ji78) ≤ (t279.length : Int) then ((some (t279.take ((ji78) : Int).toNat : List Int)).bind fun y286 => (if x17_2.length + y286.length < 17592186044416 then (some (y283, (x17_2 ++ y286), true)) else (none))) else (none)) else (none)) = some (r1, r2, r3) := by first | (rw [hj4] at H; exact H) | (simp only [hj4] at H ⊢; exact H)
              (try rw [hj4] at A74)
              have hji78w : (IntKind.i64.wrap ((t279.length : Int) - 1)) = ji78 := (i64_w _).trans hj4
              by_cases c79 : 0 ≤ (ji78)
              ·rw [if_pos c79] at H
               have c79b0 := eq_true c79
               have c79b1 := decide_eq_true c79
               clear c79
               by_cases c80 : (ji78) ≤ (t279.length : Int)
               ·rw [if_pos c80] at H
                have c80b0 := eq_true c80
                have c80b1 := decide_eq_true c80
                clear c80
                obtain ⟨y286, hy286⟩ : ∃ y_ : List Int, y_ = (t279.take ((ji78) : Int).toNat) := ⟨_, rfl⟩
                replace H : (if x17_2.length + y286.length < 17592186044416 then (some (y283, (x17_2 ++ y286), true)) else (none)) = some (r1, r2, r3) := by first | (rw [hy286]; with_reducible exact H) | (have H2_ := (Option.bind_some _ _).symm.trans H; rw [hy286]; with_reducible exact H2_) | (have H2_ := (Option.bind_some _ _).symm.trans H; with_reducible exact H2_) | with_reducible exact H | (rw [hy286]; exact H) | exact H
                have Ny286 := am_ hy286
                clear hy286
                by_cases c81 : x17_2.length + y286.length < 17592186044416
                ·rw [if_pos c81] at H
                 have LMc81 := am_ c81
                 clear c81
                 obtain ⟨y290, hy290⟩ : ∃ y_ : List Int, y_ = (x17_2 ++ y286) := ⟨_, rfl⟩
                 replace H : (some (y283, y290, true)) = some (r1, r2, r3) := by first | (rw [hy290]; with_reducible exact H) | (have H2_ := (Option.bind_some _ _).symm.trans H; rw [hy290]; with_reducible exact H2_) | (have H2_ := (Option.bind_some _ _).symm.trans H; with_reducible exact H2_) | with_reducible exact H | (rw [hy290]; exact H) | exact H
                 have Ny290 := am_ hy290
                 clear hy290
                 simp only [Option.some.injEq, Prod.mk.injEq] at H
                 obtain ⟨rfl, rfl, rfl⟩ := H
                 obtain ⟨Ao82, co82, eo82⟩ := Kd.R_slice HO_17.out
                 subst eo82
                 have p274 : 0 ≤ ((ji69) : Int) := Sh.od
                 have q274 : (ji69) < (x17_2.length : Int) := Sh.od
                 obtain ⟨ad274, e274, hx274_0⟩ := Kd.at_int (Kd.R_reads' HO_17.out).2.2 (ji69) p274 q274
                 cases e274
                 replace p274 := eq_true p274
                 replace q274 := eq_true q274
                 obtain ⟨Ao83, co83, eo83⟩ := Kd.S_slice HO_16.out
                 subst eo83
                 have p275 : 0 ≤ ((rd x17_2 (ji69)) : Int) := Sh.od
                 have q275 : (rd x17_2 (ji69)) < (t268.length : Int) := Sh.od
                 obtain ⟨ad275, A275_0, c275_0, e275, hx275_0, hl275_0, hi275_0⟩ := at_L1 (Kd.S_reads' HO_16.out).2.2 (rd x17_2 (ji69)) p275 q275
                 cases e275
                 obtain ⟨ce275, hce275, hMe275, hcc275⟩ := Kd.S_get HO_16.out [] (rd x17_2 (ji69)) p275 (by first | exact q275 | exact of_decide_eq_true (by first | (with_reducible assumption) | assumption) | (have e_ := (Kd.S_reads' HO_16.out).1; omega))
                 obtain ⟨ve275_0, rfl, ge275_0⟩ := hMe275
                 have hv275_0 := hcc275 0 _ rfl
                 rw [Nat.add_zero, show ((Kd.slice 3 (Kd.int .i64))).sz = 1 from rfl, Nat.mul_one] at hv275_0
                 replace hv275_0 := Option.some.inj (hv275_0.symm.trans hx275_0)
                 rw [hv275_0] at ge275_0
                 have HL275_0 := am_ (show Kd.R (Kd.int .i64) 3 _ _ _ _ (rd_L1 t268 (rd x17_2 (ji69))) from ge275_0)
                 clear hv275_0 ge275_0
                 clear hcc275 hce275
                 have HR275_0 := am_ hi275_0
                 have HC275_0 := am_ hl275_0
                 clear hi275_0 hl275_0
                 replace p275 := eq_true p275
                 replace q275 := eq_true q275
                 try go_wp2_with (first | ((with_reducible refine Sh.d 131 ?_); refine Kd.R_lit (Kd.int .i64) _ 3 ?hg (N := 131) ?hd (xs := ([x10_1] : List Int)) (inner := [.int .i64 x10_1]) (ok := fun _ => True) (okp := fun _ => True) ?hr ?hp (fun _ hk => hk) trivial (Below.refl _ _) (Nat.le_refl _) (by simp) ?_; (case hd => rfl); (case hg => rfl); (case hr => first | (go_simp; done) | (go_simp; rfl)); (case hp => exact (Reps.one (show Kd.M (Kd.int .i64) _ _ _ x10_1 [.int .i64 x10_1] from rfl) (Reps.none _ _))); intro v277 w84 ho85 hb hg_ hnew_; clear hg_ hnew_; (first | rw [← Ny276.out] at ho85 | (simp only [Int.reduceToNat] at ho85; rw [← Ny276.out] at ho85)); have n0_ := am_ (Kd.R_elder' (Sh.rl HO_13.out) (Kd.R_base ho85) hb); have n1_ := am_ (Kd.R_elder' (Sh.rl HO_15.out) (Kd.R_base ho85) hb); have n2_ := am_ (Kd.S_elder' (by (with_reducible repeat (first | apply Kd.S_alloc | apply Kd.S_drewN | apply Kd.S_drew)); exact HO_16.out) (Kd.R_base ho85) hb); have n3_ := am_ (Kd.R_elder' (Sh.rl HO_17.out) (Kd.R_base ho85) hb); have n4_ := am_ (Kd.R_elder' (Sh.rl HL275_0.out) (Kd.R_base ho85) hb); have n5_ := am_ (Kd.R_lower (Kd.R_new' (Kd.R_new' (Kd.R_new' (Kd.R_new' ho85 (Kd.R_lt (Sh.rl HO_13.out))) (Kd.R_lt (Sh.rl HO_15.out))) (Kd.R_lt (Sh.rl HO_17.out))) (Kd.R_lt (Sh.rl HL275_0.out))) (below_size Sh.bw)); have n6_ := am_ (Kd.C_below (by repeat (first | (with_reducible exact HR275_0.out) | (with_reducible first | refine Kd.C_alloc ?_ _ | refine Kd.C_drewN ?_ _ | refine Kd.C_drew ?_) | exact HR275_0.out)) hb); have n7_ := am_ (below_step Sh.bw hb); clear HO_13; clear HO_15; clear HO_16; clear HO_17; clear HL275_0; clear HR275_0; clear HB; have HO_13 := n0_; have HO_15 := n1_; have HO_16 := n2_; have HO_17 := n3_; have HL275_0 := n4_; have HO278 := n5_; have HR275_0 := n6_; have HB := n7_; clear n0_ n1_ n2_ n3_ n4_ n5_ n6_ n7_; clear hb ho85; obtain ⟨Ao86, co86, eo86⟩ := Kd.R_slice HO278.out; subst eo86) | ((with_reducible refine Sh.k 59 ?_); refine goesL_ (some 132) rfl rfl Try.func59 (by kernel_rfl) rfl #[.slice (some ad275) t268.length co83, .slice A275_0 (rd_L1 t268 (rd x17_2 (ji69))).length c275_0, .slice Ao86 y276.length co86] rfl (by (try simp only [List.map_toArray, List.map_cons, List.map_nil]); first | done | (simp only [hj1]; rfl) | rfl | (simp only [List.length_drop, List.length_take]; rfl)) ?_; (with_reducible refine (spec_l11Path.calls k2 _ _ t268 _ _ (rd_L1 t268 (rd x17_2 (ji69))) _ _ y276 t279 t280 _ (Sh.cR (Kd.S_reads' HO_16.out).2.2) (Kd.S_reads' HO_16.out).2.1 ?side3 ?side4 ?side5 ?side6 A74.out).mono ?_); (case side3 => repeat (first | exact (by repeat (first | (with_reducible exact HR275_0.out) | (with_reducible first | refine Kd.C_alloc ?_ _ | refine Kd.C_drewN ?_ _ | refine Kd.C_drew ?_) | exact HR275_0.out)) | (with_reducible first | refine Kd.C_alloc ?_ _ | refine Kd.C_drewN ?_ _ | refine Kd.C_drew ?_))); (case side4 => exact HC275_0.out); (case side5 => repeat (first | exact (Kd.R_reads' HO278.out).2.2 | (with_reducible first | refine Kd.C_alloc ?_ _ | refine Kd.C_drewN ?_ _ | refine Kd.C_drew ?_))); (case side6 => exact (Kd.R_reads' HO278.out).2.1); rintro e w87 ⟨v281, rfl, ho0, hb⟩; refine ⟨_, rfl, ?_⟩; have n0_ := am_ (Kd.R_elder' (Sh.rl HO_13.out) (Kd.R_base ho0) hb); have n1_ := am_ (Kd.R_elder' (Sh.rl HO_15.out) (Kd.R_base ho0) hb); have n2_ := am_ (Kd.S_elder' (by (with_reducible repeat (first | apply Kd.S_alloc | apply Kd.S_drewN | apply Kd.S_drew)); exact HO_16.out) (Kd.R_base ho0) hb); have n3_ := am_ (Kd.R_elder' (Sh.rl HO_17.out) (Kd.R_base ho0) hb); have n4_ := am_ (Kd.R_elder' (Sh.rl HL275_0.out) (Kd.R_base ho0) hb); have n5_ := am_ (Kd.R_elder' (Sh.rl HO278.out) (Kd.R_base ho0) hb); have n6_ := am_ (Kd.R_lower (Kd.R_new' (Kd.R_new' (Kd.R_new' (Kd.R_new' (Kd.R_new' ho0 (Kd.R_lt (Sh.rl HO_13.out))) (Kd.R_lt (Sh.rl HO_15.out))) (Kd.R_lt (Sh.rl HO_17.out))) (Kd.R_lt (Sh.rl HL275_0.out))) (Kd.R_lt (Sh.rl HO278.out))) (below_size Sh.bw)); have n7_ := am_ (Kd.C_below (by repeat (first | (with_reducible exact HR275_0.out) | (with_reducible first | refine Kd.C_alloc ?_ _ | refine Kd.C_drewN ?_ _ | refine Kd.C_drew ?_) | exact HR275_0.out)) hb); have n8_ := am_ (below_step Sh.bw hb); clear HO_13; clear HO_15; clear HO_16; clear HO_17; clear HL275_0; clear HO278; clear HR275_0; clear HB; have HO_13 := n0_; have HO_15 := n1_; have HO_16 := n2_; have HO_17 := n3_; have HL275_0 := n4_; have HO278 := n5_; have HO282 := n6_; have HR275_0 := n7_; have HB := n8_; clear n0_ n1_ n2_ n3_ n4_ n5_ n6_ n7_ n8_; (try clear hb); (try clear hk); (try clear ho0)))
                 replace HO_13 := am_ (Kd.R_drew HO_13.out)
                 replace HO_15 := am_ (Kd.R_drew HO_15.out)
                 replace HO_16 := am_ (Kd.S_drew HO_16.out)
                 replace HO_17 := am_ (Kd.R_drew HO_17.out)
                 replace HL275_0 := am_ (Kd.R_drew HL275_0.out)
                 replace HO278 := am_ (Kd.R_drew HO278.out)
                 replace HO282 := am_ (Kd.R_drew HO282.out)
                 replace HR275_0 := am_ (Kd.C_drew HR275_0.out)
                 replace HB := am_ (below_drew1 HB.out)
                 obtain ⟨Ao89, co89, eo89⟩ := Kd.R_slice HO_13.out
                 (first | subst eo89 | (injection eo89 with f1_ f2_ f3_; have f4_ := f1_.symm; have f5_ := f3_.symm; clear f1_ f2_ f3_; subst f4_; subst f5_))
                 have q90 : ((ji75) : Int) ≤ ((t261.length : Int) : Int) := Sh.od
                 obtain ⟨i090, hi090, _, hsz90, _⟩ := info_parts info3
                 have hcut90 := cut_to (P := Try.prog) 26 3 .i64 Try.underlying26 hi090 Ao89 t261.length co89 (ji75) (of_decide_eq_true (by first | (with_reducible assumption) | assumption)) q90 (Kd.R_reads' HO_13.out).2.1
                 have hr90 := Kd.R_take (m := ((ji75) : Int).toNat) HO_13.out (by omega)
                 have hy90 : y283.length = ((ji75) : Int).toNat := (by rw [Ny283.out, List.length_take]; omega)
                 rw [← Ny283.out] at hr90
                 rw [← hy90] at hr90 hcut90
                 clear hy90 hi090 hsz90 HO_13
                 have HO285 := am_ hr90
                 have eCut_ : (Value.slice Ao89 t261.length co89).ownBlock = (Value.slice Ao89 y283.length co89).ownBlock := by cases Ao89 <;> rfl
                 try simp only [eCut_] at HO_15 HO_16 HO_17 HL275_0 HO278 HO282
                 clear eCut_
                 clear hr90
                 replace q90 := eq_true q90
                 obtain ⟨Ao91, co91, eo91⟩ := Kd.R_slice HO282.out
                 (first | subst eo91 | (injection eo91 with f1_ f2_ f3_; have f4_ := f1_.symm; have f5_ := f3_.symm; clear f1_ f2_ f3_; subst f4_; subst f5_))
                 have q92 : ((ji78) : Int) ≤ ((t279.length : Int) : Int) := Sh.od
                 obtain ⟨i092, hi092, _, hsz92, _⟩ := info_parts info3
                 have hroom92 : t279.length ≤ co91 := (Kd.R_reads' HO282.out).2.1
                 have hC92 : Kd.C (Kd.int .i64) _ Ao91 t279.length t279 := (Kd.R_reads' HO282.out).2.2
                 have hcut92 := cut_to (P := Try.prog) 26 3 .i64 Try.underlying26 hi092 Ao91 t279.length co91 (ji78) (of_decide_eq_true (by first | (with_reducible assumption) | assumption)) q92 hroom92
                 have hr92 := Kd.C_take (m := ((ji78) : Int).toNat) hC92 (by omega)
                 have hy92 : y286.length = ((ji78) : Int).toNat := (by rw [Ny286.out, List.length_take]; omega)
                 rw [← Ny286.out] at hr92
                 rw [← hy92] at hcut92
                 have HR289 := am_ hr92
                 have HC289 := am_ (show y286.length ≤ co91 from by omega)
                 clear hr92 hC92 hroom92 hi092 hsz92
                 have KY92 := am_ hy92
                 clear hy92
                 have KL92 := am_ (show ((ji78) : Int).toNat ≤ t279.length from by omega)
                 replace q92 := eq_true q92
                 refine start_ (n := 15) (S := fun w' => True) (ds := []) (Sh.nm 15 0) (by kernel_rfl) rfl rfl trivial (fun hHeld => ?_); refine with_tabW spec_l11Lasso.tab29 spec_l11Lasso.bits29 (fun HT_ HW_ => ?_)
                 generalize w87.drew = w88 at HO_15 HO_16 HO_17 HL275_0 HO278 HO282 HR275_0 HB HO285 HR289 hHeld ⊢
                 refine Sh.qA 0 ?_; refine Sh.qA 1 ?_; refine Sh.qA 2 ?_; refine Sh.qA 3 ?_; refine Sh.qA 4 ?_; refine Sh.qA 5 ?_; refine Sh.qA 6 ?_; refine Sh.qA 7 ?_; refine Sh.qA 8 ?_; refine Sh.qA 9 ?_; refine Sh.qA 10 ?_
                 refine one_ (i := 11) (N := some 146) (Sh.nm 15 4095) rfl rfl (one_of HT_.out (by kernel_rfl)) (by decide) (fun K hK => ?_)
                 refine Kd.R_append_rows_step (Kd.int .i64) (w0 := w) w.heap.size (by rfl) (.tmp 140) (.tmp 145) 26 3 (.int .i64 0) 8 rfl Try.underlying26 info3 rfl (by decide) (by omega) (.slice (some ad274) x17_2.length co82) x17_2 y286 _ _ _ (fun k_ => some k_ ≠ (.slice Ao89 y283.length co89 : Value).ownBlock ∧ some k_ ≠ (.slice Ao36 t265.length co36 : Value).ownBlock ∧ some k_ ≠ (.slice Ao86 y276.length co86 : Value).ownBlock ∧ some k_ ≠ (.slice Ao91 t279.length co91 : Value).ownBlock) (fun _ => False) rfl rfl ?aO ?aR (fun _ _ h => h) (fun _ h => h.elim) ?aF ?aB ?aS ?aL ?_
                 (case aR => repeat (first | exact (by repeat (first | (with_reducible exact HR289.out) | (with_reducible first | refine Kd.C_alloc ?_ _ | refine Kd.C_drewN ?_ _ | refine Kd.C_drew ?_) | exact HR289.out)) | (with_reducible first | refine Kd.C_alloc ?_ _ | refine Kd.C_drewN ?_ _ | refine Kd.C_drew ?_)))
                 (case aB => exact Sh.bw)
                 (case aF => exact (fun k_ hk => ⟨Kd.fresh' (Kd.R_lt (Sh.rl HO285.out)) k_ hk, Kd.fresh' (Kd.R_lt (Sh.rl HO_15.out)) k_ hk, Kd.fresh' (Kd.R_lt (Sh.rl HO278.out)) k_ hk, Kd.fresh' (Kd.R_lt (Sh.rl HO282.out)) k_ hk⟩))
                 (case aO => exact (Sh.rl (Kd.R_mono HO_17.out (fun _ h => ⟨h.1.1.1, h.1.1.2, h.1.2, h.2⟩))))
                 (case aS => exact (below_size Sh.bw))
                 (case aL => have := LMc81.out; omega)
                 intro v291 w93 ho hb hg hat
                 rw [← Ny290.out] at ho
                 have n0_ := am_ (Kd.R_after (ok := (fun k_ => some k_ ≠ (.slice Ao36 t265.length co36 : Value).ownBlock ∧ some k_ ≠ (.slice Ao86 y276.length co86 : Value).ownBlock ∧ some k_ ≠ (.slice Ao91 t279.length co91 : Value).ownBlock)) (Sh.rl (Kd.R_mono HO285.out (fun _ h => ⟨⟨h.1.1.1, h.1.2, h.2⟩, h.1.1.2⟩))) hg hat)
                 have n1_ := am_ (Kd.R_after (ok := (fun k_ => some k_ ≠ (.slice Ao89 y283.length co89 : Value).ownBlock ∧ some k_ ≠ (.slice Ao86 y276.length co86 : Value).ownBlock ∧ some k_ ≠ (.slice Ao91 t279.length co91 : Value).ownBlock)) (Sh.rl (Kd.R_mono HO_15.out (fun _ h => ⟨⟨h.1.1.1, h.1.2, h.2⟩, h.1.1.2⟩))) hg hat)
                 have n2_ := am_ (Kd.S_after (ok := (fun k_ => some k_ ≠ (.slice Ao89 y283.length co89 : Value).ownBlock ∧ some k_ ≠ (.slice Ao36 t265.length co36 : Value).ownBlock ∧ some k_ ≠ (.slice Ao86 y276.length co86 : Value).ownBlock ∧ some k_ ≠ (.slice Ao91 t279.length co91 : Value).ownBlock)) (by (with_reducible repeat (first | apply Kd.S_alloc | apply Kd.S_drewN | apply Kd.S_drew)); exact Kd.S_mono HO_16.out (fun _ h => ⟨⟨h.1.1.1, h.1.1.2.1, h.1.2, h.2⟩, h.1.1.2.2⟩)) hg hat)
                 have n3_ := am_ (Kd.R_after (ok := (fun k_ => some k_ ≠ (.slice Ao89 y283.length co89 : Value).ownBlock ∧ some k_ ≠ (.slice Ao36 t265.length co36 : Value).ownBlock ∧ some k_ ≠ (.slice (some ad275) t268.length co83 : Value).ownBlock ∧ some k_ ≠ (.slice Ao86 y276.length co86 : Value).ownBlock ∧ some k_ ≠ (.slice Ao91 t279.length co91 : Value).ownBlock)) (Sh.rl (Kd.R_mono HL275_0.out (fun _ h => ⟨⟨h.1.1.1.1, h.1.1.1.2.1, h.1.1.2, h.1.2, h.2⟩, h.1.1.1.2.2⟩))) hg hat)
                 have n4_ := am_ (Kd.R_after (ok := (fun k_ => some k_ ≠ (.slice Ao89 y283.length co89 : Value).ownBlock ∧ some k_ ≠ (.slice Ao36 t265.length co36 : Value).ownBlock ∧ some k_ ≠ (.slice A275_0 (rd_L1 t268 (rd x17_2 (ji69))).length c275_0 : Value).ownBlock ∧ some k_ ≠ (.slice Ao91 t279.length co91 : Value).ownBlock)) (Sh.rl (Kd.R_mono HO278.out (fun _ h => ⟨⟨h.1.1.1.1.2, h.1.1.1.2, h.1.2, h.2⟩, h.1.1.2⟩))) hg hat)
                 have n5_ := am_ (Kd.R_after (ok := (fun k_ => some k_ ≠ (.slice Ao89 y283.length co89 : Value).ownBlock ∧ some k_ ≠ (.slice Ao36 t265.length co36 : Value).ownBlock ∧ some k_ ≠ (.slice A275_0 (rd_L1 t268 (rd x17_2 (ji69))).length c275_0 : Value).ownBlock ∧ some k_ ≠ (.slice Ao86 y276.length co86 : Value).ownBlock)) (Sh.rl (Kd.R_mono HO282.out (fun _ h => ⟨⟨h.1.1.1.1.2, h.1.1.1.2, h.1.2, h.2⟩, h.1.1.2⟩))) hg hat)
                 have n6_ := am_ hb
                 have n7_ := am_ ((show Kd.C (Kd.int .i64) w93 Ao91 y286.length y286 from by rw [Ny286.out]; exact Kd.C_take (m := ((ji78) : Int).toNat) ((Kd.R_reads' (Kd.R_after (ok := (fun k_ => some k_ ≠ (.slice Ao89 y283.length co89 : Value).ownBlock ∧ some k_ ≠ (.slice Ao36 t265.length co36 : Value).ownBlock ∧ some k_ ≠ (.slice A275_0 (rd_L1 t268 (rd x17_2 (ji69))).length c275_0 : Value).ownBlock ∧ some k_ ≠ (.slice Ao86 y276.length co86 : Value).ownBlock)) (Sh.rl (Kd.R_mono HO282.out (fun _ h => ⟨⟨h.1.1.1.1.2, h.1.1.1.2, h.1.2, h.2⟩, h.1.1.2⟩))) hg hat)).2.2) KL92.out))
                 have n8_ := am_ ho
                 clear HO285
                 clear HO_15
                 clear HO_16
                 clear HL275_0
                 clear HO278
                 clear HO282
                 clear HB
                 clear HR289
                 clear HO_17
                 have HO285 := n0_
                 have HO_15 := n1_
                 have HO_16 := n2_
                 have HL275_0 := n3_
                 have HO278 := n4_
                 have HO282 := n5_
                 have HB := n6_
                 have HR289 := n7_
                 have HO292 := n8_
                 clear n0_ n1_ n2_ n3_ n4_ n5_ n6_ n7_ n8_
                 clear ho hb hg hat
                 refine hK.out _ _ trivial (fun hHeld => ?_)
                 clear hK K
                 refine norm_ (a' := ?_) ?_ ?_
                 rotate_left
                 ·show Act.put _ (some 146) _ = _
                  simp only [Act.put, List.setIfInBounds_toArray, List.set_cons_zero, List.set_cons_succ, i64_w, i32_w, hj1, hj3, hj2, hj5, hj6, hj4]
                  rfl
                 refine Sh.qA 12 ?_; refine Sh.qA 13 ?_; refine Sh.qA 14 ?_
                 refine done_ (done_of HT_.out (by kernel_rfl)) ?_
                 try go_wp2
                 go_ret3
                 exact ⟨_, _, by first | rfl | (simp [errW_none, errW_some] <;> rfl) | (simp only [← hj1, ← hj2, ← hj4]; first | rfl | (simp [errW_none, errW_some] <;> rfl)) | (simp [*, errW_none, errW_some] <;> rfl), Sh.rl (Kd.R_mono HO285.out (fun _ hk => hk.2)), Sh.rl (Kd.R_mono HO292.out (fun _ hk => hk.1)), Sh.bw⟩
                ·rw [if_neg c81] at H
                 cases H
               ·rw [if_neg c80] at H
                cases H
              ·rw [if_neg c79] at H
               cases H
             ·rw [if_neg c77] at H
              cases H
            ·rw [if_neg c76] at H
             cases H
           ·rw [if_neg c73] at H
            cases H
          ·rw [if_neg c72] at H
           cases H
         ·rw [if_neg c71] at H
          cases H
        ·rw [if_neg c70] at H
         cases H
end Go.Proofs.Ytnfpolhpanpeiaa.P
