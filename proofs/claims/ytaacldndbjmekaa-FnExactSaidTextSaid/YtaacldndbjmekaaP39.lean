/- Go functions of this seat as Lean functions, and the proofs that the calls come to what these say; printed by a program of this session. No condition. -/
import Derived.Test.YtaacldndbjmekaaP0
import Derived.Test.YtaacldndbjmekaaP38
namespace Go.Proofs.Ytaacldndbjmekaa.P
open Go.RowKit Go.Proofs.YtaacldndbjmekaaW.PrintWords Go.Proofs.YtaacldndbjmekaaW.PrintLast Go.Proofs.YtaacldndbjmekaaW.PrintMore Go.Proofs.Ytaacldndbjmekaa.Hof
attribute [local go_sem] max2_int min2_int max_two min_two max_three min_three max_four min_four   -- for this text's walks alone
set_option linter.unusedVariables false
set_option linter.unusedSimpArgs false

/-! ### laws_eqSaidS: function 15 -/
def laws_eqSaidS.l0 : Nat → List (S59) → List (S59) → Int → Option (Bool)
 | 0, _, _, _ => none
 | k + 1, x0, x1, x5 => if x5 < (x0.length : Int) then (if 0 ≤ x5 then (if x5 < (x1.length : Int) then ((laws_eqSaid.f ((rd_T59 x0 x5).f0) ((rd_T59 x0 x5).f1) ((rd_T59 x1 x5).f0) ((rd_T59 x1 x5).f1)).bind fun t317 => (if t317 = true then (laws_eqSaidS.l0 k x0 x1 (wrap64 (x5 + 1))) else (some false))) else (none)) else (none)) else (some true)
def laws_eqSaidS.f (k : Nat) (l0 : List (S59)) (l1 : List (S59)) : Option (Bool) := if (l0.length : Int) = (l1.length : Int) then (laws_eqSaidS.l0 k l0 l1 0) else (some false)
theorem laws_eqSaidS.mono_l : ∀ k, (∀ y0 y1 y2, LeO (laws_eqSaidS.l0 k y0 y1 y2) (laws_eqSaidS.l0 (k + 1) y0 y1 y2))
 | 0 => fun _ _ _ r h => by simp [laws_eqSaidS.l0] at h
 | k + 1 => by
  have ih0 := laws_eqSaidS.mono_l k
  ·intro y0 y1 y2
   unfold laws_eqSaidS.l0
   repeat' with_reducible first | apply ih0 | exact LeO.refl _ | exact LeO.none _ | apply LeO.ite | refine LeO.bind ?_ fun _ => ?_
theorem laws_eqSaidS.mono : ∀ a0 a1 k, LeO (laws_eqSaidS.f k a0 a1) (laws_eqSaidS.f (k + 1) a0 a1) := by
 intro a0 a1 k
 have ih0 := laws_eqSaidS.mono_l k
 unfold laws_eqSaidS.f
 repeat' with_reducible first | apply ih0 | exact LeO.refl _ | exact LeO.none _ | apply LeO.ite | refine LeO.bind ?_ fun _ => ?_
def laws_eqSaidS.T6 : Bool × List (List Nat × List Nat) := (true, [([], []), ([], []), ([0, 1], [0, 1]), ([2], [2]), ([], []), ([], []), ([4, 5], [4, 5]), ([6], [6]), ([3, 7], [3, 7]), ([8], [8])])
def laws_eqSaidS.B6 : List Nat := [0, 0, 3, 7, 0, 0, 48, 112, 255, 511]
theorem laws_eqSaidS.tab6 : rtab .any (opsOf Try.f15 6) = laws_eqSaidS.T6 := by kernel_rfl
theorem laws_eqSaidS.bits6 : waitsOk laws_eqSaidS.T6.2 laws_eqSaidS.B6 = true := by kernel_rfl
set_option maxHeartbeats 8000000 in
set_option maxRecDepth 100000 in
theorem laws_eqSaidS.calls (k : Nat) (A0 : Option Addr) (c0 : Nat) (l0 : List (S59)) (A1 : Option Addr) (c1 : Nat) (l1 : List (S59)) (r : Bool) (w : World) (hr0 : Kd.C k59 w A0 l0.length l0) (hc0 : l0.length ≤ c0) (hr1 : Kd.C k59 w A1 l1.length l1) (hc1 : l1.length ≤ c1) (h : laws_eqSaidS.f k l0 l1 = some r) :
  Calls Try.prog 15 #[.slice A0 l0.length c0, .slice A1 l1.length c1] w fun e w' => e = .returned (.bool r) ∧ Below w.heap.size w w' := by
 have hu59 := Try.underlying59
 have HR0 := am_ hr0
 have HC0 := am_ hc0
 clear hr0 hc0
 have HR1 := am_ hr1
 have HC1 := am_ hc1
 clear hr1 hc1
 have HB := am_ (Below.refl w.heap.size w)
 have H := h
 clear h
 unfold laws_eqSaidS.f at H
 by_cases c3 : (l0.length : Int) = (l1.length : Int)
 ·rw [if_pos c3] at H
  have c3b0 : ((l0.length : Int) == (l1.length : Int)) = true := beq_iff_eq.mpr c3
  have c3b1 : ((l0.length : Int) != (l1.length : Int)) = false := bne_eq_false_iff_eq.mpr c3
  have c3b2 : (l0.length == l1.length) = true := by first | simpa using c3 | (simp at c3 ⊢; omega)
  clear c3
  have H' := am_ H
  clear H
  go_enter Try.func15, Try.ntmps15
  go_wp2
  go_loopg [5] k (fun kq v5 w' => ∃ (x5_1 : Int), v5 = .int .i64 x5_1 ∧ Aside0 (laws_eqSaidS.l0 kq l0 l1 x5_1 = some r) ∧ Aside0 (kq ≤ k) ∧ Aside0 (Below w.heap.size w w'))
  case atStart => exact ⟨(0), (Sh.es), H', ⟨Nat.le_refl _⟩, ⟨Sh.bw⟩⟩
  case round =>
   clear H'
   obtain ⟨x5_1, rfl, HA, HK1, HB⟩ := hrel
   cases gk with
   | zero => exact absurd HA.out (by simp [laws_eqSaidS.l0])
   | succ k1 =>
    have H := HA.out
    clear HA
    simp only [laws_eqSaidS.l0] at H
    by_cases c4 : x5_1 < (l0.length : Int)
    ·rw [if_pos c4] at H
     have c4b0 := decide_eq_true c4
     clear c4
     by_cases c5 : 0 ≤ x5_1
     ·rw [if_pos c5] at H
      have c5b0 := decide_eq_true c5
      clear c5
      by_cases c6 : x5_1 < (l1.length : Int)
      ·rw [if_pos c6] at H
       have c6b0 := decide_eq_true c6
       clear c6
       obtain ⟨t317, A7, H⟩ := Sh.ba H
       by_cases c8 : t317 = true
       ·subst c8
        rw [if_pos rfl] at H
        have H' := am_ H
        clear H
        try go_wp2
        replace HB := am_ (below_drew1 HB.out)
        have p315 : 0 ≤ (x5_1 : Int) := Sh.od
        have q315 : x5_1 < (l0.length : Int) := Sh.od
        obtain ⟨ad315, e315, hx315_0, hx315_1⟩ := at_T59 HR0.out x5_1 p315 q315
        have hw315_1 := hx315_1
        have hw315_0 := hx315_0
        cases e315
        try replace hx315_0 := Sh.cw hx315_0
        try replace hx315_1 := Sh.cw hx315_1
        replace p315 := eq_true p315
        replace q315 := eq_true q315
        have p316 : 0 ≤ (x5_1 : Int) := Sh.od
        have q316 : x5_1 < (l1.length : Int) := Sh.od
        obtain ⟨ad316, e316, hx316_0, hx316_1⟩ := at_T59 HR1.out x5_1 p316 q316
        have hw316_1 := hx316_1
        have hw316_0 := hx316_0
        cases e316
        try replace hx316_0 := Sh.cw hx316_0
        try replace hx316_1 := Sh.cw hx316_1
        replace p316 := eq_true p316
        replace q316 := eq_true q316
        refine start_ (n := 10) (S := fun w' => w'.cell? (ad315.add ((x5_1).toNat * 2)) = some (.int .i64 ((rd_T59 l0 x5_1).f0)) ∧ w'.cell? ⟨(ad315.add ((x5_1).toNat * 2)).block, (ad315.add ((x5_1).toNat * 2)).off + 1, none⟩ = some (.int .i64 ((rd_T59 l0 x5_1).f1)) ∧ w'.cell? (ad316.add ((x5_1).toNat * 2)) = some (.int .i64 ((rd_T59 l1 x5_1).f0)) ∧ w'.cell? ⟨(ad316.add ((x5_1).toNat * 2)).block, (ad316.add ((x5_1).toNat * 2)).off + 1, none⟩ = some (.int .i64 ((rd_T59 l1 x5_1).f1))) (ds := []) (Sh.nm 10 0) (by kernel_rfl) rfl rfl Sh.cs (fun hHeld => ?_); refine with_tabW laws_eqSaidS.tab6 laws_eqSaidS.bits6 (fun HT_ HW_ => ?_)
        generalize wr.drew = w9 at HB hx315_0 hx315_1 hx316_0 hx316_1 hHeld ⊢
        refine Sh.qA 0 ?_; refine Sh.qA 1 ?_; refine Sh.qA 2 ?_; refine Sh.qA 4 ?_; refine Sh.qA 5 ?_; refine Sh.qA 6 ?_; refine Sh.qT 3 hHeld ?_; refine Sh.qT 7 hHeld ?_
        refine Sh.oC 8 Try.func42 #[.agg #[.int .i64 ((rd_T59 l0 x5_1).f0), .int .i64 ((rd_T59 l0 x5_1).f1)], .agg #[.int .i64 ((rd_T59 l1 x5_1).f0), .int .i64 ((rd_T59 l1 x5_1).f1)]] fun K hK => ?_
        with_reducible refine (laws_eqSaid.calls ((rd_T59 l0 x5_1).f0) ((rd_T59 l0 x5_1).f1) ((rd_T59 l1 x5_1).f0) ((rd_T59 l1 x5_1).f1) true _ A7.out).mono ?_
        rintro e w10 ⟨rfl, hb⟩
        refine ⟨_, rfl, ?_⟩
        replace HB := Sh.hb hb
        (try clear hb)
        (try clear hb2)
        (try clear hk)
        (try clear hi)
        refine Sh.kN hK Sh.cs fun hHeld => ?_
        clear hK K
        refine Sh.qA 9 ?_
        refine done_ (done_of HT_.out (by kernel_rfl)) ?_
        try go_wp2
        go_roundg k1
        case measure => have := HK1.out; omega
        case rel => exact ⟨(wrap64 (x5_1 + 1)), (Sh.es), H', ⟨by have := HK1.out; omega⟩, ⟨Sh.bw⟩⟩
       ·replace c8 := Bool.eq_false_iff.mpr c8
        subst c8
        rw [Sh.nf] at H
        obtain rfl := Option.some.inj H
        try go_wp2
        replace HB := am_ (below_drew1 HB.out)
        have p315 : 0 ≤ (x5_1 : Int) := Sh.od
        have q315 : x5_1 < (l0.length : Int) := Sh.od
        obtain ⟨ad315, e315, hx315_0, hx315_1⟩ := at_T59 HR0.out x5_1 p315 q315
        have hw315_1 := hx315_1
        have hw315_0 := hx315_0
        cases e315
        try replace hx315_0 := Sh.cw hx315_0
        try replace hx315_1 := Sh.cw hx315_1
        replace p315 := eq_true p315
        replace q315 := eq_true q315
        have p316 : 0 ≤ (x5_1 : Int) := Sh.od
        have q316 : x5_1 < (l1.length : Int) := Sh.od
        obtain ⟨ad316, e316, hx316_0, hx316_1⟩ := at_T59 HR1.out x5_1 p316 q316
        have hw316_1 := hx316_1
        have hw316_0 := hx316_0
        cases e316
        try replace hx316_0 := Sh.cw hx316_0
        try replace hx316_1 := Sh.cw hx316_1
        replace p316 := eq_true p316
        replace q316 := eq_true q316
        refine start_ (n := 10) (S := fun w' => w'.cell? (ad315.add ((x5_1).toNat * 2)) = some (.int .i64 ((rd_T59 l0 x5_1).f0)) ∧ w'.cell? ⟨(ad315.add ((x5_1).toNat * 2)).block, (ad315.add ((x5_1).toNat * 2)).off + 1, none⟩ = some (.int .i64 ((rd_T59 l0 x5_1).f1)) ∧ w'.cell? (ad316.add ((x5_1).toNat * 2)) = some (.int .i64 ((rd_T59 l1 x5_1).f0)) ∧ w'.cell? ⟨(ad316.add ((x5_1).toNat * 2)).block, (ad316.add ((x5_1).toNat * 2)).off + 1, none⟩ = some (.int .i64 ((rd_T59 l1 x5_1).f1))) (ds := []) (Sh.nm 10 0) (by kernel_rfl) rfl rfl Sh.cs (fun hHeld => ?_); refine with_tabW laws_eqSaidS.tab6 laws_eqSaidS.bits6 (fun HT_ HW_ => ?_)
        generalize wr.drew = w11 at HB hx315_0 hx315_1 hx316_0 hx316_1 hHeld ⊢
        refine Sh.qA 0 ?_; refine Sh.qA 1 ?_; refine Sh.qA 2 ?_; refine Sh.qA 4 ?_; refine Sh.qA 5 ?_; refine Sh.qA 6 ?_; refine Sh.qT 3 hHeld ?_; refine Sh.qT 7 hHeld ?_
        refine Sh.oC 8 Try.func42 #[.agg #[.int .i64 ((rd_T59 l0 x5_1).f0), .int .i64 ((rd_T59 l0 x5_1).f1)], .agg #[.int .i64 ((rd_T59 l1 x5_1).f0), .int .i64 ((rd_T59 l1 x5_1).f1)]] fun K hK => ?_
        with_reducible refine (laws_eqSaid.calls ((rd_T59 l0 x5_1).f0) ((rd_T59 l0 x5_1).f1) ((rd_T59 l1 x5_1).f0) ((rd_T59 l1 x5_1).f1) false _ A7.out).mono ?_
        rintro e w12 ⟨rfl, hb⟩
        refine ⟨_, rfl, ?_⟩
        replace HB := Sh.hb hb
        (try clear hb)
        (try clear hb2)
        (try clear hk)
        (try clear hi)
        refine Sh.kN hK Sh.cs fun hHeld => ?_
        clear hK K
        refine Sh.qA 9 ?_
        refine done_ (done_of HT_.out (by kernel_rfl)) ?_
        try go_wp2
        go_ret
        exact ⟨Sh.eR, Sh.bw⟩
      ·rw [if_neg c6] at H
       exact absurd H (by simp)
     ·rw [if_neg c5] at H
      exact absurd H (by simp)
    ·rw [if_neg c4] at H
     have c4b0 := decide_eq_false c4
     clear c4
     obtain rfl := Option.some.inj H
     go_wp2
     go_ret
     exact ⟨Sh.eR, Sh.bw⟩
 ·rw [if_neg c3] at H
  have c3b0 : ((l0.length : Int) == (l1.length : Int)) = false := beq_eq_false_iff_ne.mpr c3
  have c3b1 : ((l0.length : Int) != (l1.length : Int)) = true := bne_iff_ne.mpr c3
  have c3b2 : (l0.length == l1.length) = false := by first | simpa using c3 | (simp at c3 ⊢; omega)
  obtain rfl := Option.some.inj H
  go_enter Try.func15, Try.ntmps15
  go_wp2
  go_ret
  exact ⟨Sh.eR, Sh.bw⟩

end Go.Proofs.Ytaacldndbjmekaa.P
