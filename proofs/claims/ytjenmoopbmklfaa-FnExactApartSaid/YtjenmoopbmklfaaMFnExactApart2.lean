/- Go functions of this seat as Lean functions, and the proofs that the calls come to what these say; printed by a program of this session. No condition. -/
import Derived.Test.YtjenmoopbmklfaaP0
import Derived.Test.YtjenmoopbmklfaaMFnExactApart1
set_option linter.unusedVariables false
set_option linter.unusedSimpArgs false
set_option maxHeartbeats 40000000
set_option maxRecDepth 100000
namespace Go.Proofs.Ytjenmoopbmklfaa.P
open Go.RowKit Go.Proofs.YtjenmoopbmklfaaW.PrintWords Go.Proofs.YtjenmoopbmklfaaW.PrintLast Go.Proofs.YtjenmoopbmklfaaW.PrintMore Go.Proofs.Ytjenmoopbmklfaa.Hof
attribute [local go_sem] max2_int min2_int max_two min_two max_three min_three max_four min_four
def laws_eqChangeS.l0 : Nat → List (S52) → List (S52) → Int → Option (Bool)
 | 0, _, _, _ => none
 | k + 1, x0, x1, x5 => if x5 < (x0.length : Int) then (if 0 ≤ x5 then (if x5 < (x1.length : Int) then ((laws_eqChange.f k ((rd_T52 x0 x5).f0) ((rd_T52 x0 x5).f1) ((rd_T52 x1 x5).f0) ((rd_T52 x1 x5).f1)).bind fun t177 => (if t177 = true then (laws_eqChangeS.l0 k x0 x1 (wrap64 (x5 + 1))) else (some false))) else (none)) else (none)) else (some true)
def laws_eqChangeS.f (k : Nat) (l0 : List (S52)) (l1 : List (S52)) : Option (Bool) := if (l0.length : Int) = (l1.length : Int) then (laws_eqChangeS.l0 k l0 l1 0) else (some false)
theorem laws_eqChangeS.mono_l : ∀ k, (∀ y0 y1 y2, LeO (laws_eqChangeS.l0 k y0 y1 y2) (laws_eqChangeS.l0 (k + 1) y0 y1 y2))
 | 0 => fun _ _ _ r h => by simp [laws_eqChangeS.l0] at h
 | k + 1 => by
  have ih0 := laws_eqChangeS.mono_l k
  ·intro y0 y1 y2
   unfold laws_eqChangeS.l0
   repeat' with_reducible first | apply ih0 | apply laws_eqChange.mono | exact LeO.refl _ | exact LeO.none _ | apply LeO.ite | refine LeO.bind ?_ fun _ => ?_
theorem laws_eqChangeS.mono : ∀ a0 a1 k, LeO (laws_eqChangeS.f k a0 a1) (laws_eqChangeS.f (k + 1) a0 a1) := by
 intro a0 a1 k
 have ih0 := laws_eqChangeS.mono_l k
 unfold laws_eqChangeS.f
 repeat' with_reducible first | apply ih0 | apply laws_eqChange.mono | exact LeO.refl _ | exact LeO.none _ | apply LeO.ite | refine LeO.bind ?_ fun _ => ?_
def laws_eqChangeS.T6 : Bool × List (List Nat × List Nat) := (true, [([], []), ([], []), ([0, 1], [0, 1]), ([2], [2]), ([], []), ([], []), ([4, 5], [4, 5]), ([6], [6]), ([3, 7], [3, 7]), ([8], [8])])
def laws_eqChangeS.B6 : List Nat := [0, 0, 3, 7, 0, 0, 48, 112, 255, 511]
theorem laws_eqChangeS.tab6 : rtab .any (opsOf Try.f73 6) = laws_eqChangeS.T6 := by kernel_rfl
theorem laws_eqChangeS.bits6 : waitsOk laws_eqChangeS.T6.2 laws_eqChangeS.B6 = true := by kernel_rfl
theorem laws_eqChangeS.calls (k : Nat) (A0 : Option Addr) (c0 : Nat) (l0 : List (S52)) (A1 : Option Addr) (c1 : Nat) (l1 : List (S52)) (r : Bool) (w : World) (hr0 : Kd.C k52 w A0 l0.length l0) (hc0 : l0.length ≤ c0) (hr1 : Kd.C k52 w A1 l1.length l1) (hc1 : l1.length ≤ c1) (h : laws_eqChangeS.f k l0 l1 = some r) :
  Calls Try.prog 73 #[.slice A0 l0.length c0, .slice A1 l1.length c1] w fun e w' => e = .returned (.bool r) ∧ Below w.heap.size w w' := by
 have hu52 := Try.underlying52
 have HR0 := am_ hr0
 have HC0 := am_ hc0
 clear hr0 hc0
 have HR1 := am_ hr1
 have HC1 := am_ hc1
 clear hr1 hc1
 have HB := am_ (Below.refl w.heap.size w)
 have H := h
 clear h
 unfold laws_eqChangeS.f at H
 by_cases c3 : (l0.length : Int) = (l1.length : Int)
 ·rw [if_pos c3] at H
  have c3b0 : ((l0.length : Int) == (l1.length : Int)) = true := beq_iff_eq.mpr c3
  have c3b1 : ((l0.length : Int) != (l1.length : Int)) = false := bne_eq_false_iff_eq.mpr c3
  have c3b2 : (l0.length == l1.length) = true := by first | simpa using c3 | (simp at c3 ⊢; omega)
  clear c3
  have H' := am_ H
  clear H
  go_enter Try.func73, Try.ntmps73
  go_wp2
  go_loopg [5] k (fun kq v5 w' => ∃ (x5_1 : Int), v5 = .int .i64 x5_1 ∧ Aside0 (laws_eqChangeS.l0 kq l0 l1 x5_1 = some r) ∧ Aside0 (kq ≤ k) ∧ Aside0 (Below w.heap.size w w'))
  case atStart => exact ⟨(0), (Sh.es), H', ⟨Nat.le_refl _⟩, ⟨Sh.bw⟩⟩
  case round =>
   clear H'
   obtain ⟨x5_1, rfl, HA, HK1, HB⟩ := hrel
   cases gk with
   | zero => exact absurd HA.out (by simp [laws_eqChangeS.l0])
   | succ k1 =>
    have H := HA.out
    clear HA
    simp only [laws_eqChangeS.l0] at H
    by_cases c4 : x5_1 < (l0.length : Int)
    ·rw [if_pos c4] at H
     have c4b0 := decide_eq_true c4
     clear c4
     by_cases c5 : 0 ≤ x5_1
     ·rw [if_pos c5] at H
      have c5b0 := decide_eq_true c5
      clear c5
      by_cases c6 : x5_1 < (l1.length : Int)
      ·rw [if_pos c6] at H
       have c6b0 := decide_eq_true c6
       clear c6
       obtain ⟨t177, A7, H⟩ := Sh.ba H
       by_cases c8 : t177 = true
       ·subst c8
        rw [if_pos rfl] at H
        have H' := am_ H
        clear H
        try go_wp2
        replace HB := am_ (below_drew1 HB.out)
        have p175 : 0 ≤ (x5_1 : Int) := Sh.od
        have q175 : x5_1 < (l0.length : Int) := Sh.od
        obtain ⟨ad175, A175_1, c175_1, e175, hx175_0, hx175_1, hl175_1, hi175_1⟩ := at_T52 HR0.out x5_1 p175 q175
        have hw175_1 := hx175_1
        have hw175_0 := hx175_0
        cases e175
        try replace hx175_0 := Sh.cw hx175_0
        try replace hx175_1 := Sh.cw hx175_1
        have HR175_1 := am_ hi175_1
        have HC175_1 := am_ hl175_1
        clear hi175_1 hl175_1
        replace p175 := eq_true p175
        replace q175 := eq_true q175
        have p176 : 0 ≤ (x5_1 : Int) := Sh.od
        have q176 : x5_1 < (l1.length : Int) := Sh.od
        obtain ⟨ad176, A176_1, c176_1, e176, hx176_0, hx176_1, hl176_1, hi176_1⟩ := at_T52 HR1.out x5_1 p176 q176
        have hw176_1 := hx176_1
        have hw176_0 := hx176_0
        cases e176
        try replace hx176_0 := Sh.cw hx176_0
        try replace hx176_1 := Sh.cw hx176_1
        have HR176_1 := am_ hi176_1
        have HC176_1 := am_ hl176_1
        clear hi176_1 hl176_1
        replace p176 := eq_true p176
        replace q176 := eq_true q176
        refine start_ (n := 10) (S := fun w' => w'.cell? (ad175.add ((x5_1).toNat * 2)) = some (.int .i64 ((rd_T52 l0 x5_1).f0)) ∧ w'.cell? ⟨(ad175.add ((x5_1).toNat * 2)).block, (ad175.add ((x5_1).toNat * 2)).off + 1, none⟩ = some (.slice A175_1 ((rd_T52 l0 x5_1).f1).length c175_1) ∧ w'.cell? (ad176.add ((x5_1).toNat * 2)) = some (.int .i64 ((rd_T52 l1 x5_1).f0)) ∧ w'.cell? ⟨(ad176.add ((x5_1).toNat * 2)).block, (ad176.add ((x5_1).toNat * 2)).off + 1, none⟩ = some (.slice A176_1 ((rd_T52 l1 x5_1).f1).length c176_1)) (ds := []) (Sh.nm 10 0) (by kernel_rfl) rfl rfl Sh.cs (fun hHeld => ?_); refine with_tabW laws_eqChangeS.tab6 laws_eqChangeS.bits6 (fun HT_ HW_ => ?_)
        generalize wr.drew = w9 at HB HR175_1 HR176_1 hx175_0 hx175_1 hx176_0 hx176_1 hHeld ⊢
        refine Sh.qA 0 ?_; refine Sh.qA 1 ?_; refine Sh.qA 2 ?_; refine Sh.qA 4 ?_; refine Sh.qA 5 ?_; refine Sh.qA 6 ?_; refine Sh.qT 3 hHeld ?_; refine Sh.qT 7 hHeld ?_
        refine Sh.oC 8 Try.func87 #[.agg #[.int .i64 ((rd_T52 l0 x5_1).f0), .slice A175_1 ((rd_T52 l0 x5_1).f1).length c175_1], .agg #[.int .i64 ((rd_T52 l1 x5_1).f0), .slice A176_1 ((rd_T52 l1 x5_1).f1).length c176_1]] fun K hK => ?_
        with_reducible refine (laws_eqChange.calls k1 ((rd_T52 l0 x5_1).f0) _ _ ((rd_T52 l0 x5_1).f1) ((rd_T52 l1 x5_1).f0) _ _ ((rd_T52 l1 x5_1).f1) true _ (Sh.cB HR175_1.out) HC175_1.out (Sh.cB HR176_1.out) HC176_1.out A7.out).mono ?_
        rintro e w10 ⟨rfl, hb⟩
        refine ⟨_, rfl, ?_⟩
        replace HB := Sh.hb hb
        (try clear hb)
        (try clear hb2)
        (try clear hk)
        (try clear hi)
        refine Sh.kN hK Sh.cs fun hHeld => ?_
        clear hK K
        refine Sh.qA 9 ?_
        refine done_ (done_of HT_.out (by kernel_rfl)) ?_
        try go_wp2
        go_roundg k1
        case measure => have := HK1.out; omega
        case rel => exact ⟨(wrap64 (x5_1 + 1)), (Sh.es), H', ⟨by have := HK1.out; omega⟩, ⟨Sh.bw⟩⟩
       ·replace c8 := Bool.eq_false_iff.mpr c8
        subst c8
        rw [Sh.nf] at H
        obtain rfl := Option.some.inj H
        try go_wp2
        replace HB := am_ (below_drew1 HB.out)
        have p175 : 0 ≤ (x5_1 : Int) := Sh.od
        have q175 : x5_1 < (l0.length : Int) := Sh.od
        obtain ⟨ad175, A175_1, c175_1, e175, hx175_0, hx175_1, hl175_1, hi175_1⟩ := at_T52 HR0.out x5_1 p175 q175
        have hw175_1 := hx175_1
        have hw175_0 := hx175_0
        cases e175
        try replace hx175_0 := Sh.cw hx175_0
        try replace hx175_1 := Sh.cw hx175_1
        have HR175_1 := am_ hi175_1
        have HC175_1 := am_ hl175_1
        clear hi175_1 hl175_1
        replace p175 := eq_true p175
        replace q175 := eq_true q175
        have p176 : 0 ≤ (x5_1 : Int) := Sh.od
        have q176 : x5_1 < (l1.length : Int) := Sh.od
        obtain ⟨ad176, A176_1, c176_1, e176, hx176_0, hx176_1, hl176_1, hi176_1⟩ := at_T52 HR1.out x5_1 p176 q176
        have hw176_1 := hx176_1
        have hw176_0 := hx176_0
        cases e176
        try replace hx176_0 := Sh.cw hx176_0
        try replace hx176_1 := Sh.cw hx176_1
        have HR176_1 := am_ hi176_1
        have HC176_1 := am_ hl176_1
        clear hi176_1 hl176_1
        replace p176 := eq_true p176
        replace q176 := eq_true q176
        refine start_ (n := 10) (S := fun w' => w'.cell? (ad175.add ((x5_1).toNat * 2)) = some (.int .i64 ((rd_T52 l0 x5_1).f0)) ∧ w'.cell? ⟨(ad175.add ((x5_1).toNat * 2)).block, (ad175.add ((x5_1).toNat * 2)).off + 1, none⟩ = some (.slice A175_1 ((rd_T52 l0 x5_1).f1).length c175_1) ∧ w'.cell? (ad176.add ((x5_1).toNat * 2)) = some (.int .i64 ((rd_T52 l1 x5_1).f0)) ∧ w'.cell? ⟨(ad176.add ((x5_1).toNat * 2)).block, (ad176.add ((x5_1).toNat * 2)).off + 1, none⟩ = some (.slice A176_1 ((rd_T52 l1 x5_1).f1).length c176_1)) (ds := []) (Sh.nm 10 0) (by kernel_rfl) rfl rfl Sh.cs (fun hHeld => ?_); refine with_tabW laws_eqChangeS.tab6 laws_eqChangeS.bits6 (fun HT_ HW_ => ?_)
        generalize wr.drew = w11 at HB HR175_1 HR176_1 hx175_0 hx175_1 hx176_0 hx176_1 hHeld ⊢
        refine Sh.qA 0 ?_; refine Sh.qA 1 ?_; refine Sh.qA 2 ?_; refine Sh.qA 4 ?_; refine Sh.qA 5 ?_; refine Sh.qA 6 ?_; refine Sh.qT 3 hHeld ?_; refine Sh.qT 7 hHeld ?_
        refine Sh.oC 8 Try.func87 #[.agg #[.int .i64 ((rd_T52 l0 x5_1).f0), .slice A175_1 ((rd_T52 l0 x5_1).f1).length c175_1], .agg #[.int .i64 ((rd_T52 l1 x5_1).f0), .slice A176_1 ((rd_T52 l1 x5_1).f1).length c176_1]] fun K hK => ?_
        with_reducible refine (laws_eqChange.calls k1 ((rd_T52 l0 x5_1).f0) _ _ ((rd_T52 l0 x5_1).f1) ((rd_T52 l1 x5_1).f0) _ _ ((rd_T52 l1 x5_1).f1) false _ (Sh.cB HR175_1.out) HC175_1.out (Sh.cB HR176_1.out) HC176_1.out A7.out).mono ?_
        rintro e w12 ⟨rfl, hb⟩
        refine ⟨_, rfl, ?_⟩
        replace HB := Sh.hb hb
        (try clear hb)
        (try clear hb2)
        (try clear hk)
        (try clear hi)
        refine Sh.kN hK Sh.cs fun hHeld => ?_
        clear hK K
        refine Sh.qA 9 ?_
        refine done_ (done_of HT_.out (by kernel_rfl)) ?_
        try go_wp2
        go_ret
        exact ⟨Sh.eR, Sh.bw⟩
      ·rw [if_neg c6] at H
       exact absurd H (by simp)
     ·rw [if_neg c5] at H
      exact absurd H (by simp)
    ·rw [if_neg c4] at H
     have c4b0 := decide_eq_false c4
     clear c4
     obtain rfl := Option.some.inj H
     go_wp2
     go_ret
     exact ⟨Sh.eR, Sh.bw⟩
 ·rw [if_neg c3] at H
  have c3b0 : ((l0.length : Int) == (l1.length : Int)) = false := beq_eq_false_iff_ne.mpr c3
  have c3b1 : ((l0.length : Int) != (l1.length : Int)) = true := bne_iff_ne.mpr c3
  have c3b2 : (l0.length == l1.length) = false := by first | simpa using c3 | (simp at c3 ⊢; omega)
  obtain rfl := Option.some.inj H
  go_enter Try.func73, Try.ntmps73
  go_wp2
  go_ret
  exact ⟨Sh.eR, Sh.bw⟩
def laws_eqCommand.f (k : Nat) (l0_0 : List (S73)) (l0_1 : List (S52)) (l1_0 : List (S73)) (l1_1 : List (S52)) : Option (Bool) := (laws_eqNodeS.f k l0_0 l1_0).bind fun t180 => (if t180 = true then ((laws_eqChangeS.f k l0_1 l1_1).bind fun t181 => (if t181 = true then (some true) else (some false))) else (some false))
theorem laws_eqCommand.mono : ∀ a0 a1 a2 a3 k, LeO (laws_eqCommand.f k a0 a1 a2 a3) (laws_eqCommand.f (k + 1) a0 a1 a2 a3) := by
 intro a0 a1 a2 a3 k
 unfold laws_eqCommand.f
 repeat' with_reducible first | apply laws_eqChangeS.mono | apply laws_eqNodeS.mono | exact LeO.refl _ | exact LeO.none _ | apply LeO.ite | refine LeO.bind ?_ fun _ => ?_
theorem laws_eqCommand.calls (k : Nat) (A0_0 : Option Addr) (c0_0 : Nat) (l0_0 : List (S73)) (A0_1 : Option Addr) (c0_1 : Nat) (l0_1 : List (S52)) (A1_0 : Option Addr) (c1_0 : Nat) (l1_0 : List (S73)) (A1_1 : Option Addr) (c1_1 : Nat) (l1_1 : List (S52)) (r : Bool) (w : World) (hr0_0 : Kd.C k73 w A0_0 l0_0.length l0_0) (hc0_0 : l0_0.length ≤ c0_0) (hr0_1 : Kd.C k52 w A0_1 l0_1.length l0_1) (hc0_1 : l0_1.length ≤ c0_1) (hr1_0 : Kd.C k73 w A1_0 l1_0.length l1_0) (hc1_0 : l1_0.length ≤ c1_0) (hr1_1 : Kd.C k52 w A1_1 l1_1.length l1_1) (hc1_1 : l1_1.length ≤ c1_1) (h : laws_eqCommand.f k l0_0 l0_1 l1_0 l1_1 = some r) :
  Calls Try.prog 52 #[.agg #[.slice A0_0 l0_0.length c0_0, .slice A0_1 l0_1.length c0_1], .agg #[.slice A1_0 l1_0.length c1_0, .slice A1_1 l1_1.length c1_1]] w fun e w' => e = .returned (.bool r) ∧ Below w.heap.size w w' := by
 have hu50 := Try.underlying50
 have HR0_0 := am_ hr0_0
 have HC0_0 := am_ hc0_0
 clear hr0_0 hc0_0
 have HR0_1 := am_ hr0_1
 have HC0_1 := am_ hc0_1
 clear hr0_1 hc0_1
 have HR1_0 := am_ hr1_0
 have HC1_0 := am_ hc1_0
 clear hr1_0 hc1_0
 have HR1_1 := am_ hr1_1
 have HC1_1 := am_ hc1_1
 clear hr1_1 hc1_1
 have HB := am_ (Below.refl w.heap.size w)
 have H := h
 clear h
 unfold laws_eqCommand.f at H
 obtain ⟨t180, A3, H⟩ := Sh.ba H
 by_cases c4 : t180 = true
 ·subst c4
  rw [if_pos rfl] at H
  obtain ⟨t181, A5, H⟩ := Sh.ba H
  by_cases c6 : t181 = true
  ·subst c6
   rw [if_pos rfl] at H
   obtain rfl := Option.some.inj H
   go_enter Try.func52, Try.ntmps52
   go_wp2_with (first | ((with_reducible refine Sh.d 2 ?_); refine Sh.bz w (N := 2) (cs := #[.slice A0_0 l0_0.length c0_0, .slice A0_1 l0_1.length c0_1]) (t := 50) (h := ?_); clear HB; intro gb178 w7 BK178 GE178 HB) | ((with_reducible refine Sh.d 3 ?_); refine Sh.bx (N := 3) (cs := #[.slice A1_0 l1_0.length c1_0, .slice A1_1 l1_1.length c1_1]) (t := 50) (h := ?_); intro gb179 hg w8 hbox hb; have BK179 := am_ hbox; have GE179 := Sh.ag w hg; replace HB := Sh.hb hb; have NB178_179 := am_ (Sh.nl hg BK178.out); have NB179_178 := am_ (Sh.ng hg BK178.out); replace BK178 := Sh.ab BK178 hb; clear hb hbox hg; have hnb9 := NB178_179.out; have hnc9 := NB179_178.out; obtain ⟨hcz10_0, hcz10_1, hfz10_0, hfz10_1⟩ := Sh.b2 BK178.out; obtain ⟨hcz11_0, hcz11_1, hfz11_0, hfz11_1⟩ := Sh.b2 BK179.out) | ((with_reducible refine Sh.k 29 ?_); refine Sh.gB (some 9) Try.func29 #[.slice A0_0 l0_0.length c0_0, .slice A1_0 l1_0.length c1_0] (laws_eqNodeS.calls k _ _ l0_0 _ _ l1_0 true _ (Sh.cB HR0_0.out) HC0_0.out (Sh.cB HR1_0.out) HC1_0.out A3.out) fun w12 hb => ?_; replace BK178 := Sh.ab BK178 hb; replace BK179 := Sh.ab BK179 hb; replace HB := Sh.hb hb; (try clear hb); (try clear hb2); (try clear hk); (try clear hi); obtain ⟨hcz13_0, hcz13_1, hfz13_0, hfz13_1⟩ := Sh.b2 BK178.out; obtain ⟨hcz14_0, hcz14_1, hfz14_0, hfz14_1⟩ := Sh.b2 BK179.out) | ((with_reducible refine Sh.k 73 ?_); refine Sh.gB (some 15) Try.func73 #[.slice A0_1 l0_1.length c0_1, .slice A1_1 l1_1.length c1_1] (laws_eqChangeS.calls k _ _ l0_1 _ _ l1_1 true _ (Sh.cB HR0_1.out) HC0_1.out (Sh.cB HR1_1.out) HC1_1.out A5.out) fun w15 hb => ?_; replace BK178 := Sh.ab BK178 hb; replace BK179 := Sh.ab BK179 hb; replace HB := Sh.hb hb; (try clear hb); (try clear hb2); (try clear hk); (try clear hi)))
   go_ret
   exact ⟨Sh.eR, Sh.bw⟩
  ·replace c6 := Bool.eq_false_iff.mpr c6
   subst c6
   rw [Sh.nf] at H
   obtain rfl := Option.some.inj H
   go_enter Try.func52, Try.ntmps52
   go_wp2_with (first | ((with_reducible refine Sh.d 2 ?_); refine Sh.bz w (N := 2) (cs := #[.slice A0_0 l0_0.length c0_0, .slice A0_1 l0_1.length c0_1]) (t := 50) (h := ?_); clear HB; intro gb178 w16 BK178 GE178 HB) | ((with_reducible refine Sh.d 3 ?_); refine Sh.bx (N := 3) (cs := #[.slice A1_0 l1_0.length c1_0, .slice A1_1 l1_1.length c1_1]) (t := 50) (h := ?_); intro gb179 hg w17 hbox hb; have BK179 := am_ hbox; have GE179 := Sh.ag w hg; replace HB := Sh.hb hb; have NB178_179 := am_ (Sh.nl hg BK178.out); have NB179_178 := am_ (Sh.ng hg BK178.out); replace BK178 := Sh.ab BK178 hb; clear hb hbox hg; have hnb18 := NB178_179.out; have hnc18 := NB179_178.out; obtain ⟨hcz19_0, hcz19_1, hfz19_0, hfz19_1⟩ := Sh.b2 BK178.out; obtain ⟨hcz20_0, hcz20_1, hfz20_0, hfz20_1⟩ := Sh.b2 BK179.out) | ((with_reducible refine Sh.k 29 ?_); refine Sh.gB (some 9) Try.func29 #[.slice A0_0 l0_0.length c0_0, .slice A1_0 l1_0.length c1_0] (laws_eqNodeS.calls k _ _ l0_0 _ _ l1_0 true _ (Sh.cB HR0_0.out) HC0_0.out (Sh.cB HR1_0.out) HC1_0.out A3.out) fun w21 hb => ?_; replace BK178 := Sh.ab BK178 hb; replace BK179 := Sh.ab BK179 hb; replace HB := Sh.hb hb; (try clear hb); (try clear hb2); (try clear hk); (try clear hi); obtain ⟨hcz22_0, hcz22_1, hfz22_0, hfz22_1⟩ := Sh.b2 BK178.out; obtain ⟨hcz23_0, hcz23_1, hfz23_0, hfz23_1⟩ := Sh.b2 BK179.out) | ((with_reducible refine Sh.k 73 ?_); refine Sh.gB (some 15) Try.func73 #[.slice A0_1 l0_1.length c0_1, .slice A1_1 l1_1.length c1_1] (laws_eqChangeS.calls k _ _ l0_1 _ _ l1_1 false _ (Sh.cB HR0_1.out) HC0_1.out (Sh.cB HR1_1.out) HC1_1.out A5.out) fun w24 hb => ?_; replace BK178 := Sh.ab BK178 hb; replace BK179 := Sh.ab BK179 hb; replace HB := Sh.hb hb; (try clear hb); (try clear hb2); (try clear hk); (try clear hi)))
   go_ret
   exact ⟨Sh.eR, Sh.bw⟩
 ·replace c4 := Bool.eq_false_iff.mpr c4
  subst c4
  rw [Sh.nf] at H
  obtain rfl := Option.some.inj H
  go_enter Try.func52, Try.ntmps52
  go_wp2_with (first | ((with_reducible refine Sh.d 2 ?_); refine Sh.bz w (N := 2) (cs := #[.slice A0_0 l0_0.length c0_0, .slice A0_1 l0_1.length c0_1]) (t := 50) (h := ?_); clear HB; intro gb178 w25 BK178 GE178 HB) | ((with_reducible refine Sh.d 3 ?_); refine Sh.bx (N := 3) (cs := #[.slice A1_0 l1_0.length c1_0, .slice A1_1 l1_1.length c1_1]) (t := 50) (h := ?_); intro gb179 hg w26 hbox hb; have BK179 := am_ hbox; have GE179 := Sh.ag w hg; replace HB := Sh.hb hb; have NB178_179 := am_ (Sh.nl hg BK178.out); have NB179_178 := am_ (Sh.ng hg BK178.out); replace BK178 := Sh.ab BK178 hb; clear hb hbox hg; have hnb27 := NB178_179.out; have hnc27 := NB179_178.out; obtain ⟨hcz28_0, hcz28_1, hfz28_0, hfz28_1⟩ := Sh.b2 BK178.out; obtain ⟨hcz29_0, hcz29_1, hfz29_0, hfz29_1⟩ := Sh.b2 BK179.out) | ((with_reducible refine Sh.k 29 ?_); refine Sh.gB (some 9) Try.func29 #[.slice A0_0 l0_0.length c0_0, .slice A1_0 l1_0.length c1_0] (laws_eqNodeS.calls k _ _ l0_0 _ _ l1_0 false _ (Sh.cB HR0_0.out) HC0_0.out (Sh.cB HR1_0.out) HC1_0.out A3.out) fun w30 hb => ?_; replace BK178 := Sh.ab BK178 hb; replace BK179 := Sh.ab BK179 hb; replace HB := Sh.hb hb; (try clear hb); (try clear hb2); (try clear hk); (try clear hi)))
  go_ret
  exact ⟨Sh.eR, Sh.bw⟩
def laws_eqCommandS.l0 : Nat → List (S50) → List (S50) → Int → Option (Bool)
 | 0, _, _, _ => none
 | k + 1, x0, x1, x5 => if x5 < (x0.length : Int) then (if 0 ≤ x5 then (if x5 < (x1.length : Int) then ((laws_eqCommand.f k ((rd_T50 x0 x5).f0) ((rd_T50 x0 x5).f1) ((rd_T50 x1 x5).f0) ((rd_T50 x1 x5).f1)).bind fun t184 => (if t184 = true then (laws_eqCommandS.l0 k x0 x1 (wrap64 (x5 + 1))) else (some false))) else (none)) else (none)) else (some true)
def laws_eqCommandS.f (k : Nat) (l0 : List (S50)) (l1 : List (S50)) : Option (Bool) := if (l0.length : Int) = (l1.length : Int) then (laws_eqCommandS.l0 k l0 l1 0) else (some false)
theorem laws_eqCommandS.mono_l : ∀ k, (∀ y0 y1 y2, LeO (laws_eqCommandS.l0 k y0 y1 y2) (laws_eqCommandS.l0 (k + 1) y0 y1 y2))
 | 0 => fun _ _ _ r h => by simp [laws_eqCommandS.l0] at h
 | k + 1 => by
  have ih0 := laws_eqCommandS.mono_l k
  ·intro y0 y1 y2
   unfold laws_eqCommandS.l0
   repeat' with_reducible first | apply ih0 | apply laws_eqCommand.mono | exact LeO.refl _ | exact LeO.none _ | apply LeO.ite | refine LeO.bind ?_ fun _ => ?_
theorem laws_eqCommandS.mono : ∀ a0 a1 k, LeO (laws_eqCommandS.f k a0 a1) (laws_eqCommandS.f (k + 1) a0 a1) := by
 intro a0 a1 k
 have ih0 := laws_eqCommandS.mono_l k
 unfold laws_eqCommandS.f
 repeat' with_reducible first | apply ih0 | apply laws_eqCommand.mono | exact LeO.refl _ | exact LeO.none _ | apply LeO.ite | refine LeO.bind ?_ fun _ => ?_
def laws_eqCommandS.T6 : Bool × List (List Nat × List Nat) := (true, [([], []), ([], []), ([0, 1], [0, 1]), ([2], [2]), ([], []), ([], []), ([4, 5], [4, 5]), ([6], [6]), ([3, 7], [3, 7]), ([8], [8])])
def laws_eqCommandS.B6 : List Nat := [0, 0, 3, 7, 0, 0, 48, 112, 255, 511]
theorem laws_eqCommandS.tab6 : rtab .any (opsOf Try.f30 6) = laws_eqCommandS.T6 := by kernel_rfl
theorem laws_eqCommandS.bits6 : waitsOk laws_eqCommandS.T6.2 laws_eqCommandS.B6 = true := by kernel_rfl
theorem laws_eqCommandS.calls (k : Nat) (A0 : Option Addr) (c0 : Nat) (l0 : List (S50)) (A1 : Option Addr) (c1 : Nat) (l1 : List (S50)) (r : Bool) (w : World) (hr0 : Kd.C k50 w A0 l0.length l0) (hc0 : l0.length ≤ c0) (hr1 : Kd.C k50 w A1 l1.length l1) (hc1 : l1.length ≤ c1) (h : laws_eqCommandS.f k l0 l1 = some r) :
  Calls Try.prog 30 #[.slice A0 l0.length c0, .slice A1 l1.length c1] w fun e w' => e = .returned (.bool r) ∧ Below w.heap.size w w' := by
 have hu50 := Try.underlying50
 have HR0 := am_ hr0
 have HC0 := am_ hc0
 clear hr0 hc0
 have HR1 := am_ hr1
 have HC1 := am_ hc1
 clear hr1 hc1
 have HB := am_ (Below.refl w.heap.size w)
 have H := h
 clear h
 unfold laws_eqCommandS.f at H
 by_cases c3 : (l0.length : Int) = (l1.length : Int)
 ·rw [if_pos c3] at H
  have c3b0 : ((l0.length : Int) == (l1.length : Int)) = true := beq_iff_eq.mpr c3
  have c3b1 : ((l0.length : Int) != (l1.length : Int)) = false := bne_eq_false_iff_eq.mpr c3
  have c3b2 : (l0.length == l1.length) = true := by first | simpa using c3 | (simp at c3 ⊢; omega)
  clear c3
  have H' := am_ H
  clear H
  go_enter Try.func30, Try.ntmps30
  go_wp2
  go_loopg [5] k (fun kq v5 w' => ∃ (x5_1 : Int), v5 = .int .i64 x5_1 ∧ Aside0 (laws_eqCommandS.l0 kq l0 l1 x5_1 = some r) ∧ Aside0 (kq ≤ k) ∧ Aside0 (Below w.heap.size w w'))
  case atStart => exact ⟨(0), (Sh.es), H', ⟨Nat.le_refl _⟩, ⟨Sh.bw⟩⟩
  case round =>
   clear H'
   obtain ⟨x5_1, rfl, HA, HK1, HB⟩ := hrel
   cases gk with
   | zero => exact absurd HA.out (by simp [laws_eqCommandS.l0])
   | succ k1 =>
    have H := HA.out
    clear HA
    simp only [laws_eqCommandS.l0] at H
    by_cases c4 : x5_1 < (l0.length : Int)
    ·rw [if_pos c4] at H
     have c4b0 := decide_eq_true c4
     clear c4
     by_cases c5 : 0 ≤ x5_1
     ·rw [if_pos c5] at H
      have c5b0 := decide_eq_true c5
      clear c5
      by_cases c6 : x5_1 < (l1.length : Int)
      ·rw [if_pos c6] at H
       have c6b0 := decide_eq_true c6
       clear c6
       obtain ⟨t184, A7, H⟩ := Sh.ba H
       by_cases c8 : t184 = true
       ·subst c8
        rw [if_pos rfl] at H
        have H' := am_ H
        clear H
        try go_wp2
        replace HB := am_ (below_drew1 HB.out)
        have p182 : 0 ≤ (x5_1 : Int) := Sh.od
        have q182 : x5_1 < (l0.length : Int) := Sh.od
        obtain ⟨ad182, A182_0, c182_0, A182_1, c182_1, e182, hx182_0, hx182_1, hl182_0, hi182_0, hl182_1, hi182_1⟩ := at_T50 HR0.out x5_1 p182 q182
        have hw182_1 := hx182_1
        have hw182_0 := hx182_0
        cases e182
        try replace hx182_0 := Sh.cw hx182_0
        try replace hx182_1 := Sh.cw hx182_1
        have HR182_0 := am_ hi182_0
        have HC182_0 := am_ hl182_0
        clear hi182_0 hl182_0
        have HR182_1 := am_ hi182_1
        have HC182_1 := am_ hl182_1
        clear hi182_1 hl182_1
        replace p182 := eq_true p182
        replace q182 := eq_true q182
        have p183 : 0 ≤ (x5_1 : Int) := Sh.od
        have q183 : x5_1 < (l1.length : Int) := Sh.od
        obtain ⟨ad183, A183_0, c183_0, A183_1, c183_1, e183, hx183_0, hx183_1, hl183_0, hi183_0, hl183_1, hi183_1⟩ := at_T50 HR1.out x5_1 p183 q183
        have hw183_1 := hx183_1
        have hw183_0 := hx183_0
        cases e183
        try replace hx183_0 := Sh.cw hx183_0
        try replace hx183_1 := Sh.cw hx183_1
        have HR183_0 := am_ hi183_0
        have HC183_0 := am_ hl183_0
        clear hi183_0 hl183_0
        have HR183_1 := am_ hi183_1
        have HC183_1 := am_ hl183_1
        clear hi183_1 hl183_1
        replace p183 := eq_true p183
        replace q183 := eq_true q183
        refine start_ (n := 10) (S := fun w' => w'.cell? (ad182.add ((x5_1).toNat * 2)) = some (.slice A182_0 ((rd_T50 l0 x5_1).f0).length c182_0) ∧ w'.cell? ⟨(ad182.add ((x5_1).toNat * 2)).block, (ad182.add ((x5_1).toNat * 2)).off + 1, none⟩ = some (.slice A182_1 ((rd_T50 l0 x5_1).f1).length c182_1) ∧ w'.cell? (ad183.add ((x5_1).toNat * 2)) = some (.slice A183_0 ((rd_T50 l1 x5_1).f0).length c183_0) ∧ w'.cell? ⟨(ad183.add ((x5_1).toNat * 2)).block, (ad183.add ((x5_1).toNat * 2)).off + 1, none⟩ = some (.slice A183_1 ((rd_T50 l1 x5_1).f1).length c183_1)) (ds := []) (Sh.nm 10 0) (by kernel_rfl) rfl rfl Sh.cs (fun hHeld => ?_); refine with_tabW laws_eqCommandS.tab6 laws_eqCommandS.bits6 (fun HT_ HW_ => ?_)
        generalize wr.drew = w9 at HB HR182_0 HR182_1 HR183_0 HR183_1 hx182_0 hx182_1 hx183_0 hx183_1 hHeld ⊢
        refine Sh.qA 0 ?_; refine Sh.qA 1 ?_; refine Sh.qA 2 ?_; refine Sh.qA 4 ?_; refine Sh.qA 5 ?_; refine Sh.qA 6 ?_; refine Sh.qT 3 hHeld ?_; refine Sh.qT 7 hHeld ?_
        refine Sh.oC 8 Try.func52 #[.agg #[.slice A182_0 ((rd_T50 l0 x5_1).f0).length c182_0, .slice A182_1 ((rd_T50 l0 x5_1).f1).length c182_1], .agg #[.slice A183_0 ((rd_T50 l1 x5_1).f0).length c183_0, .slice A183_1 ((rd_T50 l1 x5_1).f1).length c183_1]] fun K hK => ?_
        with_reducible refine (laws_eqCommand.calls k1 _ _ ((rd_T50 l0 x5_1).f0) _ _ ((rd_T50 l0 x5_1).f1) _ _ ((rd_T50 l1 x5_1).f0) _ _ ((rd_T50 l1 x5_1).f1) true _ (Sh.cB HR182_0.out) HC182_0.out (Sh.cB HR182_1.out) HC182_1.out (Sh.cB HR183_0.out) HC183_0.out (Sh.cB HR183_1.out) HC183_1.out A7.out).mono ?_
        rintro e w10 ⟨rfl, hb⟩
        refine ⟨_, rfl, ?_⟩
        replace HB := Sh.hb hb
        (try clear hb)
        (try clear hb2)
        (try clear hk)
        (try clear hi)
        refine Sh.kN hK Sh.cs fun hHeld => ?_
        clear hK K
        refine Sh.qA 9 ?_
        refine done_ (done_of HT_.out (by kernel_rfl)) ?_
        try go_wp2
        go_roundg k1
        case measure => have := HK1.out; omega
        case rel => exact ⟨(wrap64 (x5_1 + 1)), (Sh.es), H', ⟨by have := HK1.out; omega⟩, ⟨Sh.bw⟩⟩
       ·replace c8 := Bool.eq_false_iff.mpr c8
        subst c8
        rw [Sh.nf] at H
        obtain rfl := Option.some.inj H
        try go_wp2
        replace HB := am_ (below_drew1 HB.out)
        have p182 : 0 ≤ (x5_1 : Int) := Sh.od
        have q182 : x5_1 < (l0.length : Int) := Sh.od
        obtain ⟨ad182, A182_0, c182_0, A182_1, c182_1, e182, hx182_0, hx182_1, hl182_0, hi182_0, hl182_1, hi182_1⟩ := at_T50 HR0.out x5_1 p182 q182
        have hw182_1 := hx182_1
        have hw182_0 := hx182_0
        cases e182
        try replace hx182_0 := Sh.cw hx182_0
        try replace hx182_1 := Sh.cw hx182_1
        have HR182_0 := am_ hi182_0
        have HC182_0 := am_ hl182_0
        clear hi182_0 hl182_0
        have HR182_1 := am_ hi182_1
        have HC182_1 := am_ hl182_1
        clear hi182_1 hl182_1
        replace p182 := eq_true p182
        replace q182 := eq_true q182
        have p183 : 0 ≤ (x5_1 : Int) := Sh.od
        have q183 : x5_1 < (l1.length : Int) := Sh.od
        obtain ⟨ad183, A183_0, c183_0, A183_1, c183_1, e183, hx183_0, hx183_1, hl183_0, hi183_0, hl183_1, hi183_1⟩ := at_T50 HR1.out x5_1 p183 q183
        have hw183_1 := hx183_1
        have hw183_0 := hx183_0
        cases e183
        try replace hx183_0 := Sh.cw hx183_0
        try replace hx183_1 := Sh.cw hx183_1
        have HR183_0 := am_ hi183_0
        have HC183_0 := am_ hl183_0
        clear hi183_0 hl183_0
        have HR183_1 := am_ hi183_1
        have HC183_1 := am_ hl183_1
        clear hi183_1 hl183_1
        replace p183 := eq_true p183
        replace q183 := eq_true q183
        refine start_ (n := 10) (S := fun w' => w'.cell? (ad182.add ((x5_1).toNat * 2)) = some (.slice A182_0 ((rd_T50 l0 x5_1).f0).length c182_0) ∧ w'.cell? ⟨(ad182.add ((x5_1).toNat * 2)).block, (ad182.add ((x5_1).toNat * 2)).off + 1, none⟩ = some (.slice A182_1 ((rd_T50 l0 x5_1).f1).length c182_1) ∧ w'.cell? (ad183.add ((x5_1).toNat * 2)) = some (.slice A183_0 ((rd_T50 l1 x5_1).f0).length c183_0) ∧ w'.cell? ⟨(ad183.add ((x5_1).toNat * 2)).block, (ad183.add ((x5_1).toNat * 2)).off + 1, none⟩ = some (.slice A183_1 ((rd_T50 l1 x5_1).f1).length c183_1)) (ds := []) (Sh.nm 10 0) (by kernel_rfl) rfl rfl Sh.cs (fun hHeld => ?_); refine with_tabW laws_eqCommandS.tab6 laws_eqCommandS.bits6 (fun HT_ HW_ => ?_)
        generalize wr.drew = w11 at HB HR182_0 HR182_1 HR183_0 HR183_1 hx182_0 hx182_1 hx183_0 hx183_1 hHeld ⊢
        refine Sh.qA 0 ?_; refine Sh.qA 1 ?_; refine Sh.qA 2 ?_; refine Sh.qA 4 ?_; refine Sh.qA 5 ?_; refine Sh.qA 6 ?_; refine Sh.qT 3 hHeld ?_; refine Sh.qT 7 hHeld ?_
        refine Sh.oC 8 Try.func52 #[.agg #[.slice A182_0 ((rd_T50 l0 x5_1).f0).length c182_0, .slice A182_1 ((rd_T50 l0 x5_1).f1).length c182_1], .agg #[.slice A183_0 ((rd_T50 l1 x5_1).f0).length c183_0, .slice A183_1 ((rd_T50 l1 x5_1).f1).length c183_1]] fun K hK => ?_
        with_reducible refine (laws_eqCommand.calls k1 _ _ ((rd_T50 l0 x5_1).f0) _ _ ((rd_T50 l0 x5_1).f1) _ _ ((rd_T50 l1 x5_1).f0) _ _ ((rd_T50 l1 x5_1).f1) false _ (Sh.cB HR182_0.out) HC182_0.out (Sh.cB HR182_1.out) HC182_1.out (Sh.cB HR183_0.out) HC183_0.out (Sh.cB HR183_1.out) HC183_1.out A7.out).mono ?_
        rintro e w12 ⟨rfl, hb⟩
        refine ⟨_, rfl, ?_⟩
        replace HB := Sh.hb hb
        (try clear hb)
        (try clear hb2)
        (try clear hk)
        (try clear hi)
        refine Sh.kN hK Sh.cs fun hHeld => ?_
        clear hK K
        refine Sh.qA 9 ?_
        refine done_ (done_of HT_.out (by kernel_rfl)) ?_
        try go_wp2
        go_ret
        exact ⟨Sh.eR, Sh.bw⟩
      ·rw [if_neg c6] at H
       exact absurd H (by simp)
     ·rw [if_neg c5] at H
      exact absurd H (by simp)
    ·rw [if_neg c4] at H
     have c4b0 := decide_eq_false c4
     clear c4
     obtain rfl := Option.some.inj H
     go_wp2
     go_ret
     exact ⟨Sh.eR, Sh.bw⟩
 ·rw [if_neg c3] at H
  have c3b0 : ((l0.length : Int) == (l1.length : Int)) = false := beq_eq_false_iff_ne.mpr c3
  have c3b1 : ((l0.length : Int) != (l1.length : Int)) = true := bne_iff_ne.mpr c3
  have c3b2 : (l0.length == l1.length) = false := by first | simpa using c3 | (simp at c3 ⊢; omega)
  obtain rfl := Option.some.inj H
  go_enter Try.func30, Try.ntmps30
  go_wp2
  go_ret
  exact ⟨Sh.eR, Sh.bw⟩
def laws_eqProgram.f (k : Nat) (a0_0 : Int) (a0_1 : Int) (l0_2 : List (S73)) (l0_3 : List (S50)) (a1_0 : Int) (a1_1 : Int) (l1_2 : List (S73)) (l1_3 : List (S50)) : Option (Bool) := if a0_0 = a1_0 then (if a0_1 = a1_1 then ((laws_eqNodeS.f k l0_2 l1_2).bind fun t187 => (if t187 = true then ((laws_eqCommandS.f k l0_3 l1_3).bind fun t188 => (if t188 = true then (some true) else (some false))) else (some false))) else (some false)) else (some false)
theorem laws_eqProgram.mono : ∀ a0 a1 a2 a3 a4 a5 a6 a7 k, LeO (laws_eqProgram.f k a0 a1 a2 a3 a4 a5 a6 a7) (laws_eqProgram.f (k + 1) a0 a1 a2 a3 a4 a5 a6 a7) := by
 intro a0 a1 a2 a3 a4 a5 a6 a7 k
 unfold laws_eqProgram.f
 repeat' with_reducible first | apply laws_eqCommandS.mono | apply laws_eqNodeS.mono | exact LeO.refl _ | exact LeO.none _ | apply LeO.ite | refine LeO.bind ?_ fun _ => ?_
theorem laws_eqProgram.calls (k : Nat) (a0_0 : Int) (a0_1 : Int) (A0_2 : Option Addr) (c0_2 : Nat) (l0_2 : List (S73)) (A0_3 : Option Addr) (c0_3 : Nat) (l0_3 : List (S50)) (a1_0 : Int) (a1_1 : Int) (A1_2 : Option Addr) (c1_2 : Nat) (l1_2 : List (S73)) (A1_3 : Option Addr) (c1_3 : Nat) (l1_3 : List (S50)) (r : Bool) (w : World) (hr0_2 : Kd.C k73 w A0_2 l0_2.length l0_2) (hc0_2 : l0_2.length ≤ c0_2) (hr0_3 : Kd.C k50 w A0_3 l0_3.length l0_3) (hc0_3 : l0_3.length ≤ c0_3) (hr1_2 : Kd.C k73 w A1_2 l1_2.length l1_2) (hc1_2 : l1_2.length ≤ c1_2) (hr1_3 : Kd.C k50 w A1_3 l1_3.length l1_3) (hc1_3 : l1_3.length ≤ c1_3) (h : laws_eqProgram.f k a0_0 a0_1 l0_2 l0_3 a1_0 a1_1 l1_2 l1_3 = some r) :
  Calls Try.prog 10 #[.agg #[.int .i64 a0_0, .int .i64 a0_1, .slice A0_2 l0_2.length c0_2, .slice A0_3 l0_3.length c0_3], .agg #[.int .i64 a1_0, .int .i64 a1_1, .slice A1_2 l1_2.length c1_2, .slice A1_3 l1_3.length c1_3]] w fun e w' => e = .returned (.bool r) ∧ Below w.heap.size w w' := by
 have hu33 := Try.underlying33
 have HR0_2 := am_ hr0_2
 have HC0_2 := am_ hc0_2
 clear hr0_2 hc0_2
 have HR0_3 := am_ hr0_3
 have HC0_3 := am_ hc0_3
 clear hr0_3 hc0_3
 have HR1_2 := am_ hr1_2
 have HC1_2 := am_ hc1_2
 clear hr1_2 hc1_2
 have HR1_3 := am_ hr1_3
 have HC1_3 := am_ hc1_3
 clear hr1_3 hc1_3
 have HB := am_ (Below.refl w.heap.size w)
 have H := h
 clear h
 unfold laws_eqProgram.f at H
 by_cases c3 : a0_0 = a1_0
 ·rw [if_pos c3] at H
  have c3b0 : (a0_0 == a1_0) = true := beq_iff_eq.mpr c3
  have c3b1 : (a0_0 != a1_0) = false := bne_eq_false_iff_eq.mpr c3
  clear c3
  by_cases c4 : a0_1 = a1_1
  ·rw [if_pos c4] at H
   have c4b0 : (a0_1 == a1_1) = true := beq_iff_eq.mpr c4
   have c4b1 : (a0_1 != a1_1) = false := bne_eq_false_iff_eq.mpr c4
   clear c4
   obtain ⟨t187, A5, H⟩ := Sh.ba H
   by_cases c6 : t187 = true
   ·subst c6
    rw [if_pos rfl] at H
    obtain ⟨t188, A7, H⟩ := Sh.ba H
    by_cases c8 : t188 = true
    ·subst c8
     rw [if_pos rfl] at H
     obtain rfl := Option.some.inj H
     go_enter Try.func10, Try.ntmps10
     go_wp2_with (first | ((with_reducible refine Sh.d 2 ?_); refine Sh.bz w (N := 2) (cs := #[.int .i64 a0_0, .int .i64 a0_1, .slice A0_2 l0_2.length c0_2, .slice A0_3 l0_3.length c0_3]) (t := 33) (h := ?_); clear HB; intro gb185 w9 BK185 GE185 HB) | ((with_reducible refine Sh.d 3 ?_); refine Sh.bx (N := 3) (cs := #[.int .i64 a1_0, .int .i64 a1_1, .slice A1_2 l1_2.length c1_2, .slice A1_3 l1_3.length c1_3]) (t := 33) (h := ?_); intro gb186 hg w10 hbox hb; have BK186 := am_ hbox; have GE186 := Sh.ag w hg; replace HB := Sh.hb hb; have NB185_186 := am_ (Sh.nl hg BK185.out); have NB186_185 := am_ (Sh.ng hg BK185.out); replace BK185 := Sh.ab BK185 hb; clear hb hbox hg; have hnb11 := NB185_186.out; have hnc11 := NB186_185.out; obtain ⟨hcz12_0, hcz12_1, hcz12_2, hcz12_3, hfz12_0, hfz12_1, hfz12_2, hfz12_3⟩ := Sh.b4 BK185.out; obtain ⟨hcz13_0, hcz13_1, hcz13_2, hcz13_3, hfz13_0, hfz13_1, hfz13_2, hfz13_3⟩ := Sh.b4 BK186.out) | ((with_reducible refine Sh.k 29 ?_); refine Sh.gB (some 19) Try.func29 #[.slice A0_2 l0_2.length c0_2, .slice A1_2 l1_2.length c1_2] (laws_eqNodeS.calls k _ _ l0_2 _ _ l1_2 true _ (Sh.cB HR0_2.out) HC0_2.out (Sh.cB HR1_2.out) HC1_2.out A5.out) fun w14 hb => ?_; replace BK185 := Sh.ab BK185 hb; replace BK186 := Sh.ab BK186 hb; replace HB := Sh.hb hb; (try clear hb); (try clear hb2); (try clear hk); (try clear hi); obtain ⟨hcz15_0, hcz15_1, hcz15_2, hcz15_3, hfz15_0, hfz15_1, hfz15_2, hfz15_3⟩ := Sh.b4 BK185.out; obtain ⟨hcz16_0, hcz16_1, hcz16_2, hcz16_3, hfz16_0, hfz16_1, hfz16_2, hfz16_3⟩ := Sh.b4 BK186.out) | ((with_reducible refine Sh.k 30 ?_); refine Sh.gB (some 25) Try.func30 #[.slice A0_3 l0_3.length c0_3, .slice A1_3 l1_3.length c1_3] (laws_eqCommandS.calls k _ _ l0_3 _ _ l1_3 true _ (Sh.cB HR0_3.out) HC0_3.out (Sh.cB HR1_3.out) HC1_3.out A7.out) fun w17 hb => ?_; replace BK185 := Sh.ab BK185 hb; replace BK186 := Sh.ab BK186 hb; replace HB := Sh.hb hb; (try clear hb); (try clear hb2); (try clear hk); (try clear hi)))
     go_ret
     exact ⟨Sh.eR, Sh.bw⟩
    ·replace c8 := Bool.eq_false_iff.mpr c8
     subst c8
     rw [Sh.nf] at H
     obtain rfl := Option.some.inj H
     go_enter Try.func10, Try.ntmps10
     go_wp2_with (first | ((with_reducible refine Sh.d 2 ?_); refine Sh.bz w (N := 2) (cs := #[.int .i64 a0_0, .int .i64 a0_1, .slice A0_2 l0_2.length c0_2, .slice A0_3 l0_3.length c0_3]) (t := 33) (h := ?_); clear HB; intro gb185 w18 BK185 GE185 HB) | ((with_reducible refine Sh.d 3 ?_); refine Sh.bx (N := 3) (cs := #[.int .i64 a1_0, .int .i64 a1_1, .slice A1_2 l1_2.length c1_2, .slice A1_3 l1_3.length c1_3]) (t := 33) (h := ?_); intro gb186 hg w19 hbox hb; have BK186 := am_ hbox; have GE186 := Sh.ag w hg; replace HB := Sh.hb hb; have NB185_186 := am_ (Sh.nl hg BK185.out); have NB186_185 := am_ (Sh.ng hg BK185.out); replace BK185 := Sh.ab BK185 hb; clear hb hbox hg; have hnb20 := NB185_186.out; have hnc20 := NB186_185.out; obtain ⟨hcz21_0, hcz21_1, hcz21_2, hcz21_3, hfz21_0, hfz21_1, hfz21_2, hfz21_3⟩ := Sh.b4 BK185.out; obtain ⟨hcz22_0, hcz22_1, hcz22_2, hcz22_3, hfz22_0, hfz22_1, hfz22_2, hfz22_3⟩ := Sh.b4 BK186.out) | ((with_reducible refine Sh.k 29 ?_); refine Sh.gB (some 19) Try.func29 #[.slice A0_2 l0_2.length c0_2, .slice A1_2 l1_2.length c1_2] (laws_eqNodeS.calls k _ _ l0_2 _ _ l1_2 true _ (Sh.cB HR0_2.out) HC0_2.out (Sh.cB HR1_2.out) HC1_2.out A5.out) fun w23 hb => ?_; replace BK185 := Sh.ab BK185 hb; replace BK186 := Sh.ab BK186 hb; replace HB := Sh.hb hb; (try clear hb); (try clear hb2); (try clear hk); (try clear hi); obtain ⟨hcz24_0, hcz24_1, hcz24_2, hcz24_3, hfz24_0, hfz24_1, hfz24_2, hfz24_3⟩ := Sh.b4 BK185.out; obtain ⟨hcz25_0, hcz25_1, hcz25_2, hcz25_3, hfz25_0, hfz25_1, hfz25_2, hfz25_3⟩ := Sh.b4 BK186.out) | ((with_reducible refine Sh.k 30 ?_); refine Sh.gB (some 25) Try.func30 #[.slice A0_3 l0_3.length c0_3, .slice A1_3 l1_3.length c1_3] (laws_eqCommandS.calls k _ _ l0_3 _ _ l1_3 false _ (Sh.cB HR0_3.out) HC0_3.out (Sh.cB HR1_3.out) HC1_3.out A7.out) fun w26 hb => ?_; replace BK185 := Sh.ab BK185 hb; replace BK186 := Sh.ab BK186 hb; replace HB := Sh.hb hb; (try clear hb); (try clear hb2); (try clear hk); (try clear hi)))
     go_ret
     exact ⟨Sh.eR, Sh.bw⟩
   ·replace c6 := Bool.eq_false_iff.mpr c6
    subst c6
    rw [Sh.nf] at H
    obtain rfl := Option.some.inj H
    go_enter Try.func10, Try.ntmps10
    go_wp2_with (first | ((with_reducible refine Sh.d 2 ?_); refine Sh.bz w (N := 2) (cs := #[.int .i64 a0_0, .int .i64 a0_1, .slice A0_2 l0_2.length c0_2, .slice A0_3 l0_3.length c0_3]) (t := 33) (h := ?_); clear HB; intro gb185 w27 BK185 GE185 HB) | ((with_reducible refine Sh.d 3 ?_); refine Sh.bx (N := 3) (cs := #[.int .i64 a1_0, .int .i64 a1_1, .slice A1_2 l1_2.length c1_2, .slice A1_3 l1_3.length c1_3]) (t := 33) (h := ?_); intro gb186 hg w28 hbox hb; have BK186 := am_ hbox; have GE186 := Sh.ag w hg; replace HB := Sh.hb hb; have NB185_186 := am_ (Sh.nl hg BK185.out); have NB186_185 := am_ (Sh.ng hg BK185.out); replace BK185 := Sh.ab BK185 hb; clear hb hbox hg; have hnb29 := NB185_186.out; have hnc29 := NB186_185.out; obtain ⟨hcz30_0, hcz30_1, hcz30_2, hcz30_3, hfz30_0, hfz30_1, hfz30_2, hfz30_3⟩ := Sh.b4 BK185.out; obtain ⟨hcz31_0, hcz31_1, hcz31_2, hcz31_3, hfz31_0, hfz31_1, hfz31_2, hfz31_3⟩ := Sh.b4 BK186.out) | ((with_reducible refine Sh.k 29 ?_); refine Sh.gB (some 19) Try.func29 #[.slice A0_2 l0_2.length c0_2, .slice A1_2 l1_2.length c1_2] (laws_eqNodeS.calls k _ _ l0_2 _ _ l1_2 false _ (Sh.cB HR0_2.out) HC0_2.out (Sh.cB HR1_2.out) HC1_2.out A5.out) fun w32 hb => ?_; replace BK185 := Sh.ab BK185 hb; replace BK186 := Sh.ab BK186 hb; replace HB := Sh.hb hb; (try clear hb); (try clear hb2); (try clear hk); (try clear hi)))
    go_ret
    exact ⟨Sh.eR, Sh.bw⟩
  ·rw [if_neg c4] at H
   have c4b0 : (a0_1 == a1_1) = false := beq_eq_false_iff_ne.mpr c4
   have c4b1 : (a0_1 != a1_1) = true := bne_iff_ne.mpr c4
   obtain rfl := Option.some.inj H
   go_enter Try.func10, Try.ntmps10
   go_wp2_with (first | ((with_reducible refine Sh.d 2 ?_); refine Sh.bz w (N := 2) (cs := #[.int .i64 a0_0, .int .i64 a0_1, .slice A0_2 l0_2.length c0_2, .slice A0_3 l0_3.length c0_3]) (t := 33) (h := ?_); clear HB; intro gb185 w33 BK185 GE185 HB) | ((with_reducible refine Sh.d 3 ?_); refine Sh.bx (N := 3) (cs := #[.int .i64 a1_0, .int .i64 a1_1, .slice A1_2 l1_2.length c1_2, .slice A1_3 l1_3.length c1_3]) (t := 33) (h := ?_); intro gb186 hg w34 hbox hb; have BK186 := am_ hbox; have GE186 := Sh.ag w hg; replace HB := Sh.hb hb; have NB185_186 := am_ (Sh.nl hg BK185.out); have NB186_185 := am_ (Sh.ng hg BK185.out); replace BK185 := Sh.ab BK185 hb; clear hb hbox hg; have hnb35 := NB185_186.out; have hnc35 := NB186_185.out; obtain ⟨hcz36_0, hcz36_1, hcz36_2, hcz36_3, hfz36_0, hfz36_1, hfz36_2, hfz36_3⟩ := Sh.b4 BK185.out; obtain ⟨hcz37_0, hcz37_1, hcz37_2, hcz37_3, hfz37_0, hfz37_1, hfz37_2, hfz37_3⟩ := Sh.b4 BK186.out))
   go_ret
   exact ⟨Sh.eR, Sh.bw⟩
 ·rw [if_neg c3] at H
  have c3b0 : (a0_0 == a1_0) = false := beq_eq_false_iff_ne.mpr c3
  have c3b1 : (a0_0 != a1_0) = true := bne_iff_ne.mpr c3
  obtain rfl := Option.some.inj H
  go_enter Try.func10, Try.ntmps10
  go_wp2_with (first | ((with_reducible refine Sh.d 2 ?_); refine Sh.bz w (N := 2) (cs := #[.int .i64 a0_0, .int .i64 a0_1, .slice A0_2 l0_2.length c0_2, .slice A0_3 l0_3.length c0_3]) (t := 33) (h := ?_); clear HB; intro gb185 w38 BK185 GE185 HB) | ((with_reducible refine Sh.d 3 ?_); refine Sh.bx (N := 3) (cs := #[.int .i64 a1_0, .int .i64 a1_1, .slice A1_2 l1_2.length c1_2, .slice A1_3 l1_3.length c1_3]) (t := 33) (h := ?_); intro gb186 hg w39 hbox hb; have BK186 := am_ hbox; have GE186 := Sh.ag w hg; replace HB := Sh.hb hb; have NB185_186 := am_ (Sh.nl hg BK185.out); have NB186_185 := am_ (Sh.ng hg BK185.out); replace BK185 := Sh.ab BK185 hb; clear hb hbox hg; have hnb40 := NB185_186.out; have hnc40 := NB186_185.out; obtain ⟨hcz41_0, hcz41_1, hcz41_2, hcz41_3, hfz41_0, hfz41_1, hfz41_2, hfz41_3⟩ := Sh.b4 BK185.out; obtain ⟨hcz42_0, hcz42_1, hcz42_2, hcz42_3, hfz42_0, hfz42_1, hfz42_2, hfz42_3⟩ := Sh.b4 BK186.out))
  go_ret
  exact ⟨Sh.eR, Sh.bw⟩
def spec_l1In.f (a0 : Int) (a1 : Int) (a2 : Int) : Option (Bool) := if a0 ≥ a1 then (some (decide (a0 ≤ a2))) else (some false)
theorem spec_l1In.calls (a0 : Int) (a1 : Int) (a2 : Int) (r : Bool) (w : World) (h : spec_l1In.f a0 a1 a2 = some r) :
  Calls Try.prog 19 #[.int .i64 a0, .int .i64 a1, .int .i64 a2] w fun e w' => e = .returned (.bool r) ∧ Drawn0 w w' := by
 have H := h
 clear h
 unfold spec_l1In.f at H
 by_cases c4 : a0 ≥ a1
 ·rw [if_pos c4] at H
  have c4b0 : decide (a1 ≤ a0) = true := decide_eq_true c4
  clear c4
  obtain rfl := Option.some.inj H
  go_enter Try.func19, Try.ntmps19
  go_wp2
  go_ret
  exact ⟨Sh.es, Sh.dr⟩
 ·rw [if_neg c4] at H
  have c4b0 : decide (a1 ≤ a0) = false := decide_eq_false c4
  clear c4
  obtain rfl := Option.some.inj H
  go_enter Try.func19, Try.ntmps19
  go_wp2
  go_ret
  exact ⟨Sh.es, Sh.dr⟩
def spec_l1Wide.f (a0 : Int) : Option (Bool) := (spec_l1In.f a0 1 64).bind fun t189 => (some t189)
theorem spec_l1Wide.calls (a0 : Int) (r : Bool) (w : World) (h : spec_l1Wide.f a0 = some r) :
  Calls Try.prog 75 #[.int .i64 a0] w fun e w' => e = .returned (.bool r) ∧ Drawn0 w w' := by
 have H := h
 clear h
 unfold spec_l1Wide.f at H
 obtain ⟨t189, A2, H⟩ := Sh.ba H
 obtain rfl := Option.some.inj H
 go_enter Try.func75, Try.ntmps75
 go_wp2_with (first | ((with_reducible refine Sh.k 19 ?_); refine Sh.gD (some 4) Try.func19 #[.int .i64 a0, .int .i64 1, .int .i64 64] (spec_l1In.calls a0 1 64 t189 _ A2.out) fun nd => ?_))
 go_ret
 exact ⟨Sh.es, Sh.dr⟩
def spec_l2Need.j0 : Nat → Int → Bool → Option (Int × Int × Int)
 | 0, _, _ => none
 | k + 1, x0, x5 => if x5 = true then (some (0, 1, 1)) else (if x0 = 20 then (some (0, 2, 2)) else (if x0 = 13 then (some (1, 1, 1)) else (if x0 = 19 then (some (1, 2, 2)) else ((spec_l1In.f x0 3 12).bind fun t190 => (if t190 = true then (some (2, 1, 1)) else ((spec_l1In.f x0 14 16).bind fun t191 => (if t191 = true then (some (2, 1, 2)) else (if x0 = 17 then (some (2, 2, 2)) else (if x0 = 18 then (some (2, 2, 2)) else (some (0, 0, 0)))))))))))
def spec_l2Need.f (k : Nat) (a0 : Int) : Option (Int × Int × Int) := if a0 = 1 then (spec_l2Need.j0 k a0 true) else (spec_l2Need.j0 k a0 (a0 == 2))
theorem spec_l2Need.mono_l : ∀ k, (∀ y0 y1, LeO (spec_l2Need.j0 k y0 y1) (spec_l2Need.j0 (k + 1) y0 y1))
 | 0 => fun _ _ r h => by simp [spec_l2Need.j0] at h
 | k + 1 => by
  have ih0 := spec_l2Need.mono_l k
  ·intro y0 y1
   unfold spec_l2Need.j0
   repeat' with_reducible first | apply ih0 | exact LeO.refl _ | exact LeO.none _ | apply LeO.ite | refine LeO.bind ?_ fun _ => ?_
theorem spec_l2Need.mono : ∀ a0 k, LeO (spec_l2Need.f k a0) (spec_l2Need.f (k + 1) a0) := by
 intro a0 k
 have ih0 := spec_l2Need.mono_l k
 unfold spec_l2Need.f
 repeat' with_reducible first | apply ih0 | exact LeO.refl _ | exact LeO.none _ | apply LeO.ite | refine LeO.bind ?_ fun _ => ?_
theorem spec_l2Need.calls (k : Nat) (a0 : Int) (r1 : Int) (r2 : Int) (r3 : Int) (w : World) (h : spec_l2Need.f k a0 = some (r1, r2, r3)) :
  Calls Try.prog 76 #[.int .i64 a0] w fun e w' => e = .returned (.tuple #[.int .i64 r1, .int .i64 r2, .int .i64 r3]) ∧ Drawn0 w w' := by
 have H := h
 clear h
 unfold spec_l2Need.f at H
 have HC2 := am_ H
 clear H
 go_enter Try.func76, Try.ntmps76
 go_upto_region 1 with (fail)
 go_cut [5] (fun v5 wc => ∃ (kq : Nat) (x5_1 : Bool), v5 = .bool x5_1 ∧ Aside0 (spec_l2Need.j0 kq a0 x5_1 = some (r1, r2, r3)) ∧ Aside0 (kq ≤ k) ∧ Drawn0 w wc)
 case first =>
  have H := HC2.out
  clear HC2
  by_cases c3 : a0 = 1
  ·rw [if_pos c3] at H
   have c3b0 : (a0 == 1) = true := beq_iff_eq.mpr c3
   have c3b1 : (a0 != 1) = false := bne_eq_false_iff_eq.mpr c3
   clear c3
   first | rw [c3b0] | (simp only [i64_w, i32_w]; rw [c3b0]) | skip
   have H' := am_ H
   clear H
   go_wp2
   go_meet
   case rel => exact ⟨_, (true), (Sh.es), H', ⟨Sh.om⟩, Sh.dr⟩
  ·rw [if_neg c3] at H
   have c3b0 : (a0 == 1) = false := beq_eq_false_iff_ne.mpr c3
   have c3b1 : (a0 != 1) = true := bne_iff_ne.mpr c3
   first | rw [c3b0] | (simp only [i64_w, i32_w]; rw [c3b0]) | skip
   have H' := am_ H
   clear H
   go_wp2
   go_meet
   case rel => exact ⟨_, ((a0 == 2)), (Sh.es), H', ⟨Sh.om⟩, Sh.dr⟩
 case rest =>
  clear HC2
  obtain ⟨kq, x5_1, rfl, HA, HJ1, ⟨mc1, rfl⟩⟩ := hcut
  cases kq with
  | zero => exact absurd HA.out (by simp [spec_l2Need.j0])
  | succ kj1 =>
   have H := HA.out
   clear HA
   simp only [spec_l2Need.j0] at H
   by_cases c4 : x5_1 = true
   ·subst c4
    rw [if_pos rfl] at H
    simp only [Option.some.injEq, Prod.mk.injEq] at H
    obtain ⟨rfl, rfl, rfl⟩ := H
    go_wp2
    go_ret3
    exact ⟨Sh.es, Sh.dr⟩
   ·replace c4 := Bool.eq_false_iff.mpr c4
    subst c4
    rw [Sh.nf] at H
    by_cases c5 : a0 = 20
    ·rw [if_pos c5] at H
     have c5b0 : (a0 == 20) = true := beq_iff_eq.mpr c5
     have c5b1 : (a0 != 20) = false := bne_eq_false_iff_eq.mpr c5
     clear c5
     simp only [Option.some.injEq, Prod.mk.injEq] at H
     obtain ⟨rfl, rfl, rfl⟩ := H
     go_wp2
     go_ret3
     exact ⟨Sh.es, Sh.dr⟩
    ·rw [if_neg c5] at H
     have c5b0 : (a0 == 20) = false := beq_eq_false_iff_ne.mpr c5
     have c5b1 : (a0 != 20) = true := bne_iff_ne.mpr c5
     by_cases c6 : a0 = 13
     ·rw [if_pos c6] at H
      have c6b0 : (a0 == 13) = true := beq_iff_eq.mpr c6
      have c6b1 : (a0 != 13) = false := bne_eq_false_iff_eq.mpr c6
      clear c6
      simp only [Option.some.injEq, Prod.mk.injEq] at H
      obtain ⟨rfl, rfl, rfl⟩ := H
      go_wp2
      go_ret3
      exact ⟨Sh.es, Sh.dr⟩
     ·rw [if_neg c6] at H
      have c6b0 : (a0 == 13) = false := beq_eq_false_iff_ne.mpr c6
      have c6b1 : (a0 != 13) = true := bne_iff_ne.mpr c6
      by_cases c7 : a0 = 19
      ·rw [if_pos c7] at H
       have c7b0 : (a0 == 19) = true := beq_iff_eq.mpr c7
       have c7b1 : (a0 != 19) = false := bne_eq_false_iff_eq.mpr c7
       clear c7
       simp only [Option.some.injEq, Prod.mk.injEq] at H
       obtain ⟨rfl, rfl, rfl⟩ := H
       go_wp2
       go_ret3
       exact ⟨Sh.es, Sh.dr⟩
      ·rw [if_neg c7] at H
       have c7b0 : (a0 == 19) = false := beq_eq_false_iff_ne.mpr c7
       have c7b1 : (a0 != 19) = true := bne_iff_ne.mpr c7
       obtain ⟨t190, A8, H⟩ := Sh.ba H
       by_cases c9 : t190 = true
       ·subst c9
        rw [if_pos rfl] at H
        simp only [Option.some.injEq, Prod.mk.injEq] at H
        obtain ⟨rfl, rfl, rfl⟩ := H
        go_wp2_with (first | ((with_reducible refine Sh.k 19 ?_); refine Sh.gD (some 23) Try.func19 #[.int .i64 a0, .int .i64 3, .int .i64 12] (spec_l1In.calls a0 3 12 true _ A8.out) fun nd => ?_))
        go_ret3
        exact ⟨Sh.es, Sh.dr⟩
       ·replace c9 := Bool.eq_false_iff.mpr c9
        subst c9
        rw [Sh.nf] at H
        obtain ⟨t191, A10, H⟩ := Sh.ba H
        by_cases c11 : t191 = true
        ·subst c11
         rw [if_pos rfl] at H
         simp only [Option.some.injEq, Prod.mk.injEq] at H
         obtain ⟨rfl, rfl, rfl⟩ := H
         go_wp2_with (first | ((with_reducible refine Sh.k 19 ?_); refine Sh.gD (some 23) Try.func19 #[.int .i64 a0, .int .i64 3, .int .i64 12] (spec_l1In.calls a0 3 12 false _ A8.out) fun nd => ?_) | ((with_reducible refine Sh.k 19 ?_); refine Sh.gD (some 26) Try.func19 #[.int .i64 a0, .int .i64 14, .int .i64 16] (spec_l1In.calls a0 14 16 true _ A10.out) fun nd => ?_))
         go_ret3
         exact ⟨Sh.es, Sh.dr⟩
        ·replace c11 := Bool.eq_false_iff.mpr c11
         subst c11
         rw [Sh.nf] at H
         by_cases c12 : a0 = 17
         ·rw [if_pos c12] at H
          have c12b0 : (a0 == 17) = true := beq_iff_eq.mpr c12
          have c12b1 : (a0 != 17) = false := bne_eq_false_iff_eq.mpr c12
          clear c12
          simp only [Option.some.injEq, Prod.mk.injEq] at H
          obtain ⟨rfl, rfl, rfl⟩ := H
          go_wp2_with (first | ((with_reducible refine Sh.k 19 ?_); refine Sh.gD (some 23) Try.func19 #[.int .i64 a0, .int .i64 3, .int .i64 12] (spec_l1In.calls a0 3 12 false _ A8.out) fun nd => ?_) | ((with_reducible refine Sh.k 19 ?_); refine Sh.gD (some 26) Try.func19 #[.int .i64 a0, .int .i64 14, .int .i64 16] (spec_l1In.calls a0 14 16 false _ A10.out) fun nd => ?_))
          go_ret3
          exact ⟨Sh.es, Sh.dr⟩
         ·rw [if_neg c12] at H
          have c12b0 : (a0 == 17) = false := beq_eq_false_iff_ne.mpr c12
          have c12b1 : (a0 != 17) = true := bne_iff_ne.mpr c12
          by_cases c13 : a0 = 18
          ·rw [if_pos c13] at H
           have c13b0 : (a0 == 18) = true := beq_iff_eq.mpr c13
           have c13b1 : (a0 != 18) = false := bne_eq_false_iff_eq.mpr c13
           clear c13
           simp only [Option.some.injEq, Prod.mk.injEq] at H
           obtain ⟨rfl, rfl, rfl⟩ := H
           go_wp2_with (first | ((with_reducible refine Sh.k 19 ?_); refine Sh.gD (some 23) Try.func19 #[.int .i64 a0, .int .i64 3, .int .i64 12] (spec_l1In.calls a0 3 12 false _ A8.out) fun nd => ?_) | ((with_reducible refine Sh.k 19 ?_); refine Sh.gD (some 26) Try.func19 #[.int .i64 a0, .int .i64 14, .int .i64 16] (spec_l1In.calls a0 14 16 false _ A10.out) fun nd => ?_))
           go_ret3
           exact ⟨Sh.es, Sh.dr⟩
          ·rw [if_neg c13] at H
           have c13b0 : (a0 == 18) = false := beq_eq_false_iff_ne.mpr c13
           have c13b1 : (a0 != 18) = true := bne_iff_ne.mpr c13
           simp only [Option.some.injEq, Prod.mk.injEq] at H
           obtain ⟨rfl, rfl, rfl⟩ := H
           go_wp2_with (first | ((with_reducible refine Sh.k 19 ?_); refine Sh.gD (some 23) Try.func19 #[.int .i64 a0, .int .i64 3, .int .i64 12] (spec_l1In.calls a0 3 12 false _ A8.out) fun nd => ?_) | ((with_reducible refine Sh.k 19 ?_); refine Sh.gD (some 26) Try.func19 #[.int .i64 a0, .int .i64 14, .int .i64 16] (spec_l1In.calls a0 14 16 false _ A10.out) fun nd => ?_))
           go_ret3
           exact ⟨Sh.es, Sh.dr⟩
def spec_l1Cut.l0 : Nat → Int → Int → Int → Int → Option (Int)
 | 0, _, _, _, _ => none
 | k + 1, x0, x1, x5, x6 => if x6 < x0 then (if 0 ≤ (IntKind.u64.wrap (x6)) then (spec_l1Cut.l0 k x0 x1 (Go.bits .or .u64 x5 (Go.bits .and .u64 x1 (shl .u64 1 (IntKind.u64.wrap (x6))))) (wrap64 (x6 + 1))) else (none)) else (some x5)
def spec_l1Cut.f (k : Nat) (a0 : Int) (a1 : Int) : Option (Int) := spec_l1Cut.l0 k a0 a1 0 0
theorem spec_l1Cut.mono_l : ∀ k, (∀ y0 y1 y2 y3, LeO (spec_l1Cut.l0 k y0 y1 y2 y3) (spec_l1Cut.l0 (k + 1) y0 y1 y2 y3))
 | 0 => fun _ _ _ _ r h => by simp [spec_l1Cut.l0] at h
 | k + 1 => by
  have ih0 := spec_l1Cut.mono_l k
  ·intro y0 y1 y2 y3
   unfold spec_l1Cut.l0
   repeat' with_reducible first | apply ih0 | exact LeO.refl _ | exact LeO.none _ | apply LeO.ite | refine LeO.bind ?_ fun _ => ?_
theorem spec_l1Cut.mono : ∀ a0 a1 k, LeO (spec_l1Cut.f k a0 a1) (spec_l1Cut.f (k + 1) a0 a1) := by
 intro a0 a1 k
 have ih0 := spec_l1Cut.mono_l k
 unfold spec_l1Cut.f
 repeat' with_reducible first | apply ih0 | exact LeO.refl _ | exact LeO.none _ | apply LeO.ite | refine LeO.bind ?_ fun _ => ?_
theorem spec_l1Cut.calls (k : Nat) (a0 : Int) (a1 : Int) (r : Int) (w : World) (h : spec_l1Cut.f k a0 a1 = some r) :
  Calls Try.prog 93 #[.int .i64 a0, .int .u64 a1] w fun e w' => e = .returned (.int .u64 r) ∧ Drawn0 w w' := by
 have H := h
 clear h
 unfold spec_l1Cut.f at H
 have H' := am_ H
 clear H
 go_enter Try.func93, Try.ntmps93
 go_wp2
 go_loopg [5, 6] k (fun kq v5 v6 w' => ∃ (x5_1 : Int) (x6_1 : Int), v5 = .int .u64 x5_1 ∧ v6 = .int .i64 x6_1 ∧ Aside0 (spec_l1Cut.l0 kq a0 a1 x5_1 x6_1 = some r) ∧ Aside0 (kq ≤ k) ∧ Drawn0 w w')
 case atStart => exact ⟨(0), (0), (Sh.es), (Sh.es), H', ⟨Nat.le_refl _⟩, Sh.dr⟩
 case round =>
  clear H'
  obtain ⟨x5_1, x6_1, rfl, rfl, HA, HK1, ⟨m1, rfl⟩⟩ := hrel
  cases gk with
  | zero => exact absurd HA.out (by simp [spec_l1Cut.l0])
  | succ k1 =>
   have H := HA.out
   clear HA
   simp only [spec_l1Cut.l0] at H
   by_cases c3 : x6_1 < a0
   ·rw [if_pos c3] at H
    have c3b0 := decide_eq_true c3
    clear c3
    obtain ⟨ji4, hj1⟩ : ∃ j_ : Int, (IntKind.u64.wrap (x6_1)) = j_ := ⟨_, rfl⟩
    replace H : (if 0 ≤ (ji4) then (spec_l1Cut.l0 k1 a0 a1 (Go.bits .or .u64 x5_1 (Go.bits .and .u64 a1 (shl .u64 1 (ji4)))) (wrap64 (x6_1 + 1))) else (none)) = some r := by first | (rw [hj1] at H; exact H) | (simp only [hj1] at H ⊢; exact H)
    by_cases c5 : 0 ≤ (ji4)
    ·rw [if_pos c5] at H
     have c5b0 := eq_true c5
     have c5b1 := decide_eq_true c5
     clear c5
     obtain ⟨ji6, hj2⟩ : ∃ j_ : Int, (shl .u64 1 (ji4)) = j_ := ⟨_, rfl⟩
     replace H : (spec_l1Cut.l0 k1 a0 a1 (Go.bits .or .u64 x5_1 (Go.bits .and .u64 a1 (ji6))) (wrap64 (x6_1 + 1))) = some r := by first | (rw [hj2] at H; exact H) | (simp only [hj2] at H ⊢; exact H)
     have hji6_ : (IntKind.u64.wrap (1 * 2 ^ min (ji4).toNat 64)) = ji6 := hj2
     have hji6z : (ji4) ≤ 64 → (IntKind.u64.wrap (1 * 2 ^ (ji4).toNat)) = ji6 := shl_small hj2
     have hji6u : (IntKind.u64.wrap (2 ^ min (ji4).toNat 64)) = ji6 := by have h_ := hji6_; rw [Int.one_mul] at h_; exact h_
     have hji6v : (ji4) ≤ 64 → (IntKind.u64.wrap (2 ^ (ji4).toNat)) = ji6 := fun hle_ => by have h_ := hji6z hle_; rw [Int.one_mul] at h_; exact h_
     have H' := am_ H
     clear H
     go_wp2
     go_roundg k1
     case measure => have := HK1.out; omega
     case rel => exact ⟨(Go.bits .or .u64 x5_1 (Go.bits .and .u64 a1 (ji6))), (wrap64 (x6_1 + 1)), (by first | rfl | (simp; done) | (simp only [← hj2] <;> (first | rfl | simp)) | (simp [*]; done)), (Sh.es), H', ⟨by have := HK1.out; omega⟩, Sh.dr⟩
    ·rw [if_neg c5] at H
     exact absurd H (by simp)
   ·rw [if_neg c3] at H
    have c3b0 := decide_eq_false c3
    clear c3
    obtain rfl := Option.some.inj H
    go_wp2
    go_ret
    exact ⟨Sh.es, Sh.dr⟩
def spec_GoodWord.f (k : Nat) (a0 : Int) (a1 : Int) : Option (Bool) := (spec_l1Wide.f a0).bind fun t192 => (if t192 = true then ((spec_l1Cut.f k a0 a1).bind fun t193 => (some (t193 == a1))) else (some false))
theorem spec_GoodWord.mono : ∀ a0 a1 k, LeO (spec_GoodWord.f k a0 a1) (spec_GoodWord.f (k + 1) a0 a1) := by
 intro a0 a1 k
 unfold spec_GoodWord.f
 repeat' with_reducible first | apply spec_l1Cut.mono | exact LeO.refl _ | exact LeO.none _ | apply LeO.ite | refine LeO.bind ?_ fun _ => ?_
theorem spec_GoodWord.calls (k : Nat) (a0 : Int) (a1 : Int) (r : Bool) (w : World) (h : spec_GoodWord.f k a0 a1 = some r) :
  Calls Try.prog 88 #[.int .i64 a0, .int .u64 a1] w fun e w' => e = .returned (.bool r) ∧ Drawn0 w w' := by
 have H := h
 clear h
 unfold spec_GoodWord.f at H
 obtain ⟨t192, A3, H⟩ := Sh.ba H
 by_cases c4 : t192 = true
 ·subst c4
  rw [if_pos rfl] at H
  obtain ⟨t193, A5, H⟩ := Sh.ba H
  obtain rfl := Option.some.inj H
  go_enter Try.func88, Try.ntmps88
  go_wp2_with (first | ((with_reducible refine Sh.k 75 ?_); refine Sh.gD (some 6) Try.func75 #[.int .i64 a0] (spec_l1Wide.calls a0 true _ A3.out) fun nd => ?_) | (go_at_call 93; (with_reducible refine (spec_l1Cut.calls k a0 a1 t193 _ A5.out).mono ?_); rintro e w' ⟨rfl, ⟨nd, rfl⟩⟩))
  go_ret
  exact ⟨Sh.es, Sh.dr⟩
 ·replace c4 := Bool.eq_false_iff.mpr c4
  subst c4
  rw [Sh.nf] at H
  obtain rfl := Option.some.inj H
  go_enter Try.func88, Try.ntmps88
  go_wp2_with (first | ((with_reducible refine Sh.k 75 ?_); refine Sh.gD (some 6) Try.func75 #[.int .i64 a0] (spec_l1Wide.calls a0 false _ A3.out) fun nd => ?_))
  go_ret
  exact ⟨Sh.es, Sh.dr⟩
def spec_l2N.f (k : Nat) (a0 : Int) (a1 : Int) (a2_0 : Int) (a2_1 : Int) : Option (Bool) := if a2_0 = 1 then ((spec_GoodWord.f k a0 a2_1).bind fun t195 => (some t195)) else (if a2_0 = 2 then (some (decide (a2_1 < (IntKind.u64.wrap (a1))))) else (if a2_0 = 20 then (some (decide (a2_1 < 2))) else (some (a2_1 == 0))))
theorem spec_l2N.mono : ∀ a0 a1 a2 a3 k, LeO (spec_l2N.f k a0 a1 a2 a3) (spec_l2N.f (k + 1) a0 a1 a2 a3) := by
 intro a0 a1 a2 a3 k
 unfold spec_l2N.f
 repeat' with_reducible first | apply spec_GoodWord.mono | exact LeO.refl _ | exact LeO.none _ | apply LeO.ite | refine LeO.bind ?_ fun _ => ?_
theorem spec_l2N.calls (k : Nat) (a0 : Int) (a1 : Int) (a2_0 : Int) (a2_1 : Int) (r : Bool) (w : World) (h : spec_l2N.f k a0 a1 a2_0 a2_1 = some r) :
  Calls Try.prog 77 #[.int .i64 a0, .int .i64 a1, .agg #[.int .i64 a2_0, .int .u64 a2_1]] w fun e w' => e = .returned (.bool r) ∧ Below w.heap.size w w' := by
 have hu73 := Try.underlying73
 have HB := am_ (Below.refl w.heap.size w)
 have H := h
 clear h
 unfold spec_l2N.f at H
 by_cases c4 : a2_0 = 1
 ·rw [if_pos c4] at H
  have c4b0 : (a2_0 == 1) = true := beq_iff_eq.mpr c4
  have c4b1 : (a2_0 != 1) = false := bne_eq_false_iff_eq.mpr c4
  clear c4
  obtain ⟨t195, A5, H⟩ := Sh.ba H
  obtain rfl := Option.some.inj H
  go_enter Try.func77, Try.ntmps77
  go_wp2_with (first | ((with_reducible refine Sh.d 5 ?_); refine Sh.bz w (N := 5) (cs := #[.int .i64 a2_0, .int .u64 a2_1]) (t := 73) (h := ?_); clear HB; intro gb194 w6 BK194 GE194 HB; obtain ⟨hcz7_0, hcz7_1, hfz7_0, hfz7_1⟩ := Sh.b2 BK194.out) | ((with_reducible refine Sh.k 88 ?_); refine Sh.gD (some 14) Try.func88 #[.int .i64 a0, .int .u64 a2_1] (spec_GoodWord.calls k a0 a2_1 t195 _ A5.out) fun nd => ?_))
  go_ret
  exact ⟨Sh.eR, Sh.bw⟩
 ·rw [if_neg c4] at H
  have c4b0 : (a2_0 == 1) = false := beq_eq_false_iff_ne.mpr c4
  have c4b1 : (a2_0 != 1) = true := bne_iff_ne.mpr c4
  by_cases c8 : a2_0 = 2
  ·rw [if_pos c8] at H
   have c8b0 : (a2_0 == 2) = true := beq_iff_eq.mpr c8
   have c8b1 : (a2_0 != 2) = false := bne_eq_false_iff_eq.mpr c8
   clear c8
   obtain rfl := Option.some.inj H
   go_enter Try.func77, Try.ntmps77
   go_wp2_with (first | ((with_reducible refine Sh.d 5 ?_); refine Sh.bz w (N := 5) (cs := #[.int .i64 a2_0, .int .u64 a2_1]) (t := 73) (h := ?_); clear HB; intro gb194 w9 BK194 GE194 HB; obtain ⟨hcz10_0, hcz10_1, hfz10_0, hfz10_1⟩ := Sh.b2 BK194.out))
   go_ret
   exact ⟨Sh.eR, Sh.bw⟩
  ·rw [if_neg c8] at H
   have c8b0 : (a2_0 == 2) = false := beq_eq_false_iff_ne.mpr c8
   have c8b1 : (a2_0 != 2) = true := bne_iff_ne.mpr c8
   by_cases c11 : a2_0 = 20
   ·rw [if_pos c11] at H
    have c11b0 : (a2_0 == 20) = true := beq_iff_eq.mpr c11
    have c11b1 : (a2_0 != 20) = false := bne_eq_false_iff_eq.mpr c11
    clear c11
    obtain rfl := Option.some.inj H
    go_enter Try.func77, Try.ntmps77
    go_wp2_with (first | ((with_reducible refine Sh.d 5 ?_); refine Sh.bz w (N := 5) (cs := #[.int .i64 a2_0, .int .u64 a2_1]) (t := 73) (h := ?_); clear HB; intro gb194 w12 BK194 GE194 HB; obtain ⟨hcz13_0, hcz13_1, hfz13_0, hfz13_1⟩ := Sh.b2 BK194.out))
    go_ret
    exact ⟨Sh.eR, Sh.bw⟩
   ·rw [if_neg c11] at H
    have c11b0 : (a2_0 == 20) = false := beq_eq_false_iff_ne.mpr c11
    have c11b1 : (a2_0 != 20) = true := bne_iff_ne.mpr c11
    obtain rfl := Option.some.inj H
    go_enter Try.func77, Try.ntmps77
    go_wp2_with (first | ((with_reducible refine Sh.d 5 ?_); refine Sh.bz w (N := 5) (cs := #[.int .i64 a2_0, .int .u64 a2_1]) (t := 73) (h := ?_); clear HB; intro gb194 w14 BK194 GE194 HB; obtain ⟨hcz15_0, hcz15_1, hfz15_0, hfz15_1⟩ := Sh.b2 BK194.out))
    go_ret
    exact ⟨Sh.eR, Sh.bw⟩
mutual
def spec_l2Kind.j0 : Nat → Int → Int → List (S73) → Bool → Option (Int)
 | 0, _, _, _, _ => none
 | k + 1, x0, x1, x2, x26 => if x26 = true then (some 0) else (spec_l2Kind.l0 k x0 x1 ([] : List Int) x2 (x2.length : Int) 0)
def spec_l2Kind.l0 : Nat → Int → Int → List Int → List (S73) → Int → Int → Option (Int)
 | 0, _, _, _, _, _, _ => none
 | k + 1, x0, x1, x7, x27, x28, x29 => if x29 < x28 then (if 0 ≤ x29 then (if x29 < (x27.length : Int) then ((spec_l2Need.f k ((rd_T73 x27 x29).f0)).bind fun bt202 => (if bt202.2.2 = 0 then (spec_l2Kind.j2 k x0 x1 x7 bt202.1 bt202.2.1 bt202.2.2 x27 x28 x29 true) else ((spec_l2N.f k x0 x1 ((rd_T73 x27 x29).f0) ((rd_T73 x27 x29).f1)).bind fun t205 => (if t205 = true then (spec_l2Kind.j2 k x0 x1 x7 bt202.1 bt202.2.1 bt202.2.2 x27 x28 x29 (decide ((x7.length : Int) < bt202.1))) else (spec_l2Kind.j2 k x0 x1 x7 bt202.1 bt202.2.1 bt202.2.2 x27 x28 x29 true))))) else (none)) else (none)) else (if (x7.length : Int) = 1 then (if 0 < (x7.length : Int) then (some (rd x7 0)) else (none)) else (some 0))
def spec_l2Kind.j2 : Nat → Int → Int → List Int → Int → Int → Int → List (S73) → Int → Int → Bool → Option (Int)
 | 0, _, _, _, _, _, _, _, _, _, _ => none
 | k + 1, x0, x1, x7, x10, x11, x12, x27, x28, x29, x54 => if x54 = true then (some 0) else (spec_l2Kind.l1 k x0 x1 x7 x10 x11 x12 x27 x28 x29)
def spec_l2Kind.l1 : Nat → Int → Int → List Int → Int → Int → Int → List (S73) → Int → Int → Option (Int)
 | 0, _, _, _, _, _, _, _, _, _ => none
 | k + 1, x0, x1, x7, x10, x11, x12, x27, x28, x29 => if x10 > 0 then (if 0 ≤ (wrap64 ((x7.length : Int) - 1)) then (if (wrap64 ((x7.length : Int) - 1)) < (x7.length : Int) then (if (rd x7 (wrap64 ((x7.length : Int) - 1))) = x11 then (if (wrap64 ((x7.length : Int) - 1)) ≤ (x7.length : Int) then (spec_l2Kind.l1 k x0 x1 (x7.take ((wrap64 ((x7.length : Int) - 1)) : Int).toNat) (wrap64 (x10 - 1)) x11 x12 x27 x28 x29) else (none)) else (some 0)) else (none)) else (none)) else (if x7.length < 17592186044416 then (spec_l2Kind.l0 k x0 x1 (x7 ++ [x12]) x27 x28 (wrap64 (x29 + 1))) else (none))
end
def spec_l2Kind.f (k : Nat) (a0 : Int) (a1 : Int) (l2 : List (S73)) : Option (Int) := (spec_l1Wide.f a0).bind fun t196 => (if t196 = true then ((spec_l1In.f a1 1 4).bind fun t197 => (if t197 = true then ((spec_l1In.f (l2.length : Int) 1 48).bind fun t198 => (spec_l2Kind.j0 k a0 a1 l2 (!t198))) else (spec_l2Kind.j0 k a0 a1 l2 true))) else (spec_l2Kind.j0 k a0 a1 l2 true))
theorem spec_l2Kind.mono_l : ∀ k, (∀ y0 y1 y2 y3, LeO (spec_l2Kind.j0 k y0 y1 y2 y3) (spec_l2Kind.j0 (k + 1) y0 y1 y2 y3)) ∧ (∀ y0 y1 y2 y3 y4 y5, LeO (spec_l2Kind.l0 k y0 y1 y2 y3 y4 y5) (spec_l2Kind.l0 (k + 1) y0 y1 y2 y3 y4 y5)) ∧ (∀ y0 y1 y2 y3 y4 y5 y6 y7 y8 y9, LeO (spec_l2Kind.j2 k y0 y1 y2 y3 y4 y5 y6 y7 y8 y9) (spec_l2Kind.j2 (k + 1) y0 y1 y2 y3 y4 y5 y6 y7 y8 y9)) ∧ (∀ y0 y1 y2 y3 y4 y5 y6 y7 y8, LeO (spec_l2Kind.l1 k y0 y1 y2 y3 y4 y5 y6 y7 y8) (spec_l2Kind.l1 (k + 1) y0 y1 y2 y3 y4 y5 y6 y7 y8))
 | 0 => ⟨fun _ _ _ _ r h => by simp [spec_l2Kind.j0] at h, fun _ _ _ _ _ _ r h => by simp [spec_l2Kind.l0] at h, fun _ _ _ _ _ _ _ _ _ _ r h => by simp [spec_l2Kind.j2] at h, fun _ _ _ _ _ _ _ _ _ r h => by simp [spec_l2Kind.l1] at h⟩
 | k + 1 => by
  obtain ⟨ih0, ih1, ih2, ih3⟩ := spec_l2Kind.mono_l k
  and_intros <;> intros
  all_goals (first | unfold spec_l2Kind.j0 | unfold spec_l2Kind.l0 | unfold spec_l2Kind.j2 | unfold spec_l2Kind.l1)
  all_goals repeat' with_reducible first | apply ih0 | apply ih1 | apply ih2 | apply ih3 | apply spec_l2N.mono | apply spec_l2Need.mono | exact LeO.refl _ | exact LeO.none _ | apply LeO.ite | refine LeO.bind ?_ fun _ => ?_
theorem spec_l2Kind.mono : ∀ a0 a1 a2 k, LeO (spec_l2Kind.f k a0 a1 a2) (spec_l2Kind.f (k + 1) a0 a1 a2) := by
 intro a0 a1 a2 k
 obtain ⟨ih0, ih1, ih2, ih3⟩ := spec_l2Kind.mono_l k
 unfold spec_l2Kind.f
 repeat' with_reducible first | apply ih0 | apply ih1 | apply ih2 | apply ih3 | apply spec_l2N.mono | apply spec_l2Need.mono | exact LeO.refl _ | exact LeO.none _ | apply LeO.ite | refine LeO.bind ?_ fun _ => ?_
theorem spec_l2Kind.calls (k : Nat) (a0 : Int) (a1 : Int) (A2 : Option Addr) (c2 : Nat) (l2 : List (S73)) (r : Int) (w : World) (hr2 : Kd.C k73 w A2 l2.length l2) (hc2 : l2.length ≤ c2) (h : spec_l2Kind.f k a0 a1 l2 = some r) :
  Calls Try.prog 58 #[.int .i64 a0, .int .i64 a1, .slice A2 l2.length c2] w fun e w' => e = .returned (.int .i64 r) ∧ Below w.heap.size w w' := by
 have hu73 := Try.underlying73
 have HR2 := am_ hr2
 have HC2 := am_ hc2
 clear hr2 hc2
 have HB := am_ (Below.refl w.heap.size w)
 have H := h
 clear h
 unfold spec_l2Kind.f at H
 have HC4 := am_ H
 clear H
 go_enter Try.func58, Try.ntmps58
 go_upto_region 1 with (fail)
 go_cut [26] (fun v26 wc => ∃ (kq : Nat) (x26_3 : Bool), v26 = .bool x26_3 ∧ Aside0 (spec_l2Kind.j0 kq a0 a1 l2 x26_3 = some r) ∧ Aside0 (kq ≤ k) ∧ Aside0 (Below w.heap.size w wc))
 case first =>
  have H := HC4.out
  clear HC4
  obtain ⟨t196, A5, H⟩ := Sh.ba H
  by_cases c6 : t196 = true
  ·subst c6
   rw [if_pos rfl] at H
   obtain ⟨t197, A7, H⟩ := Sh.ba H
   by_cases c8 : t197 = true
   ·subst c8
    rw [if_pos rfl] at H
    obtain ⟨t198, A9, H⟩ := Sh.ba H
    have H' := am_ H
    clear H
    go_wp2_with (first | ((with_reducible refine Sh.k 75 ?_); refine Sh.gD (some 14) Try.func75 #[.int .i64 a0] (spec_l1Wide.calls a0 true _ A5.out) fun nd => ?_) | (go_at_call 19; (with_reducible refine (spec_l1In.calls a1 1 4 true _ A7.out).mono ?_); rintro e w' ⟨rfl, ⟨nd, rfl⟩⟩) | (go_at_call 19; (with_reducible refine (spec_l1In.calls (l2.length : Int) 1 48 t198 _ A9.out).mono ?_); rintro e w' ⟨rfl, ⟨nd, rfl⟩⟩))
    go_meet
    case rel => exact ⟨_, (!t198), (Sh.es), H', ⟨Sh.om⟩, ⟨Sh.bw⟩⟩
   ·replace c8 := Bool.eq_false_iff.mpr c8
    subst c8
    rw [Sh.nf] at H
    have H' := am_ H
    clear H
    go_wp2_with (first | ((with_reducible refine Sh.k 75 ?_); refine Sh.gD (some 14) Try.func75 #[.int .i64 a0] (spec_l1Wide.calls a0 true _ A5.out) fun nd => ?_) | (go_at_call 19; (with_reducible refine (spec_l1In.calls a1 1 4 false _ A7.out).mono ?_); rintro e w' ⟨rfl, ⟨nd, rfl⟩⟩))
    go_meet
    case rel => exact ⟨_, (true), (Sh.es), H', ⟨Sh.om⟩, ⟨Sh.bw⟩⟩
  ·replace c6 := Bool.eq_false_iff.mpr c6
   subst c6
   rw [Sh.nf] at H
   have H' := am_ H
   clear H
   go_wp2_with (first | ((with_reducible refine Sh.k 75 ?_); refine Sh.gD (some 14) Try.func75 #[.int .i64 a0] (spec_l1Wide.calls a0 false _ A5.out) fun nd => ?_))
   go_meet
   case rel => exact ⟨_, (true), (Sh.es), H', ⟨Sh.om⟩, ⟨Sh.bw⟩⟩
 case rest =>
  clear HC4
  obtain ⟨kq, x26_3, rfl, HA, HJ3, HB⟩ := hcut
  cases kq with
  | zero => exact absurd HA.out (by simp [spec_l2Kind.j0])
  | succ kj3 =>
   have H := HA.out
   clear HA
   simp only [spec_l2Kind.j0] at H
   by_cases c10 : x26_3 = true
   ·subst c10
    rw [if_pos rfl] at H
    obtain rfl := Option.some.inj H
    go_wp2
    go_ret
    exact ⟨Sh.eR, Sh.bw⟩
   ·replace c10 := Bool.eq_false_iff.mpr c10
    subst c10
    rw [Sh.nf] at H
    have H' := am_ H
    clear H
    go_wp2
    go_loopg [7, 29] kj3 (fun kq v7 v29 w' => ∃ (x7_2 : List Int) (x29_2 : Int), v29 = .int .i64 x29_2 ∧ Aside0 (spec_l2Kind.l0 kq a0 a1 x7_2 l2 (l2.length : Int) x29_2 = some r) ∧ Aside0 (kq ≤ kj3) ∧ Aside0 (Kd.R (Kd.int .i64) 3 w' w.heap.size (fun _ => True) v7 x7_2) ∧ Aside0 (Below w.heap.size w w'))
    case atStart => exact ⟨(([] : List Int)), (0), (Sh.es), H', ⟨Nat.le_refl _⟩, ⟨by first | exact Kd.R_nil _ _ _ _ _ | exact Kd.N_nil _ _ _ _ _ | exact Kd.V_nil _ _ _ _ _ | exact Kd.Q_nil _ _ _ _ _ | exact Kd.S_nil _ _ _ _ _⟩, ⟨Sh.bw⟩⟩
    case round =>
     clear H'
     obtain ⟨x7_2, x29_2, rfl, HA, HK2, HO_7, HB⟩ := hrel
     cases gk with
     | zero => exact absurd HA.out (by simp [spec_l2Kind.l0])
     | succ k2 =>
      have H := HA.out
      clear HA
      simp only [spec_l2Kind.l0] at H
      by_cases c11 : x29_2 < (l2.length : Int)
      ·rw [if_pos c11] at H
       have c11b0 := decide_eq_true c11
       clear c11
       by_cases c12 : 0 ≤ x29_2
       ·rw [if_pos c12] at H
        have c12b0 := decide_eq_true c12
        clear c12
        by_cases c13 : x29_2 < (l2.length : Int)
        ·rw [if_pos c13] at H
         have c13b0 := decide_eq_true c13
         clear c13
         obtain ⟨⟨t202, t203, t204⟩, A140, H⟩ := Sh.bd H
         have A14 := am_ A140
         clear A140
         have HC15 := am_ H
         clear H
         have p200 : 0 ≤ (x29_2 : Int) := Sh.od
         have q200 : x29_2 < (l2.length : Int) := Sh.od
         obtain ⟨ad200, e200, hx200_0, hx200_1⟩ := at_T73 HR2.out x29_2 p200 q200
         cases e200
         try replace hx200_0 := Sh.cw hx200_0
         try replace hx200_1 := Sh.cw hx200_1
         replace p200 := eq_true p200
         replace q200 := eq_true q200
         go_upto_region 8 with (first | ((with_reducible refine Sh.d 9 ?_); (try (refine gate_guard (by rfl) ?_; dsimp only)); refine Sh.bx (N := 9) (cs := #[.int .i64 0, .int .u64 0]) (t := 73) (h := ?_); intro gb201 hg w16 hbox hb; replace HO_7 := am_ (Kd.R_below (Sh.rl HO_7.out) hb); have BK201 := am_ hbox; have GE201 := Sh.ag w hg; replace HB := Sh.hb hb; clear hb hbox hg; obtain ⟨hcz17_0, hcz17_1, hfz17_0, hfz17_1⟩ := Sh.b2 BK201.out) | ((with_reducible refine Sh.k 76 ?_); refine Sh.gD (some 36) Try.func76 #[.int .i64 ((rd_T73 l2 x29_2).f0)] (spec_l2Need.calls k2 ((rd_T73 l2 x29_2).f0) t202 t203 t204 _ A14.out) fun nd => ?_))
         (try simp only [Act.put, List.setIfInBounds_toArray, List.set_cons_zero, List.set_cons_succ])
         go_cut [54] (fun v54 wc => ∃ (kq : Nat) (x54_14 : Bool), v54 = .bool x54_14 ∧ Aside0 (spec_l2Kind.j2 kq a0 a1 x7_2 t202 t203 t204 l2 (l2.length : Int) x29_2 x54_14 = some r) ∧ Aside0 (kq ≤ k2) ∧ Aside0 (Kd.R (Kd.int .i64) 3 wc w.heap.size (fun _ => True) u7 x7_2) ∧ Aside0 (wc.heap[gb201]? = some (.cells #[.int .i64 ((rd_T73 l2 x29_2).f0), .int .u64 ((rd_T73 l2 x29_2).f1)] 73 (0, 0))) ∧ Aside0 (Below w.heap.size w wc))
         case first =>
          have H := HC15.out
          clear HC15
          by_cases c18 : t204 = 0
          ·rw [if_pos c18] at H
           have c18b0 : (t204 == 0) = true := beq_iff_eq.mpr c18
           have c18b1 : (t204 != 0) = false := bne_eq_false_iff_eq.mpr c18
           clear c18
           first | rw [c18b0] | (simp only [i64_w, i32_w]; rw [c18b0]) | skip
           have H' := am_ H
           clear H
           go_wp2
           go_meet
           case rel => exact ⟨_, (true), (Sh.es), H', ⟨by have := HJ3.out; have := HK2.out; first | omega | exact Nat.le_refl _⟩, ⟨Sh.rl (Kd.R_mono (Kd.R_far (p := ⟨gb201, 1, none⟩) (Kd.R_far (p := ⟨gb201, 0, none⟩) (Kd.R_types HO_7.out BK201.out (by decide)) (fun _ hk => hk.2) (.int .i64 ((rd_T73 l2 x29_2).f0))) (fun _ hk => hk.2) (.int .u64 ((rd_T73 l2 x29_2).f1))) (fun _ hk => trivial))⟩, ⟨by refine Sh.pl ?_; refine blk_put (cs := #[.int .i64 ((rd_T73 l2 x29_2).f0), .int .u64 0]) ?_ 1 _ rfl; refine Sh.pl ?_; refine blk_put (cs := #[.int .i64 0, .int .u64 0]) ?_ 0 _ rfl; refine Sh.pl ?_; exact BK201.out⟩, ⟨Sh.bw⟩⟩
          ·rw [if_neg c18] at H
           have c18b0 : (t204 == 0) = false := beq_eq_false_iff_ne.mpr c18
           have c18b1 : (t204 != 0) = true := bne_iff_ne.mpr c18
           first | rw [c18b0] | (simp only [i64_w, i32_w]; rw [c18b0]) | skip
           obtain ⟨t205, A19, H⟩ := Sh.ba H
           by_cases c20 : t205 = true
           ·subst c20
            rw [if_pos rfl] at H
            have H' := am_ H
            clear H
            have hcz21_0 := Sh.bc BK201.out 0
            have hcz21_1 := Sh.bc BK201.out 1
            have hfz21_0 := blk_frozen BK201.out 0
            have hfz21_1 := blk_frozen BK201.out 1
            go_wp2_with (first | (go_at_call 77; (with_reducible refine (spec_l2N.calls k2 a0 a1 ((rd_T73 l2 x29_2).f0) ((rd_T73 l2 x29_2).f1) true _ A19.out).mono ?_); rintro e w22 ⟨rfl, hb⟩; have n0_ := am_ (Kd.R_below (Sh.rl (Kd.R_mono (Kd.R_far (p := ⟨gb201, 1, none⟩) (Kd.R_far (p := ⟨gb201, 0, none⟩) (Kd.R_types HO_7.out BK201.out (by decide)) (fun _ hk => hk.2) (.int .i64 ((rd_T73 l2 x29_2).f0))) (fun _ hk => hk.2) (.int .u64 ((rd_T73 l2 x29_2).f1))) (fun _ h_ => h_.1))) hb); have n1_ := am_ (blk_below (g := gb201) (o := .cells #[.int .i64 ((rd_T73 l2 x29_2).f0), .int .u64 ((rd_T73 l2 x29_2).f1)] 73 (0, 0)) (by refine Sh.pl ?_; refine blk_put (cs := #[.int .i64 ((rd_T73 l2 x29_2).f0), .int .u64 0]) ?_ 1 _ rfl; refine Sh.pl ?_; refine blk_put (cs := #[.int .i64 0, .int .u64 0]) ?_ 0 _ rfl; refine Sh.pl ?_; exact BK201.out) hb); have n2_ := am_ (below_step Sh.bw hb); clear HO_7; clear BK201; clear HB; have HO_7 := n0_; have BK201 := n1_; have HB := n2_; clear n0_ n1_ n2_; (try clear hb); (try clear hb2); (try clear hk); (try clear hi); obtain ⟨Ao23, co23, eo23⟩ := Kd.R_slice HO_7.out; subst eo23))
            go_meet
            case rel => exact ⟨_, (decide ((x7_2.length : Int) < t202)), (Sh.es), H', ⟨by have := HJ3.out; have := HK2.out; first | omega | exact Nat.le_refl _⟩, ⟨Sh.rl HO_7.out⟩, ⟨by refine Sh.pl ?_; exact BK201.out⟩, ⟨Sh.bw⟩⟩
           ·replace c20 := Bool.eq_false_iff.mpr c20
            subst c20
            rw [Sh.nf] at H
            have H' := am_ H
            clear H
            have hcz24_0 := Sh.bc BK201.out 0
            have hcz24_1 := Sh.bc BK201.out 1
            have hfz24_0 := blk_frozen BK201.out 0
            have hfz24_1 := blk_frozen BK201.out 1
            go_wp2_with (first | (go_at_call 77; (with_reducible refine (spec_l2N.calls k2 a0 a1 ((rd_T73 l2 x29_2).f0) ((rd_T73 l2 x29_2).f1) false _ A19.out).mono ?_); rintro e w25 ⟨rfl, hb⟩; have n0_ := am_ (Kd.R_below (Sh.rl (Kd.R_mono (Kd.R_far (p := ⟨gb201, 1, none⟩) (Kd.R_far (p := ⟨gb201, 0, none⟩) (Kd.R_types HO_7.out BK201.out (by decide)) (fun _ hk => hk.2) (.int .i64 ((rd_T73 l2 x29_2).f0))) (fun _ hk => hk.2) (.int .u64 ((rd_T73 l2 x29_2).f1))) (fun _ h_ => h_.1))) hb); have n1_ := am_ (blk_below (g := gb201) (o := .cells #[.int .i64 ((rd_T73 l2 x29_2).f0), .int .u64 ((rd_T73 l2 x29_2).f1)] 73 (0, 0)) (by refine Sh.pl ?_; refine blk_put (cs := #[.int .i64 ((rd_T73 l2 x29_2).f0), .int .u64 0]) ?_ 1 _ rfl; refine Sh.pl ?_; refine blk_put (cs := #[.int .i64 0, .int .u64 0]) ?_ 0 _ rfl; refine Sh.pl ?_; exact BK201.out) hb); have n2_ := am_ (below_step Sh.bw hb); clear HO_7; clear BK201; clear HB; have HO_7 := n0_; have BK201 := n1_; have HB := n2_; clear n0_ n1_ n2_; (try clear hb); (try clear hb2); (try clear hk); (try clear hi)))
            go_meet
            case rel => exact ⟨_, (true), (Sh.es), H', ⟨by have := HJ3.out; have := HK2.out; first | omega | exact Nat.le_refl _⟩, ⟨Sh.rl HO_7.out⟩, ⟨by refine Sh.pl ?_; exact BK201.out⟩, ⟨Sh.bw⟩⟩
         case rest =>
          clear HC15
          try clear hx2
          try clear hx20
          try clear hcz17_0
          try clear hcz17_1
          try clear hcz21_0
          try clear hcz21_1
          try clear hcz24_0
          try clear hcz24_1
          try clear hfz17_0
          try clear hfz17_1
          try clear hfz21_0
          try clear hfz21_1
          try clear hfz24_0
          try clear hfz24_1
          try clear hx200_0
          try clear hx200_1
          obtain ⟨kq, x54_14, rfl, HA, HJ14, HO_7, BK201, HB⟩ := hcut
          cases kq with
          | zero => exact absurd HA.out (by simp [spec_l2Kind.j2])
          | succ kj14 =>
           have H := HA.out
           clear HA
           simp only [spec_l2Kind.j2] at H
           by_cases c26 : x54_14 = true
           ·subst c26
            rw [if_pos rfl] at H
            obtain rfl := Option.some.inj H
            go_wp2
            go_ret
            exact ⟨Sh.eR, Sh.bw⟩
           ·replace c26 := Bool.eq_false_iff.mpr c26
            subst c26
            rw [Sh.nf] at H
            have H' := am_ H
            clear H
            go_wp2
            go_loopg [7, 10] kj14 (fun kq v7 v10 w' => ∃ (x7_4 : List Int) (x10_4 : Int), v10 = .int .i64 x10_4 ∧ Aside0 (spec_l2Kind.l1 kq a0 a1 x7_4 x10_4 t203 t204 l2 (l2.length : Int) x29_2 = some r) ∧ Aside0 (kq ≤ kj14) ∧ Aside0 (Kd.R (Kd.int .i64) 3 w' w.heap.size (fun _ => True) v7 x7_4) ∧ Aside0 (w'.heap[gb201]? = some (.cells #[.int .i64 ((rd_T73 l2 x29_2).f0), .int .u64 ((rd_T73 l2 x29_2).f1)] 73 (0, 0))) ∧ Aside0 (Below w.heap.size w w'))
            case atStart => exact ⟨(x7_2), (t202), (Sh.es), H', ⟨Nat.le_refl _⟩, ⟨Sh.rl HO_7.out⟩, ⟨by refine Sh.pl ?_; exact BK201.out⟩, ⟨Sh.bw⟩⟩
            case round =>
             clear H'
             try clear hx2
             try clear hx20
             try clear hcz17_0
             try clear hcz17_1
             try clear hcz21_0
             try clear hcz21_1
             try clear hcz24_0
             try clear hcz24_1
             try clear hfz17_0
             try clear hfz17_1
             try clear hfz21_0
             try clear hfz21_1
             try clear hfz24_0
             try clear hfz24_1
             try clear hx200_0
             try clear hx200_1
             obtain ⟨x7_4, x10_4, rfl, HA, HK4, HO_7, BK201, HB⟩ := hrel
             cases gk with
             | zero => exact absurd HA.out (by simp [spec_l2Kind.l1])
             | succ k4 =>
              have H := HA.out
              clear HA
              simp only [spec_l2Kind.l1] at H
              by_cases c27 : x10_4 > 0
              ·rw [if_pos c27] at H
               have c27b0 : decide (0 < x10_4) = true := decide_eq_true c27
               clear c27
               obtain ⟨ji28, hj1⟩ : ∃ j_ : Int, (wrap64 ((x7_4.length : Int) - 1)) = j_ := ⟨_, rfl⟩
               replace H : (if 0 ≤ (ji28) then (if (ji28) < (x7_4.length : Int) then (if (rd x7_4 (ji28)) = t203 then (if (ji28) ≤ (x7_4.length : Int) then (spec_l2Kind.l1 k4 a0 a1 (x7_4.take ((ji28) : Int).toNat) (wrap64 (x10_4 - 1)) t203 t204 l2 (l2.length : Int) x29_2) else (none)) else (some 0)) else (none)) else (none)) = some r := by first | (rw [hj1] at H; exact H) | (simp only [hj1] at H ⊢; exact H)
               have hji28w : (IntKind.i64.wrap ((x7_4.length : Int) - 1)) = ji28 := (i64_w _).trans hj1
               by_cases c29 : 0 ≤ (ji28)
               ·rw [if_pos c29] at H
                have c29b0 := decide_eq_true c29
                clear c29
                by_cases c30 : (ji28) < (x7_4.length : Int)
                ·rw [if_pos c30] at H
                 have c30b0 := decide_eq_true c30
                 clear c30
                 by_cases c31 : (rd x7_4 (ji28)) = t203
                 ·rw [if_pos c31] at H
                  have c31b0 : ((rd x7_4 (ji28)) == t203) = true := beq_iff_eq.mpr c31
                  have c31b1 : ((rd x7_4 (ji28)) != t203) = false := bne_eq_false_iff_eq.mpr c31
                  clear c31
                  by_cases c32 : (ji28) ≤ (x7_4.length : Int)
                  ·rw [if_pos c32] at H
                   have c32b0 := eq_true c32
                   have c32b1 := decide_eq_true c32
                   clear c32
                   obtain ⟨y207, hy207⟩ : ∃ y_ : List Int, y_ = (x7_4.take ((ji28) : Int).toNat) := ⟨_, rfl⟩
                   replace H : (spec_l2Kind.l1 k4 a0 a1 y207 (wrap64 (x10_4 - 1)) t203 t204 l2 (l2.length : Int) x29_2) = some r := by first | (rw [hy207]; with_reducible exact H) | (have H2_ := (Option.bind_some _ _).symm.trans H; rw [hy207]; with_reducible exact H2_) | (have H2_ := (Option.bind_some _ _).symm.trans H; with_reducible exact H2_) | with_reducible exact H | (rw [hy207]; exact H) | exact H
                   have Ny207 := am_ hy207
                   clear hy207
                   have H' := am_ H
                   clear H
                   obtain ⟨Ao33, co33, eo33⟩ := Kd.R_slice HO_7.out
                   subst eo33
                   have p206 : 0 ≤ ((ji28) : Int) := Sh.od
                   have q206 : (ji28) < (x7_4.length : Int) := Sh.od
                   obtain ⟨ad206, e206, hx206_0⟩ := Kd.at_int (Kd.R_reads' HO_7.out).2.2 (ji28) p206 q206
                   cases e206
                   replace p206 := eq_true p206
                   replace q206 := eq_true q206
                   have q34 : ((ji28) : Int) ≤ ((x7_4.length : Int) : Int) := Sh.od
                   obtain ⟨i034, hi034, _, hsz34, _⟩ := info_parts info3
                   have hcut34 := cut_to (P := Try.prog) 27 3 .i64 Try.underlying27 hi034 (some ad206) x7_4.length co33 (ji28) (of_decide_eq_true (by first | (with_reducible assumption) | assumption)) q34 (Kd.R_reads' HO_7.out).2.1
                   have hr34 := Kd.R_take (m := ((ji28) : Int).toNat) HO_7.out (by omega)
                   have hy34 : y207.length = ((ji28) : Int).toNat := (by rw [Ny207.out, List.length_take]; omega)
                   rw [← Ny207.out] at hr34
                   rw [← hy34] at hr34 hcut34
                   clear hy34 hi034 hsz34 HO_7
                   have HO209 := am_ hr34
                   clear hr34
                   replace q34 := eq_true q34
                   go_wp2
                   go_roundg k4
                   case measure => have := HJ3.out; have := HK2.out; have := HJ14.out; have := HK4.out; omega
                   case rel => exact ⟨(y207), (wrap64 (x10_4 - 1)), (Sh.es), H', ⟨by have := HJ3.out; have := HK2.out; have := HJ14.out; have := HK4.out; omega⟩, ⟨Sh.rl HO209.out⟩, ⟨by refine Sh.pl ?_; exact BK201.out⟩, ⟨Sh.bw⟩⟩
                  ·rw [if_neg c32] at H
                   exact absurd H (by simp)
                 ·rw [if_neg c31] at H
                  have c31b0 : ((rd x7_4 (ji28)) == t203) = false := beq_eq_false_iff_ne.mpr c31
                  have c31b1 : ((rd x7_4 (ji28)) != t203) = true := bne_iff_ne.mpr c31
                  obtain rfl := Option.some.inj H
                  obtain ⟨Ao35, co35, eo35⟩ := Kd.R_slice HO_7.out
                  subst eo35
                  have p206 : 0 ≤ ((ji28) : Int) := Sh.od
                  have q206 : (ji28) < (x7_4.length : Int) := Sh.od
                  obtain ⟨ad206, e206, hx206_0⟩ := Kd.at_int (Kd.R_reads' HO_7.out).2.2 (ji28) p206 q206
                  cases e206
                  replace p206 := eq_true p206
                  replace q206 := eq_true q206
                  go_wp2
                  go_ret
                  exact ⟨by first | rfl | (simp [errW_none, errW_some] <;> rfl) | (simp only [← hj1]; first | rfl | (simp [errW_none, errW_some] <;> rfl)) | (simp [*, errW_none, errW_some] <;> rfl), Sh.bw⟩
                ·rw [if_neg c30] at H
                 exact absurd H (by simp)
               ·rw [if_neg c29] at H
                exact absurd H (by simp)
              ·rw [if_neg c27] at H
               have c27b0 : decide (0 < x10_4) = false := decide_eq_false c27
               clear c27
               by_cases c36 : x7_4.length < 17592186044416
               ·rw [if_pos c36] at H
                have LMc36 := am_ c36
                clear c36
                obtain ⟨y210, hy210⟩ : ∃ y_ : List Int, y_ = (x7_4 ++ [t204]) := ⟨_, rfl⟩
                replace H : (spec_l2Kind.l0 k4 a0 a1 y210 l2 (l2.length : Int) (wrap64 (x29_2 + 1))) = some r := by first | (rw [hy210]; with_reducible exact H) | (have H2_ := (Option.bind_some _ _).symm.trans H; rw [hy210]; with_reducible exact H2_) | (have H2_ := (Option.bind_some _ _).symm.trans H; with_reducible exact H2_) | with_reducible exact H | (rw [hy210]; exact H) | exact H
                have Ny210 := am_ hy210
                clear hy210
                have H' := am_ H
                clear H
                go_wp2_with (first | ((with_reducible refine gate_builtin (b := .append) (xs := #[.tmp 72, .tmp 74]) rfl ?_); (try (refine gate_guard (by rfl) ?_; dsimp only)); at_builtin; refine Kd.R_append (Kd.int .i64) (w0 := w) w.heap.size rfl (.tmp 72) (.tmp 74) 27 3 (.int .i64 0) 8 rfl Try.underlying27 info3 rfl (by decide) (by omega) u7 x7_4 t204 [.int .i64 t204] (fun _ => True) (fun _ => False) rfl rfl ?aP (fun _ hk => hk.elim) ?aF ?aO ?aB ?aS ?aL ?_; (case aP => exact rfl); (case aB => exact Sh.bw); (case aF => exact (fun _ _ => trivial)); (case aO => exact (Sh.rl HO_7.out)); (case aS => exact (below_size Sh.bw)); (case aL => have := LMc36.out; omega); intro v211 w37 ho hb hg hat; rw [← Ny210.out] at ho; have n0_ := am_ (blk_grown (g := gb201) (o := .cells #[.int .i64 ((rd_T73 l2 x29_2).f0), .int .u64 ((rd_T73 l2 x29_2).f1)] 73 (0, 0)) (Sh.pl BK201.out) hg (Kd.R_ne HO_7.out BK201.out (by decide))); have n1_ := am_ hb; have n2_ := am_ ho; clear BK201; clear HB; clear HO_7; have BK201 := n0_; have HB := n1_; have HO212 := n2_; clear n0_ n1_ n2_; clear ho hb hg hat))
                go_roundg k4
                case measure => have := HJ3.out; have := HK2.out; have := HJ14.out; have := HK4.out; omega
                case rel => exact ⟨(y210), (wrap64 (x29_2 + 1)), (Sh.es), H', ⟨by have := HJ3.out; have := HK2.out; have := HJ14.out; have := HK4.out; omega⟩, ⟨Sh.rl HO212.out⟩, ⟨Sh.bw⟩⟩
               ·rw [if_neg c36] at H
                exact absurd H (by simp)
        ·rw [if_neg c13] at H
         exact absurd H (by simp)
       ·rw [if_neg c12] at H
        exact absurd H (by simp)
      ·rw [if_neg c11] at H
       have c11b0 := decide_eq_false c11
       clear c11
       by_cases c38 : (x7_2.length : Int) = 1
       ·rw [if_pos c38] at H
        have c38b0 : ((x7_2.length : Int) == 1) = true := beq_iff_eq.mpr c38
        have c38b1 : ((x7_2.length : Int) != 1) = false := bne_eq_false_iff_eq.mpr c38
        clear c38
        by_cases c39 : 0 < (x7_2.length : Int)
        ·rw [if_pos c39] at H
         have c39b0 := decide_eq_true c39
         have c39b1 : decide (0 < x7_2.length) = true := decide_eq_true (by omega)
         clear c39
         obtain rfl := Option.some.inj H
         obtain ⟨Ao40, co40, eo40⟩ := Kd.R_slice HO_7.out
         subst eo40
         have p199 : 0 ≤ (0 : Int) := (by omega)
         have q199 : 0 < (x7_2.length : Int) := Sh.od
         obtain ⟨ad199, e199, hx199_0⟩ := Kd.at_int (Kd.R_reads' HO_7.out).2.2 0 p199 q199
         cases e199
         have qi199 : (0 < x7_2.length) = True := eq_true (by omega)
         (try rw [show ((0 : Int)).toNat = 0 from rfl] at hx199_0)
         (try rw [Addr.add_zero'] at hx199_0)
         replace p199 := eq_true p199
         replace q199 := eq_true q199
         go_wp2
         go_ret
         exact ⟨Sh.eR, Sh.bw⟩
        ·rw [if_neg c39] at H
         exact absurd H (by simp)
       ·rw [if_neg c38] at H
        have c38b0 : ((x7_2.length : Int) == 1) = false := beq_eq_false_iff_ne.mpr c38
        have c38b1 : ((x7_2.length : Int) != 1) = true := bne_iff_ne.mpr c38
        obtain rfl := Option.some.inj H
        obtain ⟨Ao41, co41, eo41⟩ := Kd.R_slice HO_7.out
        subst eo41
        go_wp2
        go_ret
        exact ⟨Sh.eR, Sh.bw⟩
def spec_l7Asks.f (k : Nat) (a0_0 : Int) (a0_1 : Int) (l0_2 : List (S73)) (l0_3 : List (S50)) (l1 : List (S73)) : Option (Bool) := (spec_l2Kind.f k a0_0 a0_1 l1).bind fun t214 => (some (t214 == 2))
theorem spec_l7Asks.mono : ∀ a0 a1 a2 a3 a4 k, LeO (spec_l7Asks.f k a0 a1 a2 a3 a4) (spec_l7Asks.f (k + 1) a0 a1 a2 a3 a4) := by
 intro a0 a1 a2 a3 a4 k
 unfold spec_l7Asks.f
 repeat' with_reducible first | apply spec_l2Kind.mono | exact LeO.refl _ | exact LeO.none _ | apply LeO.ite | refine LeO.bind ?_ fun _ => ?_
theorem spec_l7Asks.calls (k : Nat) (a0_0 : Int) (a0_1 : Int) (A0_2 : Option Addr) (c0_2 : Nat) (l0_2 : List (S73)) (A0_3 : Option Addr) (c0_3 : Nat) (l0_3 : List (S50)) (A1 : Option Addr) (c1 : Nat) (l1 : List (S73)) (r : Bool) (w : World) (hr0_2 : Kd.C k73 w A0_2 l0_2.length l0_2) (hc0_2 : l0_2.length ≤ c0_2) (hr0_3 : Kd.C k50 w A0_3 l0_3.length l0_3) (hc0_3 : l0_3.length ≤ c0_3) (hr1 : Kd.C k73 w A1 l1.length l1) (hc1 : l1.length ≤ c1) (h : spec_l7Asks.f k a0_0 a0_1 l0_2 l0_3 l1 = some r) :
  Calls Try.prog 39 #[.agg #[.int .i64 a0_0, .int .i64 a0_1, .slice A0_2 l0_2.length c0_2, .slice A0_3 l0_3.length c0_3], .slice A1 l1.length c1] w fun e w' => e = .returned (.bool r) ∧ Below w.heap.size w w' := by
 have hu33 := Try.underlying33
 have HR0_2 := am_ hr0_2
 have HC0_2 := am_ hc0_2
 clear hr0_2 hc0_2
 have HR0_3 := am_ hr0_3
 have HC0_3 := am_ hc0_3
 clear hr0_3 hc0_3
 have HR1 := am_ hr1
 have HC1 := am_ hc1
 clear hr1 hc1
 have HB := am_ (Below.refl w.heap.size w)
 have H := h
 clear h
 unfold spec_l7Asks.f at H
 obtain ⟨t214, A3, H⟩ := Sh.ba H
 obtain rfl := Option.some.inj H
 go_enter Try.func39, Try.ntmps39
 go_wp2_with (first | ((with_reducible refine Sh.d 2 ?_); refine Sh.bz w (N := 2) (cs := #[.int .i64 a0_0, .int .i64 a0_1, .slice A0_2 l0_2.length c0_2, .slice A0_3 l0_3.length c0_3]) (t := 33) (h := ?_); clear HB; intro gb213 w4 BK213 GE213 HB; obtain ⟨hcz5_0, hcz5_1, hcz5_2, hcz5_3, hfz5_0, hfz5_1, hfz5_2, hfz5_3⟩ := Sh.b4 BK213.out) | ((with_reducible refine Sh.k 58 ?_); refine Sh.gB (some 10) Try.func58 #[.int .i64 a0_0, .int .i64 a0_1, .slice A1 l1.length c1] (spec_l2Kind.calls k a0_0 a0_1 _ _ l1 t214 _ (Sh.cB HR1.out) HC1.out A3.out) fun w6 hb => ?_; replace BK213 := Sh.ab BK213 hb; replace HB := Sh.hb hb; (try clear hb); (try clear hb2); (try clear hk); (try clear hi)))
 go_ret
 exact ⟨Sh.eR, Sh.bw⟩
end Go.Proofs.Ytjenmoopbmklfaa.P
