/- Go functions of this seat as Lean functions, and the proofs that the calls come to what these say; printed by a program of this session. No condition. -/
import Derived.Test.YtdbdibkiehldpaaP0
import Derived.Test.YtdbdibkiehldpaaMFnExactLeastLasso1
set_option linter.unusedVariables false
set_option linter.unusedSimpArgs false
set_option maxHeartbeats 40000000
set_option maxRecDepth 100000
namespace Go.Proofs.Ytdbdibkiehldpaa.P
open Go.RowKit Go.Proofs.YtdbdibkiehldpaaW.PrintWords Go.Proofs.YtdbdibkiehldpaaW.PrintLast Go.Proofs.YtdbdibkiehldpaaW.PrintMore Go.Proofs.Ytdbdibkiehldpaa.Hof
attribute [local go_sem] max2_int min2_int max_two min_two max_three min_three max_four min_four
def laws_eqIntS.l0 : Nat → List Int → List Int → Int → Option (Bool)
 | 0, _, _, _ => none
 | k + 1, x0, x1, x5 => if x5 < (x0.length : Int) then (if 0 ≤ x5 then (if x5 < (x1.length : Int) then (if (rd x0 x5) = (rd x1 x5) then (laws_eqIntS.l0 k x0 x1 (wrap64 (x5 + 1))) else (some false)) else (none)) else (none)) else (some true)
def laws_eqIntS.f (k : Nat) (l0 : List Int) (l1 : List Int) : Option (Bool) := if (l0.length : Int) = (l1.length : Int) then (laws_eqIntS.l0 k l0 l1 0) else (some false)
theorem laws_eqIntS.mono_l : ∀ k, (∀ y0 y1 y2, LeO (laws_eqIntS.l0 k y0 y1 y2) (laws_eqIntS.l0 (k + 1) y0 y1 y2))
 | 0 => fun _ _ _ r h => by simp [laws_eqIntS.l0] at h
 | k + 1 => by
  have ih0 := laws_eqIntS.mono_l k
  ·intro y0 y1 y2
   unfold laws_eqIntS.l0
   repeat' with_reducible first | apply ih0 | exact LeO.refl _ | exact LeO.none _ | apply LeO.ite | refine LeO.bind ?_ fun _ => ?_
theorem laws_eqIntS.mono : ∀ a0 a1 k, LeO (laws_eqIntS.f k a0 a1) (laws_eqIntS.f (k + 1) a0 a1) := by
 intro a0 a1 k
 have ih0 := laws_eqIntS.mono_l k
 unfold laws_eqIntS.f
 repeat' with_reducible first | apply ih0 | exact LeO.refl _ | exact LeO.none _ | apply LeO.ite | refine LeO.bind ?_ fun _ => ?_
theorem laws_eqIntS.calls (k : Nat) (A0 : Option Addr) (c0 : Nat) (l0 : List Int) (A1 : Option Addr) (c1 : Nat) (l1 : List Int) (r : Bool) (w : World) (hr0 : Kd.C (Kd.int .i64) w A0 l0.length l0) (hc0 : l0.length ≤ c0) (hr1 : Kd.C (Kd.int .i64) w A1 l1.length l1) (hc1 : l1.length ≤ c1) (h : laws_eqIntS.f k l0 l1 = some r) :
  Calls Try.prog 20 #[.slice A0 l0.length c0, .slice A1 l1.length c1] w fun e w' => e = .returned (.bool r) ∧ Drawn0 w w' := by
 have HR0 := am_ hr0
 have HC0 := am_ hc0
 clear hr0 hc0
 have HR1 := am_ hr1
 have HC1 := am_ hc1
 clear hr1 hc1
 have H := h
 clear h
 unfold laws_eqIntS.f at H
 by_cases c3 : (l0.length : Int) = (l1.length : Int)
 ·rw [if_pos c3] at H
  have c3b0 : ((l0.length : Int) == (l1.length : Int)) = true := beq_iff_eq.mpr c3
  have c3b1 : ((l0.length : Int) != (l1.length : Int)) = false := bne_eq_false_iff_eq.mpr c3
  have c3b2 : (l0.length == l1.length) = true := by first | simpa using c3 | (simp at c3 ⊢; omega)
  clear c3
  have H' := am_ H
  clear H
  go_enter Try.func20, Try.ntmps20
  go_wp2
  repeat (go_quiet (fail); try go_wp2)
  go_loopg [5] k (fun kq v5 w' => ∃ (x5_1 : Int), v5 = .int .i64 x5_1 ∧ Aside0 (laws_eqIntS.l0 kq l0 l1 x5_1 = some r) ∧ Aside0 (kq ≤ k) ∧ Drawn0 w w')
  case atStart => exact ⟨(0), (Sh.es), H', ⟨Nat.le_refl _⟩, Sh.dr⟩
  case round =>
   clear H'
   obtain ⟨x5_1, rfl, HA, HK1, ⟨m1, rfl⟩⟩ := hrel
   cases gk with
   | zero => exact absurd HA.out (by simp [laws_eqIntS.l0])
   | succ k1 =>
    have H := HA.out
    clear HA
    simp only [laws_eqIntS.l0] at H
    by_cases c4 : x5_1 < (l0.length : Int)
    ·rw [if_pos c4] at H
     have c4b0 := decide_eq_true c4
     clear c4
     by_cases c5 : 0 ≤ x5_1
     ·rw [if_pos c5] at H
      have c5b0 := decide_eq_true c5
      clear c5
      by_cases c6 : x5_1 < (l1.length : Int)
      ·rw [if_pos c6] at H
       have c6b0 := decide_eq_true c6
       clear c6
       by_cases c7 : (rd l0 x5_1) = (rd l1 x5_1)
       ·rw [if_pos c7] at H
        have c7b0 : ((rd l0 x5_1) == (rd l1 x5_1)) = true := beq_iff_eq.mpr c7
        have c7b1 : ((rd l0 x5_1) != (rd l1 x5_1)) = false := bne_eq_false_iff_eq.mpr c7
        clear c7
        have H' := am_ H
        clear H
        have p180 : 0 ≤ (x5_1 : Int) := Sh.od
        have q180 : x5_1 < (l0.length : Int) := Sh.od
        obtain ⟨ad180, e180, hx180_0⟩ := Kd.at_int HR0.out x5_1 p180 q180
        cases e180
        replace p180 := eq_true p180
        replace q180 := eq_true q180
        have p181 : 0 ≤ (x5_1 : Int) := Sh.od
        have q181 : x5_1 < (l1.length : Int) := Sh.od
        obtain ⟨ad181, e181, hx181_0⟩ := Kd.at_int HR1.out x5_1 p181 q181
        cases e181
        replace p181 := eq_true p181
        replace q181 := eq_true q181
        go_wp2
        repeat (go_quiet (fail); try go_wp2)
        go_roundg k1
        case measure => have := HK1.out; omega
        case rel => exact ⟨(wrap64 (x5_1 + 1)), (Sh.es), H', ⟨by have := HK1.out; omega⟩, Sh.dr⟩
       ·rw [if_neg c7] at H
        have c7b0 : ((rd l0 x5_1) == (rd l1 x5_1)) = false := beq_eq_false_iff_ne.mpr c7
        have c7b1 : ((rd l0 x5_1) != (rd l1 x5_1)) = true := bne_iff_ne.mpr c7
        obtain rfl := Option.some.inj H
        have p180 : 0 ≤ (x5_1 : Int) := Sh.od
        have q180 : x5_1 < (l0.length : Int) := Sh.od
        obtain ⟨ad180, e180, hx180_0⟩ := Kd.at_int HR0.out x5_1 p180 q180
        cases e180
        replace p180 := eq_true p180
        replace q180 := eq_true q180
        have p181 : 0 ≤ (x5_1 : Int) := Sh.od
        have q181 : x5_1 < (l1.length : Int) := Sh.od
        obtain ⟨ad181, e181, hx181_0⟩ := Kd.at_int HR1.out x5_1 p181 q181
        cases e181
        replace p181 := eq_true p181
        replace q181 := eq_true q181
        go_wp2
        repeat (go_quiet (fail); try go_wp2)
        go_ret
        exact ⟨Sh.es, Sh.dr⟩
      ·rw [if_neg c6] at H
       exact absurd H (by simp)
     ·rw [if_neg c5] at H
      exact absurd H (by simp)
    ·rw [if_neg c4] at H
     have c4b0 := decide_eq_false c4
     clear c4
     obtain rfl := Option.some.inj H
     go_wp2
     repeat (go_quiet (fail); try go_wp2)
     go_ret
     exact ⟨Sh.es, Sh.dr⟩
 ·rw [if_neg c3] at H
  have c3b0 : ((l0.length : Int) == (l1.length : Int)) = false := beq_eq_false_iff_ne.mpr c3
  have c3b1 : ((l0.length : Int) != (l1.length : Int)) = true := bne_iff_ne.mpr c3
  have c3b2 : (l0.length == l1.length) = false := by first | simpa using c3 | (simp at c3 ⊢; omega)
  obtain rfl := Option.some.inj H
  go_enter Try.func20, Try.ntmps20
  go_wp2
  repeat (go_quiet (fail); try go_wp2)
  go_ret
  exact ⟨Sh.es, Sh.dr⟩
def laws_eqLasso.f (k : Nat) (l0_0 : List Int) (l0_1 : List Int) (l1_0 : List Int) (l1_1 : List Int) : Option (Bool) := (laws_eqIntS.f k l0_0 l1_0).bind fun t184 => (if t184 = true then ((laws_eqIntS.f k l0_1 l1_1).bind fun t185 => (if t185 = true then (some true) else (some false))) else (some false))
theorem laws_eqLasso.mono : ∀ a0 a1 a2 a3 k, LeO (laws_eqLasso.f k a0 a1 a2 a3) (laws_eqLasso.f (k + 1) a0 a1 a2 a3) := by
 intro a0 a1 a2 a3 k
 unfold laws_eqLasso.f
 repeat' with_reducible first | apply laws_eqIntS.mono | exact LeO.refl _ | exact LeO.none _ | apply LeO.ite | refine LeO.bind ?_ fun _ => ?_
theorem laws_eqLasso.calls (k : Nat) (A0_0 : Option Addr) (c0_0 : Nat) (l0_0 : List Int) (A0_1 : Option Addr) (c0_1 : Nat) (l0_1 : List Int) (A1_0 : Option Addr) (c1_0 : Nat) (l1_0 : List Int) (A1_1 : Option Addr) (c1_1 : Nat) (l1_1 : List Int) (r : Bool) (w : World) (hr0_0 : Kd.C (Kd.int .i64) w A0_0 l0_0.length l0_0) (hc0_0 : l0_0.length ≤ c0_0) (hr0_1 : Kd.C (Kd.int .i64) w A0_1 l0_1.length l0_1) (hc0_1 : l0_1.length ≤ c0_1) (hr1_0 : Kd.C (Kd.int .i64) w A1_0 l1_0.length l1_0) (hc1_0 : l1_0.length ≤ c1_0) (hr1_1 : Kd.C (Kd.int .i64) w A1_1 l1_1.length l1_1) (hc1_1 : l1_1.length ≤ c1_1) (h : laws_eqLasso.f k l0_0 l0_1 l1_0 l1_1 = some r) :
  Calls Try.prog 8 #[.agg #[.slice A0_0 l0_0.length c0_0, .slice A0_1 l0_1.length c0_1], .agg #[.slice A1_0 l1_0.length c1_0, .slice A1_1 l1_1.length c1_1]] w fun e w' => e = .returned (.bool r) ∧ Below w.heap.size w w' := by
 have hu26 := Try.underlying26
 have HR0_0 := am_ hr0_0
 have HC0_0 := am_ hc0_0
 clear hr0_0 hc0_0
 have HR0_1 := am_ hr0_1
 have HC0_1 := am_ hc0_1
 clear hr0_1 hc0_1
 have HR1_0 := am_ hr1_0
 have HC1_0 := am_ hc1_0
 clear hr1_0 hc1_0
 have HR1_1 := am_ hr1_1
 have HC1_1 := am_ hc1_1
 clear hr1_1 hc1_1
 have HB := am_ (Below.refl w.heap.size w)
 have H := h
 clear h
 unfold laws_eqLasso.f at H
 obtain ⟨t184, A3, H⟩ := Sh.ba H
 by_cases c4 : t184 = true
 ·subst c4
  rw [if_pos rfl] at H
  obtain ⟨t185, A5, H⟩ := Sh.ba H
  by_cases c6 : t185 = true
  ·subst c6
   rw [if_pos rfl] at H
   obtain rfl := Option.some.inj H
   go_enter Try.func8, Try.ntmps8
   go_wp2_with (first | ((with_reducible refine Sh.d 2 ?_); refine Sh.bz w (N := 2) (cs := #[.slice A0_0 l0_0.length c0_0, .slice A0_1 l0_1.length c0_1]) (t := 26) (h := ?_); clear HB; intro gb182 w7 BK182 GE182 HB) | ((with_reducible refine Sh.d 3 ?_); refine Sh.bx (N := 3) (cs := #[.slice A1_0 l1_0.length c1_0, .slice A1_1 l1_1.length c1_1]) (t := 26) (h := ?_); intro gb183 hg w8 hbox hb; have BK183 := am_ hbox; have GE183 := Sh.ag w hg; replace HB := Sh.hb hb; have NB182_183 := am_ (Sh.nl hg BK182.out); have NB183_182 := am_ (Sh.ng hg BK182.out); replace BK182 := Sh.ab BK182 hb; clear hb hbox hg; have hnb9 := NB182_183.out; have hnc9 := NB183_182.out; obtain ⟨hcz10_0, hcz10_1, hfz10_0, hfz10_1⟩ := Sh.b2 BK182.out; obtain ⟨hcz11_0, hcz11_1, hfz11_0, hfz11_1⟩ := Sh.b2 BK183.out) | ((with_reducible refine Sh.k 20 ?_); refine Sh.gD (some 9) Try.func20 #[.slice A0_0 l0_0.length c0_0, .slice A1_0 l1_0.length c1_0] (laws_eqIntS.calls k _ _ l0_0 _ _ l1_0 true _ (Sh.cB HR0_0.out) HC0_0.out (Sh.cB HR1_0.out) HC1_0.out A3.out) fun nd => ?_) | ((with_reducible refine Sh.k 20 ?_); refine Sh.gD (some 15) Try.func20 #[.slice A0_1 l0_1.length c0_1, .slice A1_1 l1_1.length c1_1] (laws_eqIntS.calls k _ _ l0_1 _ _ l1_1 true _ (Sh.cB HR0_1.out) HC0_1.out (Sh.cB HR1_1.out) HC1_1.out A5.out) fun nd => ?_))
   go_ret
   exact ⟨Sh.eR, Sh.bw⟩
  ·replace c6 := Bool.eq_false_iff.mpr c6
   subst c6
   rw [Sh.nf] at H
   obtain rfl := Option.some.inj H
   go_enter Try.func8, Try.ntmps8
   go_wp2_with (first | ((with_reducible refine Sh.d 2 ?_); refine Sh.bz w (N := 2) (cs := #[.slice A0_0 l0_0.length c0_0, .slice A0_1 l0_1.length c0_1]) (t := 26) (h := ?_); clear HB; intro gb182 w12 BK182 GE182 HB) | ((with_reducible refine Sh.d 3 ?_); refine Sh.bx (N := 3) (cs := #[.slice A1_0 l1_0.length c1_0, .slice A1_1 l1_1.length c1_1]) (t := 26) (h := ?_); intro gb183 hg w13 hbox hb; have BK183 := am_ hbox; have GE183 := Sh.ag w hg; replace HB := Sh.hb hb; have NB182_183 := am_ (Sh.nl hg BK182.out); have NB183_182 := am_ (Sh.ng hg BK182.out); replace BK182 := Sh.ab BK182 hb; clear hb hbox hg; have hnb14 := NB182_183.out; have hnc14 := NB183_182.out; obtain ⟨hcz15_0, hcz15_1, hfz15_0, hfz15_1⟩ := Sh.b2 BK182.out; obtain ⟨hcz16_0, hcz16_1, hfz16_0, hfz16_1⟩ := Sh.b2 BK183.out) | ((with_reducible refine Sh.k 20 ?_); refine Sh.gD (some 9) Try.func20 #[.slice A0_0 l0_0.length c0_0, .slice A1_0 l1_0.length c1_0] (laws_eqIntS.calls k _ _ l0_0 _ _ l1_0 true _ (Sh.cB HR0_0.out) HC0_0.out (Sh.cB HR1_0.out) HC1_0.out A3.out) fun nd => ?_) | ((with_reducible refine Sh.k 20 ?_); refine Sh.gD (some 15) Try.func20 #[.slice A0_1 l0_1.length c0_1, .slice A1_1 l1_1.length c1_1] (laws_eqIntS.calls k _ _ l0_1 _ _ l1_1 false _ (Sh.cB HR0_1.out) HC0_1.out (Sh.cB HR1_1.out) HC1_1.out A5.out) fun nd => ?_))
   go_ret
   exact ⟨Sh.eR, Sh.bw⟩
 ·replace c4 := Bool.eq_false_iff.mpr c4
  subst c4
  rw [Sh.nf] at H
  obtain rfl := Option.some.inj H
  go_enter Try.func8, Try.ntmps8
  go_wp2_with (first | ((with_reducible refine Sh.d 2 ?_); refine Sh.bz w (N := 2) (cs := #[.slice A0_0 l0_0.length c0_0, .slice A0_1 l0_1.length c0_1]) (t := 26) (h := ?_); clear HB; intro gb182 w17 BK182 GE182 HB) | ((with_reducible refine Sh.d 3 ?_); refine Sh.bx (N := 3) (cs := #[.slice A1_0 l1_0.length c1_0, .slice A1_1 l1_1.length c1_1]) (t := 26) (h := ?_); intro gb183 hg w18 hbox hb; have BK183 := am_ hbox; have GE183 := Sh.ag w hg; replace HB := Sh.hb hb; have NB182_183 := am_ (Sh.nl hg BK182.out); have NB183_182 := am_ (Sh.ng hg BK182.out); replace BK182 := Sh.ab BK182 hb; clear hb hbox hg; have hnb19 := NB182_183.out; have hnc19 := NB183_182.out; obtain ⟨hcz20_0, hcz20_1, hfz20_0, hfz20_1⟩ := Sh.b2 BK182.out; obtain ⟨hcz21_0, hcz21_1, hfz21_0, hfz21_1⟩ := Sh.b2 BK183.out) | ((with_reducible refine Sh.k 20 ?_); refine Sh.gD (some 9) Try.func20 #[.slice A0_0 l0_0.length c0_0, .slice A1_0 l1_0.length c1_0] (laws_eqIntS.calls k _ _ l0_0 _ _ l1_0 false _ (Sh.cB HR0_0.out) HC0_0.out (Sh.cB HR1_0.out) HC1_0.out A3.out) fun nd => ?_))
  go_ret
  exact ⟨Sh.eR, Sh.bw⟩
def laws_markIntS.l0 : Nat → List Int → Int → Int → Option (Int × List Int)
 | 0, _, _, _ => none
 | k + 1, x0, x1, x5 => if x5 < (x0.length : Int) then (if 0 ≤ x5 then (laws_markIntS.l0 k (x0.set (x5 : Int).toNat x1) (wrap64 (x1 + 1)) (wrap64 (x5 + 1))) else (none)) else (some (x1, x0))
def laws_markIntS.f (k : Nat) (l0 : List Int) (a1 : Int) : Option (Int × List Int) := laws_markIntS.l0 k l0 a1 0
theorem laws_markIntS.mono_l : ∀ k, (∀ y0 y1 y2, LeO (laws_markIntS.l0 k y0 y1 y2) (laws_markIntS.l0 (k + 1) y0 y1 y2))
 | 0 => fun _ _ _ r h => by simp [laws_markIntS.l0] at h
 | k + 1 => by
  have ih0 := laws_markIntS.mono_l k
  ·intro y0 y1 y2
   unfold laws_markIntS.l0
   repeat' with_reducible first | apply ih0 | exact LeO.refl _ | exact LeO.none _ | apply LeO.ite | refine LeO.bind ?_ fun _ => ?_
theorem laws_markIntS.mono : ∀ a0 a1 k, LeO (laws_markIntS.f k a0 a1) (laws_markIntS.f (k + 1) a0 a1) := by
 intro a0 a1 k
 have ih0 := laws_markIntS.mono_l k
 unfold laws_markIntS.f
 repeat' with_reducible first | apply ih0 | exact LeO.refl _ | exact LeO.none _ | apply LeO.ite | refine LeO.bind ?_ fun _ => ?_
theorem laws_markIntS.calls (k : Nat) (P0_ : Nat → Prop) (u9000_ : Value) (l0 : List Int) (a1 : Int) (r1 : Int) (r2 : List Int) (w0 w : World) (hB : Below w0.heap.size w0 w) (ho0 : Kd.R (Kd.int .i64) 3 w w0.heap.size P0_ u9000_ l0) (h : laws_markIntS.f k l0 a1 = some (r1, r2)) :
  Calls Try.prog 21 #[u9000_, .int .i64 a1] w fun e w' => e = .returned (.int .i64 r1) ∧ Kd.R (Kd.int .i64) 3 w' w0.heap.size (fun k_ => (P0_ k_ ∨ w.heap.size ≤ k_)) u9000_ r2 ∧ Below w0.heap.size w0 w' ∧ Kept w w' (fun k_ => P0_ k_) := by
 have HO0 := am_ (show Kd.R (Kd.int .i64) 3 w w0.heap.size (fun k_ => (P0_ k_ ∨ w.heap.size ≤ k_)) u9000_ l0 from Kd.R_mono ho0 (fun k_ hk => (.inl hk)))
 have HK := am_ (Kept.refl w (fun k_ => P0_ k_))
 have HW0 := am_ hB.size
 have HB := am_ hB
 clear hB
 have H := h
 clear h
 unfold laws_markIntS.f at H
 have H' := am_ H
 clear H
 go_enter Try.func21, Try.ntmps21
 go_wp2
 go_loopg [1, 5] k (fun kq v1 v5 w' => ∃ (x0_1 : List Int) (x1_1 : Int) (x5_1 : Int), v1 = .int .i64 x1_1 ∧ v5 = .int .i64 x5_1 ∧ Aside0 (laws_markIntS.l0 kq x0_1 x1_1 x5_1 = some (r1, r2)) ∧ Aside0 (kq ≤ k) ∧ Aside0 (Kd.R (Kd.int .i64) 3 w' w0.heap.size (fun k_ => (P0_ k_ ∨ w.heap.size ≤ k_)) u9000_ x0_1) ∧ Aside0 (Kept w w' (fun k_ => P0_ k_)) ∧ Aside0 (Below w0.heap.size w0 w'))
 case atStart => exact ⟨(l0), (a1), (0), (Sh.es), (Sh.es), H', ⟨Nat.le_refl _⟩, ⟨Sh.rl HO0.out⟩, ⟨by repeat (first | (with_reducible first | exact HK.out | apply Kept.alloc | apply Kept.drewN | apply Kept.drew) | exact HK.out)⟩, ⟨Sh.bw⟩⟩
 case round =>
  clear H'
  obtain ⟨x0_1, x1_1, x5_1, rfl, rfl, HA, HK1, HO_0, HK, HB⟩ := hrel
  cases gk with
  | zero => exact absurd HA.out (by simp [laws_markIntS.l0])
  | succ k1 =>
   have H := HA.out
   clear HA
   simp only [laws_markIntS.l0] at H
   by_cases c3 : x5_1 < (x0_1.length : Int)
   ·rw [if_pos c3] at H
    have c3b0 := decide_eq_true c3
    clear c3
    by_cases c4 : 0 ≤ x5_1
    ·rw [if_pos c4] at H
     have c4b0 := decide_eq_true c4
     clear c4
     obtain ⟨y186, hy186⟩ : ∃ y_ : List Int, y_ = (x0_1.set (x5_1 : Int).toNat x1_1) := ⟨_, rfl⟩
     replace H : (laws_markIntS.l0 k1 y186 (wrap64 (x1_1 + 1)) (wrap64 (x5_1 + 1))) = some (r1, r2) := by first | (rw [hy186]; with_reducible exact H) | (have H2_ := (Option.bind_some _ _).symm.trans H; rw [hy186]; with_reducible exact H2_) | (have H2_ := (Option.bind_some _ _).symm.trans H; with_reducible exact H2_) | with_reducible exact H | (rw [hy186]; exact H) | exact H
     have Ny186 := am_ hy186
     clear hy186
     have H' := am_ H
     clear H
     obtain ⟨Ao6, co6, eo6⟩ := Kd.R_slice HO_0.out
     subst eo6
     have p5 : 0 ≤ (x5_1 : Int) := Sh.od
     have q5 : (x5_1 : Int) < ((x0_1.length : Int) : Int) := Sh.od
     obtain ⟨go5, co5, eo5, gb5, gl5, cl5, HG5⟩ := Kd.R_form HO_0.out (by omega)
     (first | cases eo5 | (injection eo5 with ea_ en_ ec_; (first | subst ea_ | (injection ea_ with ea_; subst ea_)); subst ec_; clear en_))
     have GB5 := am_ gb5
     have GG5 := am_ HG5
     clear gb5 gl5 HG5
     have HMgo5 := am_ (show (P0_ go5 ∨ w.heap.size ≤ go5) from (HO_0.out.1 _ rfl))
     obtain ⟨hx5_0, hf5_0⟩ := Kd.R_celln 0 HO_0.out (x5_1 : Int) p5 q5
     replace p5 := eq_true p5
     replace q5 := eq_true q5
     have HP7 := Kd.R_putg HO_0.out (x5_1 : Int) x1_1
     go_wp2_with (first | ((with_reducible refine gate_store (t := 3) (p := 15) rfl ?_); refine store_event (t := 3) (p := 15) (v := ?vo_w8) (w1 := (wr.setCell ⟨go5, (x5_1 : Int).toNat, none⟩ (.int .i64 x1_1))) ?hg ?ho ?hn ?hr ?_; (case ho => rfl); (case hg => rfl); (case hn => rfl); (case hr => first | (go_simp; done) | (go_simp; rfl)); intro w8 hw; have hg : wr.grownBy w8 (some go5) := (by rw [hw]; exact HP7.2); have hp_ : Kd.R (Kd.int .i64) 3 w8 w0.heap.size (fun k_ => (P0_ k_ ∨ w.heap.size ≤ k_)) (.slice (some ⟨go5, 0, none⟩) x0_1.length co6) y186 := (by rw [hw, Ny186.out]; exact HP7.1); clear HP7; replace HB := am_ ((by rw [hw]; exact below_set (HB.out) GB5.out : Below w0.heap.size w0 w8)); replace HK := am_ (Kept.of_grown (S := (fun k_ => P0_ k_)) hg (by repeat (first | (with_reducible first | exact HK.out | apply Kept.alloc | apply Kept.drewN | apply Kept.drew) | exact HK.out)) (fun k_ e_ => (HO_0.out.1 k_ e_))); replace HO_0 := am_ hp_; clear hg hw hp_))
     go_roundg k1
     case measure => have := HK1.out; omega
     case rel => exact ⟨(y186), (wrap64 (x1_1 + 1)), (wrap64 (x5_1 + 1)), (Sh.es), (Sh.es), H', ⟨by have := HK1.out; omega⟩, ⟨Sh.rl HO_0.out⟩, ⟨by repeat (first | (with_reducible first | exact HK.out | apply Kept.alloc | apply Kept.drewN | apply Kept.drew) | exact HK.out)⟩, ⟨Sh.bw⟩⟩
    ·rw [if_neg c4] at H
     exact absurd H (by simp)
   ·rw [if_neg c3] at H
    have c3b0 := decide_eq_false c3
    clear c3
    simp only [Option.some.injEq, Prod.mk.injEq] at H
    obtain ⟨rfl, rfl⟩ := H
    obtain ⟨Ao9, co9, eo9⟩ := Kd.R_slice HO_0.out
    subst eo9
    go_wp2
    go_ret
    exact ⟨Sh.eR, Sh.rl HO_0.out, Sh.bw, by repeat (first | (with_reducible first | exact HK.out | apply Kept.alloc | apply Kept.drewN | apply Kept.drew) | exact HK.out)⟩

section
variable {α : Type} {d : Kd α} {e : Nat} {w W : World} {base : Nat} {ok ok1 : Nat → Prop} {v : Value} {xs : List α}
theorem ll_rl (h : d.Q e w base ok v xs) (hs : Below w.heap.size w W := by (repeat (with_reducible first | apply below_alloc | apply pw_below_drewN | apply below_drew1)); exact Below.refl _ _) : d.Q e W base ok v xs := Kd.Q_below h hs
theorem ll_slice (h : d.Q e w base ok v xs) : ∃ A c, v = .slice A xs.length c := by
  obtain ⟨A, c, h1, _⟩ := Kd.Q_slice h
  exact ⟨A, c, h1⟩
theorem ll_reok (hE : d.E = []) (h : d.Q e W base ok1 v xs) (hok : ∀ k, v.ownBlock = some k → ok k) : d.Q e W base ok v xs := Kd.Q_mono (Kd.Q_tight hE h) (fun k hk => hok k hk.symm)
end
theorem laws_markIntS.callsQ (k : Nat) (P0_ : Nat → Prop) (u9000_ : Value) (l0 : List Int) (a1 : Int) (r1 : Int) (r2 : List Int) (w0 w : World) (hB : Below w0.heap.size w0 w) (ho0 : Kd.Q (Kd.int .i64) 3 w w0.heap.size P0_ u9000_ l0) (h : laws_markIntS.f k l0 a1 = some (r1, r2)) :
  Calls Try.prog 21 #[u9000_, .int .i64 a1] w fun e w' => e = .returned (.int .i64 r1) ∧ Kd.Q (Kd.int .i64) 3 w' w0.heap.size (fun k_ => (P0_ k_ ∨ w.heap.size ≤ k_)) u9000_ r2 ∧ Below w0.heap.size w0 w' ∧ Kept w w' (fun k_ => P0_ k_) := by
 have HO0 := am_ (show Kd.Q (Kd.int .i64) 3 w w0.heap.size (fun k_ => (P0_ k_ ∨ w.heap.size ≤ k_)) u9000_ l0 from Kd.Q_mono ho0 (fun k_ hk => (.inl hk)))
 have HK := am_ (Kept.refl w (fun k_ => P0_ k_))
 have HW0 := am_ hB.size
 have HB := am_ hB
 clear hB
 have H := h
 clear h
 unfold laws_markIntS.f at H
 have H' := am_ H
 clear H
 go_enter Try.func21, Try.ntmps21
 go_wp2
 go_loopg [1, 5] k (fun kq v1 v5 w' => ∃ (x0_1 : List Int) (x1_1 : Int) (x5_1 : Int), v1 = .int .i64 x1_1 ∧ v5 = .int .i64 x5_1 ∧ Aside0 (laws_markIntS.l0 kq x0_1 x1_1 x5_1 = some (r1, r2)) ∧ Aside0 (kq ≤ k) ∧ Aside0 (Kd.Q (Kd.int .i64) 3 w' w0.heap.size (fun k_ => (P0_ k_ ∨ w.heap.size ≤ k_)) u9000_ x0_1) ∧ Aside0 (Kept w w' (fun k_ => P0_ k_)) ∧ Aside0 (Below w0.heap.size w0 w'))
 case atStart => exact ⟨(l0), (a1), (0), (Sh.es), (Sh.es), H', ⟨Nat.le_refl _⟩, ⟨ll_rl HO0.out⟩, ⟨by repeat (first | (with_reducible first | exact HK.out | apply Kept.alloc | apply Kept.drewN | apply Kept.drew) | exact HK.out)⟩, ⟨Sh.bw⟩⟩
 case round =>
  clear H'
  obtain ⟨x0_1, x1_1, x5_1, rfl, rfl, HA, HK1, HO_0, HK, HB⟩ := hrel
  cases gk with
  | zero => exact absurd HA.out (by simp [laws_markIntS.l0])
  | succ k1 =>
   have H := HA.out
   clear HA
   simp only [laws_markIntS.l0] at H
   by_cases c3 : x5_1 < (x0_1.length : Int)
   ·rw [if_pos c3] at H
    have c3b0 := decide_eq_true c3
    clear c3
    by_cases c4 : 0 ≤ x5_1
    ·rw [if_pos c4] at H
     have c4b0 := decide_eq_true c4
     clear c4
     obtain ⟨y186, hy186⟩ : ∃ y_ : List Int, y_ = (x0_1.set (x5_1 : Int).toNat x1_1) := ⟨_, rfl⟩
     replace H : (laws_markIntS.l0 k1 y186 (wrap64 (x1_1 + 1)) (wrap64 (x5_1 + 1))) = some (r1, r2) := by first | (rw [hy186]; with_reducible exact H) | (have H2_ := (Option.bind_some _ _).symm.trans H; rw [hy186]; with_reducible exact H2_) | (have H2_ := (Option.bind_some _ _).symm.trans H; with_reducible exact H2_) | with_reducible exact H | (rw [hy186]; exact H) | exact H
     have Ny186 := am_ hy186
     clear hy186
     have H' := am_ H
     clear H
     obtain ⟨Ao6, co6, eo6⟩ := ll_slice HO_0.out
     subst eo6
     have p5 : 0 ≤ (x5_1 : Int) := Sh.od
     have q5 : (x5_1 : Int) < ((x0_1.length : Int) : Int) := Sh.od
     obtain ⟨go5, of5, co5, eo5, gb5, gl5, cl5, HG5⟩ := Kd.Q_form HO_0.out (by omega)
     (first | cases eo5 | (injection eo5 with ea_ en_ ec_; (first | subst ea_ | (injection ea_ with ea_; subst ea_)); subst ec_; clear en_))
     have GB5 := am_ gb5
     have GG5 := am_ HG5
     clear gb5 gl5 HG5
     have HMgo5 := am_ (show (P0_ go5 ∨ w.heap.size ≤ go5) from (HO_0.out.1 _ rfl))
     obtain ⟨hx5_0, hf5_0⟩ := Kd.Q_cell 0 HO_0.out (x5_1 : Int) p5 q5
     have HP7 := Kd.Q_putg HO_0.out (x5_1 : Int) p5 q5 x1_1
     replace p5 := eq_true p5
     replace q5 := eq_true q5
     go_wp2_with (first | ((with_reducible refine gate_store (t := 3) (p := 15) rfl ?_); refine store_event (t := 3) (p := 15) (v := ?vo_w8) (w1 := (wr.setCell ⟨go5, of5 + (x5_1 : Int).toNat, none⟩ (.int .i64 x1_1))) ?hg ?ho ?hn ?hr ?_; (case ho => rfl); (case hg => rfl); (case hn => rfl); (case hr => first | (go_simp; done) | (go_simp; rfl)); intro w8 hw; have hg : wr.grownBy w8 (some go5) := (by rw [hw]; exact HP7.2); have hp_ : Kd.Q (Kd.int .i64) 3 w8 w0.heap.size (fun k_ => (P0_ k_ ∨ w.heap.size ≤ k_)) (.slice (some ⟨go5, of5, none⟩) x0_1.length co6) y186 := (by rw [hw, Ny186.out]; exact HP7.1); clear HP7; replace HB := am_ ((by rw [hw]; exact below_set (HB.out) GB5.out : Below w0.heap.size w0 w8)); replace HK := am_ (Kept.of_grown (S := (fun k_ => P0_ k_)) hg (by repeat (first | (with_reducible first | exact HK.out | apply Kept.alloc | apply Kept.drewN | apply Kept.drew) | exact HK.out)) (fun k_ e_ => (HO_0.out.1 k_ e_))); replace HO_0 := am_ hp_; clear hg hw hp_))
     go_roundg k1
     case measure => have := HK1.out; omega
     case rel => exact ⟨(y186), (wrap64 (x1_1 + 1)), (wrap64 (x5_1 + 1)), (Sh.es), (Sh.es), H', ⟨by have := HK1.out; omega⟩, ⟨ll_rl HO_0.out⟩, ⟨by repeat (first | (with_reducible first | exact HK.out | apply Kept.alloc | apply Kept.drewN | apply Kept.drew) | exact HK.out)⟩, ⟨Sh.bw⟩⟩
    ·rw [if_neg c4] at H
     exact absurd H (by simp)
   ·rw [if_neg c3] at H
    have c3b0 := decide_eq_false c3
    clear c3
    simp only [Option.some.injEq, Prod.mk.injEq] at H
    obtain ⟨rfl, rfl⟩ := H
    obtain ⟨Ao9, co9, eo9⟩ := ll_slice HO_0.out
    subst eo9
    go_wp2
    go_ret
    exact ⟨Sh.eR, ll_rl HO_0.out, Sh.bw, by repeat (first | (with_reducible first | exact HK.out | apply Kept.alloc | apply Kept.drewN | apply Kept.drew) | exact HK.out)⟩
def laws_markLasso.f (k : Nat) (l0_0 : List Int) (l0_1 : List Int) (a1 : Int) : Option (Int × List Int × List Int) := (laws_markIntS.f k l0_0 a1).bind fun bt188 => ((laws_markIntS.f k l0_1 bt188.1).bind fun bt190 => (some (bt190.1, bt188.2, bt190.2)))
theorem laws_markLasso.mono : ∀ a0 a1 a2 k, LeO (laws_markLasso.f k a0 a1 a2) (laws_markLasso.f (k + 1) a0 a1 a2) := by
 intro a0 a1 a2 k
 unfold laws_markLasso.f
 repeat' with_reducible first | apply laws_markIntS.mono | exact LeO.refl _ | exact LeO.none _ | apply LeO.ite | refine LeO.bind ?_ fun _ => ?_
theorem laws_markLasso.calls (k : Nat) (P0_0_ : Nat → Prop) (u9000_ : Value) (l0_0 : List Int) (P0_1_ : Nat → Prop) (u9001_ : Value) (l0_1 : List Int) (a1 : Int) (r1 : Int) (r2 : List Int) (r3 : List Int) (w0 w : World) (hB : Below w0.heap.size w0 w) (ho0_0 : Kd.R (Kd.int .i64) 3 w w0.heap.size P0_0_ u9000_ l0_0) (hp0_0_0_1 : ∀ k_, P0_0_ k_ → ¬ P0_1_ k_) (ho0_1 : Kd.R (Kd.int .i64) 3 w w0.heap.size P0_1_ u9001_ l0_1) (hp0_1_0_0 : ∀ k_, P0_1_ k_ → ¬ P0_0_ k_) (h : laws_markLasso.f k l0_0 l0_1 a1 = some (r1, r2, r3)) :
  Calls Try.prog 9 #[.agg #[u9000_, u9001_], .int .i64 a1] w fun e w' => e = .returned (.int .i64 r1) ∧ Kd.R (Kd.int .i64) 3 w' w0.heap.size (fun k_ => ((P0_0_ k_ ∨ P0_1_ k_) ∨ w.heap.size ≤ k_)) u9000_ r2 ∧ Kd.R (Kd.int .i64) 3 w' w0.heap.size (fun k_ => ((P0_0_ k_ ∨ P0_1_ k_) ∨ w.heap.size ≤ k_)) u9001_ r3 ∧ Below w0.heap.size w0 w' ∧ Kept w w' (fun k_ => P0_0_ k_ ∨ P0_1_ k_) := by
 have hu26 := Try.underlying26
 have HO0_0 := am_ (show Kd.R (Kd.int .i64) 3 w w0.heap.size (fun k_ => ((P0_0_ k_ ∨ P0_1_ k_) ∨ w.heap.size ≤ k_) ∧ some k_ ≠ (u9001_ : Value).ownBlock) u9000_ l0_0 from Kd.R_mono ho0_0 (fun k_ hk => ⟨(.inl (.inl hk)), fun e_ => hp0_0_0_1 k_ hk (ho0_1.1 k_ e_.symm)⟩))
 have HO0_1 := am_ (show Kd.R (Kd.int .i64) 3 w w0.heap.size (fun k_ => ((P0_0_ k_ ∨ P0_1_ k_) ∨ w.heap.size ≤ k_) ∧ some k_ ≠ (u9000_ : Value).ownBlock) u9001_ l0_1 from Kd.R_mono ho0_1 (fun k_ hk => ⟨(.inl (.inr hk)), fun e_ => hp0_1_0_0 k_ hk (ho0_0.1 k_ e_.symm)⟩))
 have HK := am_ (Kept.refl w (fun k_ => P0_0_ k_ ∨ P0_1_ k_))
 have HW0 := am_ hB.size
 have HB := am_ hB
 clear hB
 have H := h
 clear h
 unfold laws_markLasso.f at H
 obtain ⟨⟨t188, t189⟩, A30, H⟩ := Sh.bd H
 have A3 := am_ A30
 clear A30
 obtain ⟨⟨t190, t191⟩, A40, H⟩ := Sh.bd H
 have A4 := am_ A40
 clear A40
 simp only [Option.some.injEq, Prod.mk.injEq] at H
 obtain ⟨rfl, rfl, rfl⟩ := H
 obtain ⟨Ao5, co5, eo5⟩ := Kd.R_slice HO0_0.out
 subst eo5
 obtain ⟨Ao6, co6, eo6⟩ := Kd.R_slice HO0_1.out
 subst eo6
 go_enter Try.func9, Try.ntmps9
 go_wp2_with (first | ((with_reducible refine Sh.d 2 ?_); refine Sh.bx (N := 2) (cs := #[.slice Ao5 l0_0.length co5, .slice Ao6 l0_1.length co6]) (t := 26) (h := ?_); intro gb187 hg w7 hbox hb; replace HO0_0 := am_ (Kd.R_below (Sh.rl HO0_0.out) hb); replace HO0_1 := am_ (Kd.R_below (Sh.rl HO0_1.out) hb); have BK187 := am_ hbox; have GW187 := am_ ((by rw [hg]; exact (by first | exact HK.out.1 | exact (show Kept w _ (fun k_ => P0_0_ k_ ∨ P0_1_ k_) from by repeat (first | (with_reducible first | exact HK.out | apply Kept.alloc | apply Kept.drewN | apply Kept.drew) | exact HK.out)).1) : w.heap.size ≤ gb187)); replace HK := am_ (Kept.below (S := (fun k_ => P0_0_ k_ ∨ P0_1_ k_)) (by repeat (first | (with_reducible first | exact HK.out | apply Kept.alloc | apply Kept.drewN | apply Kept.drew) | exact HK.out)) hb); have GE187 := am_ ((by rw [hg]; exact (below_size Sh.bw) : w0.heap.size ≤ gb187)); replace HB := Sh.hb hb; clear hb hbox hg; obtain ⟨hcz8_0, hcz8_1, hfz8_0, hfz8_1⟩ := Sh.b2 BK187.out) | ((with_reducible refine Sh.k 21 ?_); refine Sh.gL (some 8) Try.func21 #[.slice Ao5 l0_0.length co5, .int .i64 a1] (h := ?_); (with_reducible refine (laws_markIntS.calls k (fun k_ => some k_ = (.slice Ao5 l0_0.length co5 : Value).ownBlock) (.slice Ao5 l0_0.length co5) l0_0 a1 t188 t189 w0 _ ?side1 ?side2 A3.out).mono ?_); (case side1 => repeat (first | (with_reducible first | exact HB.out | apply below_alloc | apply pw_below_drewN | apply below_drew1 | refine below_set ?_ GE187.out) | exact HB.out)); (case side2 => exact Kd.R_tight rfl HO0_0.out); rintro e w9 ⟨rfl, hy0, hb, hkp⟩; refine ⟨_, rfl, ?_⟩; replace HO0_1 := am_ (Kd.R_mono (ok' := fun k_ => ((P0_0_ k_ ∨ P0_1_ k_) ∨ w.heap.size ≤ k_) ∧ some k_ ≠ (.slice Ao5 l0_0.length co5 : Value).ownBlock) (Kd.R_keptB (HO0_1.out) hkp (fun k_ hk_ hs_ => (hk_.2) hs_)) (fun k_ h => ⟨h.1.1, h.1.2⟩)); replace BK187 := am_ (blk_kept (Sh.pl BK187.out) hkp (fun hs_ => (fun e_ => (Kd.R_ne HO0_0.out BK187.out (by decide)) e_) hs_)); replace HK := am_ (Kept.then_ (S := (fun k_ => P0_0_ k_ ∨ P0_1_ k_)) (by repeat (first | (with_reducible first | exact HK.out | apply Kept.alloc | apply Kept.drewN | apply Kept.drew | refine Kept.setCell ?_ (.inr GW187.out) _) | exact HK.out)) hkp (fun k_ hs_ => (fun e_ => (HO0_0.out.1 k_ e_.symm).1) hs_)); replace HO0_0 := am_ (Kd.R_reok rfl hy0 (fun k_ e_ => HO0_0.out.1 k_ e_)); replace HB := am_ hb; (try clear hb); (try clear hkp); (try clear hy0); obtain ⟨hcz10_0, hcz10_1, hfz10_0, hfz10_1⟩ := Sh.b2 BK187.out) | ((with_reducible refine Sh.k 21 ?_); refine Sh.gL (some 12) Try.func21 #[.slice Ao6 l0_1.length co6, .int .i64 t188] (h := ?_); (with_reducible refine (laws_markIntS.calls k (fun k_ => some k_ = (.slice Ao6 l0_1.length co6 : Value).ownBlock) (.slice Ao6 l0_1.length co6) l0_1 t188 t190 t191 w0 _ ?side1 ?side2 A4.out).mono ?_); (case side1 => repeat (first | (with_reducible first | exact HB.out | apply below_alloc | apply pw_below_drewN | apply below_drew1 | refine below_set ?_ GE187.out) | exact HB.out)); (case side2 => exact Kd.R_tight rfl HO0_1.out); rintro e w11 ⟨rfl, hy0, hb, hkp⟩; refine ⟨_, rfl, ?_⟩; replace HO0_0 := am_ (Kd.R_mono (ok' := fun k_ => ((P0_0_ k_ ∨ P0_1_ k_) ∨ w.heap.size ≤ k_) ∧ some k_ ≠ (.slice Ao6 l0_1.length co6 : Value).ownBlock) (Kd.R_keptB (HO0_0.out) hkp (fun k_ hk_ hs_ => (hk_.2) hs_)) (fun k_ h => ⟨h.1.1, h.1.2⟩)); replace BK187 := am_ (blk_kept (Sh.pl BK187.out) hkp (fun hs_ => (fun e_ => (Kd.R_ne HO0_1.out BK187.out (by decide)) e_) hs_)); replace HK := am_ (Kept.then_ (S := (fun k_ => P0_0_ k_ ∨ P0_1_ k_)) (by repeat (first | (with_reducible first | exact HK.out | apply Kept.alloc | apply Kept.drewN | apply Kept.drew | refine Kept.setCell ?_ (.inr GW187.out) _) | exact HK.out)) hkp (fun k_ hs_ => (fun e_ => (HO0_1.out.1 k_ e_.symm).1) hs_)); replace HO0_1 := am_ (Kd.R_reok rfl hy0 (fun k_ e_ => HO0_1.out.1 k_ e_)); replace HB := am_ hb; (try clear hb); (try clear hkp); (try clear hy0)))
 go_ret
 exact ⟨Sh.eR, Sh.rl (Kd.R_mono HO0_0.out (fun _ hk => hk.1)), Sh.rl (Kd.R_mono HO0_1.out (fun _ hk => hk.1)), Sh.bw, by repeat (first | (with_reducible first | exact HK.out | apply Kept.alloc | apply Kept.drewN | apply Kept.drew | refine Kept.setCell ?_ (.inr GW187.out) _) | exact HK.out)⟩

theorem laws_markLasso.callsQ (k : Nat) (P0_0_ : Nat → Prop) (u9000_ : Value) (l0_0 : List Int) (P0_1_ : Nat → Prop) (u9001_ : Value) (l0_1 : List Int) (a1 : Int) (r1 : Int) (r2 : List Int) (r3 : List Int) (w0 w : World) (hB : Below w0.heap.size w0 w) (ho0_0 : Kd.Q (Kd.int .i64) 3 w w0.heap.size P0_0_ u9000_ l0_0) (hp0_0_0_1 : ∀ k_, P0_0_ k_ → ¬ P0_1_ k_) (ho0_1 : Kd.Q (Kd.int .i64) 3 w w0.heap.size P0_1_ u9001_ l0_1) (hp0_1_0_0 : ∀ k_, P0_1_ k_ → ¬ P0_0_ k_) (h : laws_markLasso.f k l0_0 l0_1 a1 = some (r1, r2, r3)) :
  Calls Try.prog 9 #[.agg #[u9000_, u9001_], .int .i64 a1] w fun e w' => e = .returned (.int .i64 r1) ∧ Kd.Q (Kd.int .i64) 3 w' w0.heap.size (fun k_ => ((P0_0_ k_ ∨ P0_1_ k_) ∨ w.heap.size ≤ k_)) u9000_ r2 ∧ Kd.Q (Kd.int .i64) 3 w' w0.heap.size (fun k_ => ((P0_0_ k_ ∨ P0_1_ k_) ∨ w.heap.size ≤ k_)) u9001_ r3 ∧ Below w0.heap.size w0 w' ∧ Kept w w' (fun k_ => P0_0_ k_ ∨ P0_1_ k_) := by
 have hu26 := Try.underlying26
 have HO0_0 := am_ (show Kd.Q (Kd.int .i64) 3 w w0.heap.size (fun k_ => ((P0_0_ k_ ∨ P0_1_ k_) ∨ w.heap.size ≤ k_) ∧ some k_ ≠ (u9001_ : Value).ownBlock) u9000_ l0_0 from Kd.Q_mono ho0_0 (fun k_ hk => ⟨(.inl (.inl hk)), fun e_ => hp0_0_0_1 k_ hk (ho0_1.1 k_ e_.symm)⟩))
 have HO0_1 := am_ (show Kd.Q (Kd.int .i64) 3 w w0.heap.size (fun k_ => ((P0_0_ k_ ∨ P0_1_ k_) ∨ w.heap.size ≤ k_) ∧ some k_ ≠ (u9000_ : Value).ownBlock) u9001_ l0_1 from Kd.Q_mono ho0_1 (fun k_ hk => ⟨(.inl (.inr hk)), fun e_ => hp0_1_0_0 k_ hk (ho0_0.1 k_ e_.symm)⟩))
 have HK := am_ (Kept.refl w (fun k_ => P0_0_ k_ ∨ P0_1_ k_))
 have HW0 := am_ hB.size
 have HB := am_ hB
 clear hB
 have H := h
 clear h
 unfold laws_markLasso.f at H
 obtain ⟨⟨t188, t189⟩, A30, H⟩ := Sh.bd H
 have A3 := am_ A30
 clear A30
 obtain ⟨⟨t190, t191⟩, A40, H⟩ := Sh.bd H
 have A4 := am_ A40
 clear A40
 simp only [Option.some.injEq, Prod.mk.injEq] at H
 obtain ⟨rfl, rfl, rfl⟩ := H
 obtain ⟨Ao5, co5, eo5⟩ := ll_slice HO0_0.out
 subst eo5
 obtain ⟨Ao6, co6, eo6⟩ := ll_slice HO0_1.out
 subst eo6
 go_enter Try.func9, Try.ntmps9
 go_wp2_with (first | ((with_reducible refine Sh.d 2 ?_); refine Sh.bx (N := 2) (cs := #[.slice Ao5 l0_0.length co5, .slice Ao6 l0_1.length co6]) (t := 26) (h := ?_); intro gb187 hg w7 hbox hb; replace HO0_0 := am_ (Kd.Q_below (ll_rl HO0_0.out) hb); replace HO0_1 := am_ (Kd.Q_below (ll_rl HO0_1.out) hb); have BK187 := am_ hbox; have GW187 := am_ ((by rw [hg]; exact (by first | exact HK.out.1 | exact (show Kept w _ (fun k_ => P0_0_ k_ ∨ P0_1_ k_) from by repeat (first | (with_reducible first | exact HK.out | apply Kept.alloc | apply Kept.drewN | apply Kept.drew) | exact HK.out)).1) : w.heap.size ≤ gb187)); replace HK := am_ (Kept.below (S := (fun k_ => P0_0_ k_ ∨ P0_1_ k_)) (by repeat (first | (with_reducible first | exact HK.out | apply Kept.alloc | apply Kept.drewN | apply Kept.drew) | exact HK.out)) hb); have GE187 := am_ ((by rw [hg]; exact (below_size Sh.bw) : w0.heap.size ≤ gb187)); replace HB := Sh.hb hb; clear hb hbox hg; obtain ⟨hcz8_0, hcz8_1, hfz8_0, hfz8_1⟩ := Sh.b2 BK187.out) | ((with_reducible refine Sh.k 21 ?_); refine Sh.gL (some 8) Try.func21 #[.slice Ao5 l0_0.length co5, .int .i64 a1] (h := ?_); (with_reducible refine (laws_markIntS.callsQ k (fun k_ => some k_ = (.slice Ao5 l0_0.length co5 : Value).ownBlock) (.slice Ao5 l0_0.length co5) l0_0 a1 t188 t189 w0 _ ?side1 ?side2 A3.out).mono ?_); (case side1 => repeat (first | (with_reducible first | exact HB.out | apply below_alloc | apply pw_below_drewN | apply below_drew1 | refine below_set ?_ GE187.out) | exact HB.out)); (case side2 => exact Kd.Q_tight rfl HO0_0.out); rintro e w9 ⟨rfl, hy0, hb, hkp⟩; refine ⟨_, rfl, ?_⟩; replace HO0_1 := am_ (Kd.Q_mono (ok' := fun k_ => ((P0_0_ k_ ∨ P0_1_ k_) ∨ w.heap.size ≤ k_) ∧ some k_ ≠ (.slice Ao5 l0_0.length co5 : Value).ownBlock) (Kd.Q_keptB (HO0_1.out) hkp (fun k_ hk_ hs_ => (hk_.2) hs_)) (fun k_ h => ⟨h.1.1, h.1.2⟩)); replace BK187 := am_ (blk_kept (Sh.pl BK187.out) hkp (fun hs_ => (fun e_ => (Kd.Q_ne HO0_0.out BK187.out (by decide)) e_) hs_)); replace HK := am_ (Kept.then_ (S := (fun k_ => P0_0_ k_ ∨ P0_1_ k_)) (by repeat (first | (with_reducible first | exact HK.out | apply Kept.alloc | apply Kept.drewN | apply Kept.drew | refine Kept.setCell ?_ (.inr GW187.out) _) | exact HK.out)) hkp (fun k_ hs_ => (fun e_ => (HO0_0.out.1 k_ e_.symm).1) hs_)); replace HO0_0 := am_ (ll_reok rfl hy0 (fun k_ e_ => HO0_0.out.1 k_ e_)); replace HB := am_ hb; (try clear hb); (try clear hkp); (try clear hy0); obtain ⟨hcz10_0, hcz10_1, hfz10_0, hfz10_1⟩ := Sh.b2 BK187.out) | ((with_reducible refine Sh.k 21 ?_); refine Sh.gL (some 12) Try.func21 #[.slice Ao6 l0_1.length co6, .int .i64 t188] (h := ?_); (with_reducible refine (laws_markIntS.callsQ k (fun k_ => some k_ = (.slice Ao6 l0_1.length co6 : Value).ownBlock) (.slice Ao6 l0_1.length co6) l0_1 t188 t190 t191 w0 _ ?side1 ?side2 A4.out).mono ?_); (case side1 => repeat (first | (with_reducible first | exact HB.out | apply below_alloc | apply pw_below_drewN | apply below_drew1 | refine below_set ?_ GE187.out) | exact HB.out)); (case side2 => exact Kd.Q_tight rfl HO0_1.out); rintro e w11 ⟨rfl, hy0, hb, hkp⟩; refine ⟨_, rfl, ?_⟩; replace HO0_0 := am_ (Kd.Q_mono (ok' := fun k_ => ((P0_0_ k_ ∨ P0_1_ k_) ∨ w.heap.size ≤ k_) ∧ some k_ ≠ (.slice Ao6 l0_1.length co6 : Value).ownBlock) (Kd.Q_keptB (HO0_0.out) hkp (fun k_ hk_ hs_ => (hk_.2) hs_)) (fun k_ h => ⟨h.1.1, h.1.2⟩)); replace BK187 := am_ (blk_kept (Sh.pl BK187.out) hkp (fun hs_ => (fun e_ => (Kd.Q_ne HO0_1.out BK187.out (by decide)) e_) hs_)); replace HK := am_ (Kept.then_ (S := (fun k_ => P0_0_ k_ ∨ P0_1_ k_)) (by repeat (first | (with_reducible first | exact HK.out | apply Kept.alloc | apply Kept.drewN | apply Kept.drew | refine Kept.setCell ?_ (.inr GW187.out) _) | exact HK.out)) hkp (fun k_ hs_ => (fun e_ => (HO0_1.out.1 k_ e_.symm).1) hs_)); replace HO0_1 := am_ (ll_reok rfl hy0 (fun k_ e_ => HO0_1.out.1 k_ e_)); replace HB := am_ hb; (try clear hb); (try clear hkp); (try clear hy0)))
 go_ret
 exact ⟨Sh.eR, ll_rl (Kd.Q_mono HO0_0.out (fun _ hk => hk.1)), ll_rl (Kd.Q_mono HO0_1.out (fun _ hk => hk.1)), Sh.bw, by repeat (first | (with_reducible first | exact HK.out | apply Kept.alloc | apply Kept.drewN | apply Kept.drew | refine Kept.setCell ?_ (.inr GW187.out) _) | exact HK.out)⟩
def laws_heldIntS.l0 : Nat → List Int → Int → Int → Option (Int)
 | 0, _, _, _ => none
 | k + 1, x0, x1, x5 => if x5 < (x0.length : Int) then (if 0 ≤ x5 then (if (rd x0 x5) = x1 then (laws_heldIntS.l0 k x0 (wrap64 (x1 + 1)) (wrap64 (x5 + 1))) else (some (-1))) else (none)) else (some x1)
def laws_heldIntS.f (k : Nat) (l0 : List Int) (a1 : Int) : Option (Int) := laws_heldIntS.l0 k l0 a1 0
theorem laws_heldIntS.mono_l : ∀ k, (∀ y0 y1 y2, LeO (laws_heldIntS.l0 k y0 y1 y2) (laws_heldIntS.l0 (k + 1) y0 y1 y2))
 | 0 => fun _ _ _ r h => by simp [laws_heldIntS.l0] at h
 | k + 1 => by
  have ih0 := laws_heldIntS.mono_l k
  ·intro y0 y1 y2
   unfold laws_heldIntS.l0
   repeat' with_reducible first | apply ih0 | exact LeO.refl _ | exact LeO.none _ | apply LeO.ite | refine LeO.bind ?_ fun _ => ?_
theorem laws_heldIntS.mono : ∀ a0 a1 k, LeO (laws_heldIntS.f k a0 a1) (laws_heldIntS.f (k + 1) a0 a1) := by
 intro a0 a1 k
 have ih0 := laws_heldIntS.mono_l k
 unfold laws_heldIntS.f
 repeat' with_reducible first | apply ih0 | exact LeO.refl _ | exact LeO.none _ | apply LeO.ite | refine LeO.bind ?_ fun _ => ?_
theorem laws_heldIntS.calls (k : Nat) (A0 : Option Addr) (c0 : Nat) (l0 : List Int) (a1 : Int) (r : Int) (w : World) (hr0 : Kd.C (Kd.int .i64) w A0 l0.length l0) (hc0 : l0.length ≤ c0) (h : laws_heldIntS.f k l0 a1 = some r) :
  Calls Try.prog 22 #[.slice A0 l0.length c0, .int .i64 a1] w fun e w' => e = .returned (.int .i64 r) ∧ Drawn0 w w' := by
 have HR0 := am_ hr0
 have HC0 := am_ hc0
 clear hr0 hc0
 have H := h
 clear h
 unfold laws_heldIntS.f at H
 have H' := am_ H
 clear H
 go_enter Try.func22, Try.ntmps22
 go_wp2
 go_loopg [1, 5] k (fun kq v1 v5 w' => ∃ (x1_1 : Int) (x5_1 : Int), v1 = .int .i64 x1_1 ∧ v5 = .int .i64 x5_1 ∧ Aside0 (laws_heldIntS.l0 kq l0 x1_1 x5_1 = some r) ∧ Aside0 (kq ≤ k) ∧ Drawn0 w w')
 case atStart => exact ⟨(a1), (0), (Sh.es), (Sh.es), H', ⟨Nat.le_refl _⟩, Sh.dr⟩
 case round =>
  clear H'
  obtain ⟨x1_1, x5_1, rfl, rfl, HA, HK1, ⟨m1, rfl⟩⟩ := hrel
  cases gk with
  | zero => exact absurd HA.out (by simp [laws_heldIntS.l0])
  | succ k1 =>
   have H := HA.out
   clear HA
   simp only [laws_heldIntS.l0] at H
   by_cases c3 : x5_1 < (l0.length : Int)
   ·rw [if_pos c3] at H
    have c3b0 := decide_eq_true c3
    clear c3
    by_cases c4 : 0 ≤ x5_1
    ·rw [if_pos c4] at H
     have c4b0 := decide_eq_true c4
     clear c4
     by_cases c5 : (rd l0 x5_1) = x1_1
     ·rw [if_pos c5] at H
      have c5b0 : ((rd l0 x5_1) == x1_1) = true := beq_iff_eq.mpr c5
      have c5b1 : ((rd l0 x5_1) != x1_1) = false := bne_eq_false_iff_eq.mpr c5
      clear c5
      have H' := am_ H
      clear H
      have p192 : 0 ≤ (x5_1 : Int) := Sh.od
      have q192 : x5_1 < (l0.length : Int) := Sh.od
      obtain ⟨ad192, e192, hx192_0⟩ := Kd.at_int HR0.out x5_1 p192 q192
      cases e192
      replace p192 := eq_true p192
      replace q192 := eq_true q192
      go_wp2
      go_roundg k1
      case measure => have := HK1.out; omega
      case rel => exact ⟨(wrap64 (x1_1 + 1)), (wrap64 (x5_1 + 1)), (Sh.es), (Sh.es), H', ⟨by have := HK1.out; omega⟩, Sh.dr⟩
     ·rw [if_neg c5] at H
      have c5b0 : ((rd l0 x5_1) == x1_1) = false := beq_eq_false_iff_ne.mpr c5
      have c5b1 : ((rd l0 x5_1) != x1_1) = true := bne_iff_ne.mpr c5
      obtain rfl := Option.some.inj H
      have p192 : 0 ≤ (x5_1 : Int) := Sh.od
      have q192 : x5_1 < (l0.length : Int) := Sh.od
      obtain ⟨ad192, e192, hx192_0⟩ := Kd.at_int HR0.out x5_1 p192 q192
      cases e192
      replace p192 := eq_true p192
      replace q192 := eq_true q192
      go_wp2
      go_ret
      exact ⟨Sh.es, Sh.dr⟩
    ·rw [if_neg c4] at H
     exact absurd H (by simp)
   ·rw [if_neg c3] at H
    have c3b0 := decide_eq_false c3
    clear c3
    obtain rfl := Option.some.inj H
    go_wp2
    go_ret
    exact ⟨Sh.es, Sh.dr⟩
def laws_heldLasso.f (k : Nat) (l0_0 : List Int) (l0_1 : List Int) (a1 : Int) : Option (Int) := (laws_heldIntS.f k l0_0 a1).bind fun t194 => (if t194 < 0 then (some (-1)) else ((laws_heldIntS.f k l0_1 t194).bind fun t195 => (if t195 < 0 then (some (-1)) else (some t195))))
theorem laws_heldLasso.mono : ∀ a0 a1 a2 k, LeO (laws_heldLasso.f k a0 a1 a2) (laws_heldLasso.f (k + 1) a0 a1 a2) := by
 intro a0 a1 a2 k
 unfold laws_heldLasso.f
 repeat' with_reducible first | apply laws_heldIntS.mono | exact LeO.refl _ | exact LeO.none _ | apply LeO.ite | refine LeO.bind ?_ fun _ => ?_
theorem laws_heldLasso.calls (k : Nat) (A0_0 : Option Addr) (c0_0 : Nat) (l0_0 : List Int) (A0_1 : Option Addr) (c0_1 : Nat) (l0_1 : List Int) (a1 : Int) (r : Int) (w : World) (hr0_0 : Kd.C (Kd.int .i64) w A0_0 l0_0.length l0_0) (hc0_0 : l0_0.length ≤ c0_0) (hr0_1 : Kd.C (Kd.int .i64) w A0_1 l0_1.length l0_1) (hc0_1 : l0_1.length ≤ c0_1) (h : laws_heldLasso.f k l0_0 l0_1 a1 = some r) :
  Calls Try.prog 10 #[.agg #[.slice A0_0 l0_0.length c0_0, .slice A0_1 l0_1.length c0_1], .int .i64 a1] w fun e w' => e = .returned (.int .i64 r) ∧ Below w.heap.size w w' := by
 have hu26 := Try.underlying26
 have HR0_0 := am_ hr0_0
 have HC0_0 := am_ hc0_0
 clear hr0_0 hc0_0
 have HR0_1 := am_ hr0_1
 have HC0_1 := am_ hc0_1
 clear hr0_1 hc0_1
 have HB := am_ (Below.refl w.heap.size w)
 have H := h
 clear h
 unfold laws_heldLasso.f at H
 obtain ⟨t194, A3, H⟩ := Sh.ba H
 by_cases c4 : t194 < 0
 ·rw [if_pos c4] at H
  have c4b0 := decide_eq_true c4
  clear c4
  obtain rfl := Option.some.inj H
  go_enter Try.func10, Try.ntmps10
  go_wp2_with (first | ((with_reducible refine Sh.d 2 ?_); refine Sh.bz w (N := 2) (cs := #[.slice A0_0 l0_0.length c0_0, .slice A0_1 l0_1.length c0_1]) (t := 26) (h := ?_); clear HB; intro gb193 w5 BK193 GE193 HB; obtain ⟨hcz6_0, hcz6_1, hfz6_0, hfz6_1⟩ := Sh.b2 BK193.out) | ((with_reducible refine Sh.k 22 ?_); refine Sh.gD (some 8) Try.func22 #[.slice A0_0 l0_0.length c0_0, .int .i64 a1] (laws_heldIntS.calls k _ _ l0_0 a1 t194 _ (Sh.cB HR0_0.out) HC0_0.out A3.out) fun nd => ?_))
  go_ret
  exact ⟨Sh.eR, Sh.bw⟩
 ·rw [if_neg c4] at H
  have c4b0 := decide_eq_false c4
  clear c4
  obtain ⟨t195, A7, H⟩ := Sh.ba H
  by_cases c8 : t195 < 0
  ·rw [if_pos c8] at H
   have c8b0 := decide_eq_true c8
   clear c8
   obtain rfl := Option.some.inj H
   go_enter Try.func10, Try.ntmps10
   go_wp2_with (first | ((with_reducible refine Sh.d 2 ?_); refine Sh.bz w (N := 2) (cs := #[.slice A0_0 l0_0.length c0_0, .slice A0_1 l0_1.length c0_1]) (t := 26) (h := ?_); clear HB; intro gb193 w9 BK193 GE193 HB; obtain ⟨hcz10_0, hcz10_1, hfz10_0, hfz10_1⟩ := Sh.b2 BK193.out) | ((with_reducible refine Sh.k 22 ?_); refine Sh.gD (some 8) Try.func22 #[.slice A0_0 l0_0.length c0_0, .int .i64 a1] (laws_heldIntS.calls k _ _ l0_0 a1 t194 _ (Sh.cB HR0_0.out) HC0_0.out A3.out) fun nd => ?_) | ((with_reducible refine Sh.k 22 ?_); refine Sh.gD (some 14) Try.func22 #[.slice A0_1 l0_1.length c0_1, .int .i64 t194] (laws_heldIntS.calls k _ _ l0_1 t194 t195 _ (Sh.cB HR0_1.out) HC0_1.out A7.out) fun nd => ?_))
   go_ret
   exact ⟨Sh.eR, Sh.bw⟩
  ·rw [if_neg c8] at H
   have c8b0 := decide_eq_false c8
   clear c8
   obtain rfl := Option.some.inj H
   go_enter Try.func10, Try.ntmps10
   go_wp2_with (first | ((with_reducible refine Sh.d 2 ?_); refine Sh.bz w (N := 2) (cs := #[.slice A0_0 l0_0.length c0_0, .slice A0_1 l0_1.length c0_1]) (t := 26) (h := ?_); clear HB; intro gb193 w11 BK193 GE193 HB; obtain ⟨hcz12_0, hcz12_1, hfz12_0, hfz12_1⟩ := Sh.b2 BK193.out) | ((with_reducible refine Sh.k 22 ?_); refine Sh.gD (some 8) Try.func22 #[.slice A0_0 l0_0.length c0_0, .int .i64 a1] (laws_heldIntS.calls k _ _ l0_0 a1 t194 _ (Sh.cB HR0_0.out) HC0_0.out A3.out) fun nd => ?_) | ((with_reducible refine Sh.k 22 ?_); refine Sh.gD (some 14) Try.func22 #[.slice A0_1 l0_1.length c0_1, .int .i64 t194] (laws_heldIntS.calls k _ _ l0_1 t194 t195 _ (Sh.cB HR0_1.out) HC0_1.out A7.out) fun nd => ?_))
   go_ret
   exact ⟨Sh.eR, Sh.bw⟩
mutual
def laws_FnExactLeastLasso.j0 : Nat → Bool → Bool → Bool → List Int → List Int → List Int → List Int → List Int → List Int → List Int → List Int → Option (Bool)
 | 0, _, _, _, _, _, _, _, _, _, _, _ => none
 | k + 1, x5, x8, x40, x197000, x197001, x212000, x212001, x219000, x219001, x227000, x227001 => if x40 = true then (some false) else ((laws_toLasso.f k x197000 x197001).bind fun bt228 => ((laws_eqLasso.f k x219000 x219001 bt228.1 bt228.2).bind fun t234 => (if t234 = true then ((laws_markLasso.f k x219000 x219001 1).bind fun bt235 => (if bt235.1 < 0 then (laws_FnExactLeastLasso.j1 k x5 true x197000 x197001 x212000 x212001 x227000 x227001) else ((laws_eqLasso.f k x227000 x227001 x212000 x212001).bind fun t238 => (if t238 = true then (laws_FnExactLeastLasso.j1 k x5 (x8 != x5) x197000 x197001 x212000 x212001 x227000 x227001) else (laws_FnExactLeastLasso.j1 k x5 true x197000 x197001 x212000 x212001 x227000 x227001))))) else (some false))))
def laws_FnExactLeastLasso.j1 : Nat → Bool → Bool → List Int → List Int → List Int → List Int → List Int → List Int → Option (Bool)
 | 0, _, _, _, _, _, _, _, _ => none
 | k + 1, x5, x61, x197000, x197001, x212000, x212001, x227000, x227001 => if x61 = true then (some false) else ((laws_markLasso.f k x227000 x227001 1).bind fun bt239 => ((laws_heldLasso.f k bt239.2.1 bt239.2.2 1).bind fun t242 => (if t242 < 0 then (some false) else (if t242 = bt239.1 then ((laws_toLasso.f k x197000 x197001).bind fun bt243 => ((impl_LeastLasso.f k bt243.1 bt243.2).bind fun bt249 => ((laws_eqLasso.f k bt249.1 bt249.2.1 x212000 x212001).bind fun t257 => (if t257 = true then (laws_FnExactLeastLasso.j2 k bt239.1 (bt249.2.2 != x5) bt239.2.1 bt239.2.2) else (laws_FnExactLeastLasso.j2 k bt239.1 true bt239.2.1 bt239.2.2))))) else (some false)))))
def laws_FnExactLeastLasso.j2 : Nat → Int → Bool → List Int → List Int → Option (Bool)
 | 0, _, _, _, _ => none
 | k + 1, x10, x87, x227000, x227001 => if x87 = true then (some false) else ((laws_heldLasso.f k x227000 x227001 1).bind fun t258 => (if t258 < 0 then (some false) else (if t258 = x10 then (some true) else (some false))))
end
def laws_FnExactLeastLasso.f (k : Nat) (l0_0 : List Int) (l0_1 : List Int) : Option (Bool) := (laws_szLasso.f l0_0 l0_1 1048576).bind fun t197 => (if t197 < 0 then (some true) else ((laws_toLasso.f k l0_0 l0_1).bind fun bt198 => ((spec_LeastLasso.f k bt198.1 bt198.2).bind fun bt204 => ((laws_toLasso.f k l0_0 l0_1).bind fun bt212 => ((impl_LeastLasso.f k bt212.1 bt212.2).bind fun bt219 => ((laws_eqLasso.f k bt219.1 bt219.2.1 bt204.1 bt204.2.1).bind fun t227 => (if t227 = true then (laws_FnExactLeastLasso.j0 k bt204.2.2 bt219.2.2 (bt219.2.2 != bt204.2.2) l0_0 l0_1 bt204.1 bt204.2.1 bt212.1 bt212.2 bt219.1 bt219.2.1) else (laws_FnExactLeastLasso.j0 k bt204.2.2 bt219.2.2 true l0_0 l0_1 bt204.1 bt204.2.1 bt212.1 bt212.2 bt219.1 bt219.2.1))))))))
theorem laws_FnExactLeastLasso.mono_l : ∀ k, (∀ y0 y1 y2 y3 y4 y5 y6 y7 y8 y9 y10, LeO (laws_FnExactLeastLasso.j0 k y0 y1 y2 y3 y4 y5 y6 y7 y8 y9 y10) (laws_FnExactLeastLasso.j0 (k + 1) y0 y1 y2 y3 y4 y5 y6 y7 y8 y9 y10)) ∧ (∀ y0 y1 y2 y3 y4 y5 y6 y7, LeO (laws_FnExactLeastLasso.j1 k y0 y1 y2 y3 y4 y5 y6 y7) (laws_FnExactLeastLasso.j1 (k + 1) y0 y1 y2 y3 y4 y5 y6 y7)) ∧ (∀ y0 y1 y2 y3, LeO (laws_FnExactLeastLasso.j2 k y0 y1 y2 y3) (laws_FnExactLeastLasso.j2 (k + 1) y0 y1 y2 y3))
 | 0 => ⟨fun _ _ _ _ _ _ _ _ _ _ _ r h => by simp [laws_FnExactLeastLasso.j0] at h, fun _ _ _ _ _ _ _ _ r h => by simp [laws_FnExactLeastLasso.j1] at h, fun _ _ _ _ r h => by simp [laws_FnExactLeastLasso.j2] at h⟩
 | k + 1 => by
  obtain ⟨ih0, ih1, ih2⟩ := laws_FnExactLeastLasso.mono_l k
  and_intros <;> intros
  all_goals (first | unfold laws_FnExactLeastLasso.j0 | unfold laws_FnExactLeastLasso.j1 | unfold laws_FnExactLeastLasso.j2)
  all_goals repeat' with_reducible first | apply ih0 | apply ih1 | apply ih2 | apply impl_LeastLasso.mono | apply laws_eqLasso.mono | apply laws_heldLasso.mono | apply laws_markLasso.mono | apply laws_toLasso.mono | apply spec_LeastLasso.mono | exact LeO.refl _ | exact LeO.none _ | apply LeO.ite | refine LeO.bind ?_ fun _ => ?_
theorem laws_FnExactLeastLasso.mono : ∀ a0 a1 k, LeO (laws_FnExactLeastLasso.f k a0 a1) (laws_FnExactLeastLasso.f (k + 1) a0 a1) := by
 intro a0 a1 k
 obtain ⟨ih0, ih1, ih2⟩ := laws_FnExactLeastLasso.mono_l k
 unfold laws_FnExactLeastLasso.f
 repeat' with_reducible first | apply ih0 | apply ih1 | apply ih2 | apply impl_LeastLasso.mono | apply laws_eqLasso.mono | apply laws_heldLasso.mono | apply laws_markLasso.mono | apply laws_toLasso.mono | apply spec_LeastLasso.mono | exact LeO.refl _ | exact LeO.none _ | apply LeO.ite | refine LeO.bind ?_ fun _ => ?_
theorem laws_toLasso.callsQ (k : Nat) (A0_0 : Option Addr) (c0_0 : Nat) (l0_0 : List Int) (A0_1 : Option Addr) (c0_1 : Nat) (l0_1 : List Int) (r1 : List Int) (r2 : List Int) (w : World) (hr0_0 : Kd.C (Kd.int .i64) w A0_0 l0_0.length l0_0) (hc0_0 : l0_0.length ≤ c0_0) (hr0_1 : Kd.C (Kd.int .i64) w A0_1 l0_1.length l0_1) (hc0_1 : l0_1.length ≤ c0_1) (h : laws_toLasso.f k l0_0 l0_1 = some (r1, r2)) :
  Calls Try.prog 6 #[.agg #[.slice A0_0 l0_0.length c0_0, .slice A0_1 l0_1.length c0_1]] w fun e w' => ∃ v0_ v1_ : Value, e = .returned (.agg #[v0_, v1_]) ∧ Kd.Q (Kd.int .i64) 3 w' w.heap.size (fun k_ => some k_ ≠ (v1_ : Value).ownBlock) v0_ r1 ∧ Kd.Q (Kd.int .i64) 3 w' w.heap.size (fun k_ => some k_ ≠ (v0_ : Value).ownBlock) v1_ r2 ∧ Below w.heap.size w w' := by
 refine (laws_toLasso.calls k A0_0 c0_0 l0_0 A0_1 c0_1 l0_1 r1 r2 w hr0_0 hc0_0 hr0_1 hc0_1 h).mono ?_
 rintro e w' h
 obtain ⟨v0, v1, h1, h2, h3, h4⟩ := h
 exact ⟨v0, v1, h1, Kd.Q_of_R h2, Kd.Q_of_R h3, h4⟩
theorem spec_LeastLasso.callsQ (k : Nat) (A0_0 : Option Addr) (c0_0 : Nat) (l0_0 : List Int) (A0_1 : Option Addr) (c0_1 : Nat) (l0_1 : List Int) (r1 : List Int) (r2 : List Int) (r3 : Bool) (w : World) (hr0_0 : Kd.C (Kd.int .i64) w A0_0 l0_0.length l0_0) (hc0_0 : l0_0.length ≤ c0_0) (hr0_1 : Kd.C (Kd.int .i64) w A0_1 l0_1.length l0_1) (hc0_1 : l0_1.length ≤ c0_1) (h : spec_LeastLasso.f k l0_0 l0_1 = some (r1, r2, r3)) :
  Calls Try.prog 5 #[.agg #[.slice A0_0 l0_0.length c0_0, .slice A0_1 l0_1.length c0_1]] w fun e w' => ∃ v0_ v1_ : Value, e = .returned (.tuple #[.agg #[v0_, v1_], .bool r3]) ∧ Kd.Q (Kd.int .i64) 3 w' w.heap.size (fun k_ => some k_ ≠ (v1_ : Value).ownBlock) v0_ r1 ∧ Kd.Q (Kd.int .i64) 3 w' w.heap.size (fun k_ => some k_ ≠ (v0_ : Value).ownBlock) v1_ r2 ∧ Below w.heap.size w w' := by
 refine (spec_LeastLasso.calls k A0_0 c0_0 l0_0 A0_1 c0_1 l0_1 r1 r2 r3 w hr0_0 hc0_0 hr0_1 hc0_1 h).mono ?_
 rintro e w' h
 obtain ⟨v0, v1, h1, h2, h3, h4⟩ := h
 exact ⟨v0, v1, h1, Kd.Q_of_R h2, Kd.Q_of_R h3, h4⟩
theorem laws_FnExactLeastLasso.calls (k : Nat) (A0_0 : Option Addr) (c0_0 : Nat) (l0_0 : List Int) (A0_1 : Option Addr) (c0_1 : Nat) (l0_1 : List Int) (r : Bool) (w : World) (hr0_0 : Kd.C (Kd.int .i64) w A0_0 l0_0.length l0_0) (hc0_0 : l0_0.length ≤ c0_0) (hr0_1 : Kd.C (Kd.int .i64) w A0_1 l0_1.length l0_1) (hc0_1 : l0_1.length ≤ c0_1) (h : laws_FnExactLeastLasso.f k l0_0 l0_1 = some r) :
  Calls Try.prog 3 #[.agg #[.slice A0_0 l0_0.length c0_0, .slice A0_1 l0_1.length c0_1]] w fun e w' => e = .returned (.bool r) ∧ Below w.heap.size w w' := by
 have hu24 := Try.underlying24
 have hu26 := Try.underlying26
 have HR0_0 := am_ hr0_0
 have HC0_0 := am_ hc0_0
 clear hr0_0 hc0_0
 have HR0_1 := am_ hr0_1
 have HC0_1 := am_ hc0_1
 clear hr0_1 hc0_1
 have HB := am_ (Below.refl w.heap.size w)
 have H := h
 clear h
 unfold laws_FnExactLeastLasso.f at H
 obtain ⟨t197, A2, H⟩ := Sh.ba H
 by_cases c3 : t197 < 0
 ·rw [if_pos c3] at H
  have c3b0 := decide_eq_true c3
  clear c3
  obtain rfl := Option.some.inj H
  go_enter Try.func3, Try.ntmps3
  go_wp2_with (first | ((with_reducible refine Sh.d 1 ?_); refine Sh.bz w (N := 1) (cs := #[.slice A0_0 l0_0.length c0_0, .slice A0_1 l0_1.length c0_1]) (t := 24) (h := ?_); clear HB; intro gb196 w4 BK196 GE196 HB; obtain ⟨hcz5_0, hcz5_1, hfz5_0, hfz5_1⟩ := Sh.b2 BK196.out) | ((with_reducible refine Sh.k 4 ?_); refine Sh.gB (some 16) Try.func4 #[.agg #[.slice A0_0 l0_0.length c0_0, .slice A0_1 l0_1.length c0_1], .int .i64 1048576] (laws_szLasso.calls _ _ l0_0 _ _ l0_1 1048576 t197 _ (Sh.cB HR0_0.out) HC0_0.out (Sh.cB HR0_1.out) HC0_1.out A2.out) fun w6 hb => ?_; replace BK196 := Sh.ab BK196 hb; replace HB := Sh.hb hb; (try clear hb); (try clear hb2); (try clear hk); (try clear hi)))
  go_ret
  exact ⟨Sh.eR, Sh.bw⟩
 ·rw [if_neg c3] at H
  have c3b0 := decide_eq_false c3
  clear c3
  obtain ⟨⟨t198, t201⟩, A70, H⟩ := Sh.bd H
  have A7 := am_ A70
  clear A70
  obtain ⟨⟨t204, t207, t210⟩, A80, H⟩ := Sh.bd H
  have A8 := am_ A80
  clear A80
  obtain ⟨⟨t212, t215⟩, A90, H⟩ := Sh.bd H
  have A9 := am_ A90
  clear A90
  obtain ⟨⟨t219, t222, t225⟩, A100, H⟩ := Sh.bd H
  have A10 := am_ A100
  clear A100
  have HC11 := am_ H
  clear H
  go_enter Try.func3, Try.ntmps3
  go_upto_region 8 with (first | ((with_reducible refine Sh.d 1 ?_); refine Sh.bz w (N := 1) (cs := #[.slice A0_0 l0_0.length c0_0, .slice A0_1 l0_1.length c0_1]) (t := 24) (h := ?_); clear HB; intro gb196 w12 BK196 GE196 HB; obtain ⟨hcz13_0, hcz13_1, hfz13_0, hfz13_1⟩ := Sh.b2 BK196.out) | ((with_reducible refine Sh.k 4 ?_); refine Sh.gB (some 16) Try.func4 #[.agg #[.slice A0_0 l0_0.length c0_0, .slice A0_1 l0_1.length c0_1], .int .i64 1048576] (laws_szLasso.calls _ _ l0_0 _ _ l0_1 1048576 t197 _ (Sh.cB HR0_0.out) HC0_0.out (Sh.cB HR0_1.out) HC0_1.out A2.out) fun w14 hb => ?_; replace BK196 := Sh.ab BK196 hb; replace HB := Sh.hb hb; (try clear hb); (try clear hb2); (try clear hk); (try clear hi); obtain ⟨hcz15_0, hcz15_1, hfz15_0, hfz15_1⟩ := Sh.b2 BK196.out) | ((with_reducible refine Sh.k 6 ?_); refine Sh.gL (some 21) Try.func6 #[.agg #[.slice A0_0 l0_0.length c0_0, .slice A0_1 l0_1.length c0_1]] (h := ?_); (with_reducible refine (laws_toLasso.callsQ k _ _ l0_0 _ _ l0_1 t198 t201 _ (Sh.cB HR0_0.out) HC0_0.out (Sh.cB HR0_1.out) HC0_1.out A7.out).mono ?_); rintro e w16 ⟨v199, v202, rfl, ho0, ho1, hb⟩; refine ⟨_, rfl, ?_⟩; have HO200 := am_ (Kd.Q_lower ho0 (below_size Sh.bw)); have HO203 := am_ (Kd.Q_lower ho1 (below_size Sh.bw)); replace BK196 := Sh.ab BK196 hb; replace HB := Sh.hb hb; (try clear hb); (try clear hb2); (try clear hk); (try clear hi); (try clear ho0); (try clear ho1); obtain ⟨Ao17, co17, eo17⟩ := ll_slice HO200.out; subst eo17; obtain ⟨Ao18, co18, eo18⟩ := ll_slice HO203.out; subst eo18) | ((with_reducible refine Sh.k 5 ?_); refine Sh.gL (some 22) Try.func5 #[.agg #[.slice Ao17 t198.length co17, .slice Ao18 t201.length co18]] (h := ?_); (with_reducible refine (spec_LeastLasso.callsQ k _ _ t198 _ _ t201 t204 t207 t210 _ (Sh.cR (Kd.Q_reads' HO200.out).2.2) (Kd.Q_reads' HO200.out).2.1 (Sh.cR (Kd.Q_reads' HO203.out).2.2) (Kd.Q_reads' HO203.out).2.1 A8.out).mono ?_); rintro e w19 ⟨v205, v208, rfl, ho0, ho1, hb⟩; refine ⟨_, rfl, ?_⟩; have HO206 := am_ (Kd.Q_lower (Kd.Q_new' (Kd.Q_new' ho0 (Kd.Q_lt (ll_rl HO200.out))) (Kd.Q_lt (ll_rl HO203.out))) (below_size Sh.bw)); have HO209 := am_ (Kd.Q_lower (Kd.Q_new' (Kd.Q_new' ho1 (Kd.Q_lt (ll_rl HO200.out))) (Kd.Q_lt (ll_rl HO203.out))) (below_size Sh.bw)); replace HO200 := am_ (Kd.Q_mono (Kd.Q_told (Kd.Q_told (Kd.Q_old (ll_rl HO200.out) hb) (Kd.Q_base ho0)) (Kd.Q_base ho1)) (fun _ h_ => h_.1)); replace HO203 := am_ (Kd.Q_mono (Kd.Q_told (Kd.Q_told (Kd.Q_old (ll_rl HO203.out) hb) (Kd.Q_base ho0)) (Kd.Q_base ho1)) (fun _ h_ => h_.1)); replace BK196 := Sh.ab BK196 hb; replace HB := Sh.hb hb; (try clear hb); (try clear hb2); (try clear hk); (try clear hi); (try clear ho0); (try clear ho1)) | ((with_reducible refine Sh.d 4 ?_); refine Sh.bx (N := 4) (cs := #[.slice none 0 0, .slice none 0 0]) (t := 26) (h := ?_); intro gb211 hg w20 hbox hb; replace HO200 := am_ (Kd.Q_below (ll_rl HO200.out) hb); replace HO203 := am_ (Kd.Q_below (ll_rl HO203.out) hb); replace HO206 := am_ (Kd.Q_below (ll_rl HO206.out) hb); replace HO209 := am_ (Kd.Q_below (ll_rl HO209.out) hb); have BK211 := am_ hbox; have GE211 := Sh.ag w hg; replace HB := Sh.hb hb; have NB196_211 := am_ (Sh.nl hg BK196.out); have NB211_196 := am_ (Sh.ng hg BK196.out); replace BK196 := Sh.ab BK196 hb; clear hb hbox hg; obtain ⟨Ao21, co21, eo21⟩ := ll_slice HO206.out; subst eo21; have hnb22 := NB211_196.out; have hnc22 := NB196_211.out; obtain ⟨hcz23_0, hcz23_1, hfz23_0, hfz23_1⟩ := Sh.b2 BK211.out; obtain ⟨Ao24, co24, eo24⟩ := ll_slice HO209.out; subst eo24; obtain ⟨hcz25_0, hcz25_1, hfz25_0, hfz25_1⟩ := Sh.b2 BK196.out) | ((with_reducible refine Sh.k 6 ?_); refine Sh.gL (some 26) Try.func6 #[.agg #[.slice A0_0 l0_0.length c0_0, .slice A0_1 l0_1.length c0_1]] (h := ?_); (with_reducible refine (laws_toLasso.callsQ k _ _ l0_0 _ _ l0_1 t212 t215 _ (Sh.cB HR0_0.out) HC0_0.out (Sh.cB HR0_1.out) HC0_1.out A9.out).mono ?_); rintro e w26 ⟨v213, v216, rfl, ho0, ho1, hb⟩; refine ⟨_, rfl, ?_⟩; have n0_ := am_ (Kd.Q_mono (Kd.Q_told (Kd.Q_told (Kd.Q_old (ll_rl (Kd.Q_mono (Kd.Q_far (p := ⟨gb211, 1, none⟩) (Kd.Q_far (p := ⟨gb211, 0, none⟩) (Kd.Q_types HO200.out BK211.out (by decide)) (fun _ hk => hk.2) (.slice Ao21 t204.length co21)) (fun _ hk => hk.2) (.slice Ao24 t207.length co24)) (fun _ h_ => h_.1))) hb) (Kd.Q_base ho0)) (Kd.Q_base ho1)) (fun _ h_ => h_.1)); have n1_ := am_ (Kd.Q_mono (Kd.Q_told (Kd.Q_told (Kd.Q_old (ll_rl (Kd.Q_mono (Kd.Q_far (p := ⟨gb211, 1, none⟩) (Kd.Q_far (p := ⟨gb211, 0, none⟩) (Kd.Q_types HO203.out BK211.out (by decide)) (fun _ hk => hk.2) (.slice Ao21 t204.length co21)) (fun _ hk => hk.2) (.slice Ao24 t207.length co24)) (fun _ h_ => h_.1))) hb) (Kd.Q_base ho0)) (Kd.Q_base ho1)) (fun _ h_ => h_.1)); have n2_ := am_ (Kd.Q_mono (Kd.Q_told (Kd.Q_told (Kd.Q_old (ll_rl (Kd.Q_mono (Kd.Q_far (p := ⟨gb211, 1, none⟩) (Kd.Q_far (p := ⟨gb211, 0, none⟩) (Kd.Q_types HO206.out BK211.out (by decide)) (fun _ hk => hk.2) (.slice Ao21 t204.length co21)) (fun _ hk => hk.2) (.slice Ao24 t207.length co24)) (fun _ h_ => h_.1))) hb) (Kd.Q_base ho0)) (Kd.Q_base ho1)) (fun _ h_ => h_.1)); have n3_ := am_ (Kd.Q_mono (Kd.Q_told (Kd.Q_told (Kd.Q_old (ll_rl (Kd.Q_mono (Kd.Q_far (p := ⟨gb211, 1, none⟩) (Kd.Q_far (p := ⟨gb211, 0, none⟩) (Kd.Q_types HO209.out BK211.out (by decide)) (fun _ hk => hk.2) (.slice Ao21 t204.length co21)) (fun _ hk => hk.2) (.slice Ao24 t207.length co24)) (fun _ h_ => h_.1))) hb) (Kd.Q_base ho0)) (Kd.Q_base ho1)) (fun _ h_ => h_.1)); have n4_ := am_ (Kd.Q_lower (Kd.Q_new' (Kd.Q_new' (Kd.Q_new' (Kd.Q_new' ho0 (Kd.Q_lt (ll_rl (Kd.Q_mono (Kd.Q_far (p := ⟨gb211, 1, none⟩) (Kd.Q_far (p := ⟨gb211, 0, none⟩) (Kd.Q_types HO200.out BK211.out (by decide)) (fun _ hk => hk.2) (.slice Ao21 t204.length co21)) (fun _ hk => hk.2) (.slice Ao24 t207.length co24)) (fun _ h_ => h_.1))))) (Kd.Q_lt (ll_rl (Kd.Q_mono (Kd.Q_far (p := ⟨gb211, 1, none⟩) (Kd.Q_far (p := ⟨gb211, 0, none⟩) (Kd.Q_types HO203.out BK211.out (by decide)) (fun _ hk => hk.2) (.slice Ao21 t204.length co21)) (fun _ hk => hk.2) (.slice Ao24 t207.length co24)) (fun _ h_ => h_.1))))) (Kd.Q_lt (ll_rl (Kd.Q_mono (Kd.Q_far (p := ⟨gb211, 1, none⟩) (Kd.Q_far (p := ⟨gb211, 0, none⟩) (Kd.Q_types HO206.out BK211.out (by decide)) (fun _ hk => hk.2) (.slice Ao21 t204.length co21)) (fun _ hk => hk.2) (.slice Ao24 t207.length co24)) (fun _ h_ => h_.1))))) (Kd.Q_lt (ll_rl (Kd.Q_mono (Kd.Q_far (p := ⟨gb211, 1, none⟩) (Kd.Q_far (p := ⟨gb211, 0, none⟩) (Kd.Q_types HO209.out BK211.out (by decide)) (fun _ hk => hk.2) (.slice Ao21 t204.length co21)) (fun _ hk => hk.2) (.slice Ao24 t207.length co24)) (fun _ h_ => h_.1))))) (below_size Sh.bw)); have n5_ := am_ (Kd.Q_lower (Kd.Q_new' (Kd.Q_new' (Kd.Q_new' (Kd.Q_new' ho1 (Kd.Q_lt (ll_rl (Kd.Q_mono (Kd.Q_far (p := ⟨gb211, 1, none⟩) (Kd.Q_far (p := ⟨gb211, 0, none⟩) (Kd.Q_types HO200.out BK211.out (by decide)) (fun _ hk => hk.2) (.slice Ao21 t204.length co21)) (fun _ hk => hk.2) (.slice Ao24 t207.length co24)) (fun _ h_ => h_.1))))) (Kd.Q_lt (ll_rl (Kd.Q_mono (Kd.Q_far (p := ⟨gb211, 1, none⟩) (Kd.Q_far (p := ⟨gb211, 0, none⟩) (Kd.Q_types HO203.out BK211.out (by decide)) (fun _ hk => hk.2) (.slice Ao21 t204.length co21)) (fun _ hk => hk.2) (.slice Ao24 t207.length co24)) (fun _ h_ => h_.1))))) (Kd.Q_lt (ll_rl (Kd.Q_mono (Kd.Q_far (p := ⟨gb211, 1, none⟩) (Kd.Q_far (p := ⟨gb211, 0, none⟩) (Kd.Q_types HO206.out BK211.out (by decide)) (fun _ hk => hk.2) (.slice Ao21 t204.length co21)) (fun _ hk => hk.2) (.slice Ao24 t207.length co24)) (fun _ h_ => h_.1))))) (Kd.Q_lt (ll_rl (Kd.Q_mono (Kd.Q_far (p := ⟨gb211, 1, none⟩) (Kd.Q_far (p := ⟨gb211, 0, none⟩) (Kd.Q_types HO209.out BK211.out (by decide)) (fun _ hk => hk.2) (.slice Ao21 t204.length co21)) (fun _ hk => hk.2) (.slice Ao24 t207.length co24)) (fun _ h_ => h_.1))))) (below_size Sh.bw)); have n6_ := am_ (blk_below (g := gb196) (o := .cells #[.slice A0_0 l0_0.length c0_0, .slice A0_1 l0_1.length c0_1] 24 (0, 0)) (by refine Sh.pl ?_; refine blk_far ?_ NB196_211.out _; refine Sh.pl ?_; refine blk_far ?_ NB196_211.out _; refine Sh.pl ?_; exact BK196.out) hb); have n7_ := am_ (blk_below (g := gb211) (o := .cells #[.slice Ao21 t204.length co21, .slice Ao24 t207.length co24] 26 (0, 0)) (by refine Sh.pl ?_; refine blk_put (cs := #[.slice Ao21 t204.length co21, .slice none 0 0]) ?_ 1 _ rfl; refine Sh.pl ?_; refine blk_put (cs := #[.slice none 0 0, .slice none 0 0]) ?_ 0 _ rfl; refine Sh.pl ?_; exact BK211.out) hb); have n8_ := am_ (below_step Sh.bw hb); clear HO200; clear HO203; clear HO206; clear HO209; clear BK196; clear BK211; clear HB; have HO200 := n0_; have HO203 := n1_; have HO206 := n2_; have HO209 := n3_; have HO214 := n4_; have HO217 := n5_; have BK196 := n6_; have BK211 := n7_; have HB := n8_; clear n0_ n1_ n2_ n3_ n4_ n5_ n6_ n7_ n8_; (try clear hb); (try clear hb2); (try clear hk); (try clear hi); (try clear ho0); (try clear ho1)) | ((with_reducible refine Sh.d 6 ?_); refine Sh.bx (N := 6) (cs := #[.slice none 0 0, .slice none 0 0]) (t := 26) (h := ?_); intro gb218 hg w27 hbox hb; replace HO200 := am_ (Kd.Q_below (ll_rl HO200.out) hb); replace HO203 := am_ (Kd.Q_below (ll_rl HO203.out) hb); replace HO206 := am_ (Kd.Q_below (ll_rl HO206.out) hb); replace HO209 := am_ (Kd.Q_below (ll_rl HO209.out) hb); replace HO214 := am_ (Kd.Q_below (ll_rl HO214.out) hb); replace HO217 := am_ (Kd.Q_below (ll_rl HO217.out) hb); have BK218 := am_ hbox; have GE218 := Sh.ag w hg; replace HB := Sh.hb hb; have NB196_218 := am_ (Sh.nl hg BK196.out); have NB218_196 := am_ (Sh.ng hg BK196.out); replace BK196 := Sh.ab BK196 hb; have NB211_218 := am_ (Sh.nl hg BK211.out); have NB218_211 := am_ (Sh.ng hg BK211.out); replace BK211 := Sh.ab BK211 hb; clear hb hbox hg; obtain ⟨Ao28, co28, eo28⟩ := ll_slice HO214.out; subst eo28; have hnb29 := NB218_196.out; have hnc29 := NB196_218.out; have hnb30 := NB218_211.out; have hnc30 := NB211_218.out; obtain ⟨hcz31_0, hcz31_1, hfz31_0, hfz31_1⟩ := Sh.b2 BK218.out; obtain ⟨Ao32, co32, eo32⟩ := ll_slice HO217.out; subst eo32) | ((with_reducible refine Sh.k 7 ?_); refine Sh.gL (some 29) Try.func7 #[.agg #[.slice Ao28 t212.length co28, .slice Ao32 t215.length co32]] (h := ?_); (with_reducible refine (impl_LeastLasso.calls k _ _ t212 _ _ t215 t219 t222 t225 _ ?side1 ?side2 ?side3 ?side4 A10.out).mono ?_); (case side1 => refine (Kd.Q_reads' (e := 3) (base := w.heap.size) (ok := fun k_ => ((((some k_ ≠ (.slice Ao32 t215.length co32 : Value).ownBlock ∧ some k_ ≠ (.slice Ao17 t198.length co17 : Value).ownBlock) ∧ some k_ ≠ (.slice Ao18 t201.length co18 : Value).ownBlock) ∧ some k_ ≠ (.slice Ao21 t204.length co21 : Value).ownBlock) ∧ some k_ ≠ (.slice Ao24 t207.length co24 : Value).ownBlock)) (n := t212.length) (c := co28) ?_).2.2; exact (ll_rl (Kd.Q_mono (Kd.Q_far (p := ⟨gb218, 1, none⟩) (Kd.Q_far (p := ⟨gb218, 0, none⟩) (Kd.Q_types HO214.out BK218.out (by decide)) (fun _ hk => hk.2) (.slice Ao28 t212.length co28)) (fun _ hk => hk.2) (.slice Ao32 t215.length co32)) (fun _ h_ => h_.1)))); (case side2 => exact (Kd.Q_reads' HO214.out).2.1); (case side3 => refine (Kd.Q_reads' (e := 3) (base := w.heap.size) (ok := fun k_ => ((((some k_ ≠ (.slice Ao28 t212.length co28 : Value).ownBlock ∧ some k_ ≠ (.slice Ao17 t198.length co17 : Value).ownBlock) ∧ some k_ ≠ (.slice Ao18 t201.length co18 : Value).ownBlock) ∧ some k_ ≠ (.slice Ao21 t204.length co21 : Value).ownBlock) ∧ some k_ ≠ (.slice Ao24 t207.length co24 : Value).ownBlock)) (n := t215.length) (c := co32) ?_).2.2; exact (ll_rl (Kd.Q_mono (Kd.Q_far (p := ⟨gb218, 1, none⟩) (Kd.Q_far (p := ⟨gb218, 0, none⟩) (Kd.Q_types HO217.out BK218.out (by decide)) (fun _ hk => hk.2) (.slice Ao28 t212.length co28)) (fun _ hk => hk.2) (.slice Ao32 t215.length co32)) (fun _ h_ => h_.1)))); (case side4 => exact (Kd.Q_reads' HO217.out).2.1); rintro e w33 ⟨v220, v223, rfl, ho0, ho1, hb⟩; refine ⟨_, rfl, ?_⟩; have n0_ := am_ (Kd.Q_mono (Kd.Q_told (Kd.Q_told (Kd.Q_old (ll_rl (Kd.Q_mono (Kd.Q_far (p := ⟨gb218, 1, none⟩) (Kd.Q_far (p := ⟨gb218, 0, none⟩) (Kd.Q_types HO200.out BK218.out (by decide)) (fun _ hk => hk.2) (.slice Ao28 t212.length co28)) (fun _ hk => hk.2) (.slice Ao32 t215.length co32)) (fun _ h_ => h_.1))) hb) (Kd.Q_base ho0)) (Kd.Q_base ho1)) (fun _ h_ => h_.1)); have n1_ := am_ (Kd.Q_mono (Kd.Q_told (Kd.Q_told (Kd.Q_old (ll_rl (Kd.Q_mono (Kd.Q_far (p := ⟨gb218, 1, none⟩) (Kd.Q_far (p := ⟨gb218, 0, none⟩) (Kd.Q_types HO203.out BK218.out (by decide)) (fun _ hk => hk.2) (.slice Ao28 t212.length co28)) (fun _ hk => hk.2) (.slice Ao32 t215.length co32)) (fun _ h_ => h_.1))) hb) (Kd.Q_base ho0)) (Kd.Q_base ho1)) (fun _ h_ => h_.1)); have n2_ := am_ (Kd.Q_mono (Kd.Q_told (Kd.Q_told (Kd.Q_old (ll_rl (Kd.Q_mono (Kd.Q_far (p := ⟨gb218, 1, none⟩) (Kd.Q_far (p := ⟨gb218, 0, none⟩) (Kd.Q_types HO206.out BK218.out (by decide)) (fun _ hk => hk.2) (.slice Ao28 t212.length co28)) (fun _ hk => hk.2) (.slice Ao32 t215.length co32)) (fun _ h_ => h_.1))) hb) (Kd.Q_base ho0)) (Kd.Q_base ho1)) (fun _ h_ => h_.1)); have n3_ := am_ (Kd.Q_mono (Kd.Q_told (Kd.Q_told (Kd.Q_old (ll_rl (Kd.Q_mono (Kd.Q_far (p := ⟨gb218, 1, none⟩) (Kd.Q_far (p := ⟨gb218, 0, none⟩) (Kd.Q_types HO209.out BK218.out (by decide)) (fun _ hk => hk.2) (.slice Ao28 t212.length co28)) (fun _ hk => hk.2) (.slice Ao32 t215.length co32)) (fun _ h_ => h_.1))) hb) (Kd.Q_base ho0)) (Kd.Q_base ho1)) (fun _ h_ => h_.1)); have n4_ := am_ (Kd.Q_mono (Kd.Q_told (Kd.Q_told (Kd.Q_old (ll_rl (Kd.Q_mono (Kd.Q_far (p := ⟨gb218, 1, none⟩) (Kd.Q_far (p := ⟨gb218, 0, none⟩) (Kd.Q_types HO214.out BK218.out (by decide)) (fun _ hk => hk.2) (.slice Ao28 t212.length co28)) (fun _ hk => hk.2) (.slice Ao32 t215.length co32)) (fun _ h_ => h_.1))) hb) (Kd.Q_base ho0)) (Kd.Q_base ho1)) (fun _ h_ => h_.1)); have n5_ := am_ (Kd.Q_mono (Kd.Q_told (Kd.Q_told (Kd.Q_old (ll_rl (Kd.Q_mono (Kd.Q_far (p := ⟨gb218, 1, none⟩) (Kd.Q_far (p := ⟨gb218, 0, none⟩) (Kd.Q_types HO217.out BK218.out (by decide)) (fun _ hk => hk.2) (.slice Ao28 t212.length co28)) (fun _ hk => hk.2) (.slice Ao32 t215.length co32)) (fun _ h_ => h_.1))) hb) (Kd.Q_base ho0)) (Kd.Q_base ho1)) (fun _ h_ => h_.1)); have n6_ := am_ (Kd.Q_lower (Kd.Q_new' (Kd.Q_new' (Kd.Q_new' (Kd.Q_new' (Kd.Q_new' (Kd.Q_new' ho0 (Kd.Q_lt (ll_rl (Kd.Q_mono (Kd.Q_far (p := ⟨gb218, 1, none⟩) (Kd.Q_far (p := ⟨gb218, 0, none⟩) (Kd.Q_types HO200.out BK218.out (by decide)) (fun _ hk => hk.2) (.slice Ao28 t212.length co28)) (fun _ hk => hk.2) (.slice Ao32 t215.length co32)) (fun _ h_ => h_.1))))) (Kd.Q_lt (ll_rl (Kd.Q_mono (Kd.Q_far (p := ⟨gb218, 1, none⟩) (Kd.Q_far (p := ⟨gb218, 0, none⟩) (Kd.Q_types HO203.out BK218.out (by decide)) (fun _ hk => hk.2) (.slice Ao28 t212.length co28)) (fun _ hk => hk.2) (.slice Ao32 t215.length co32)) (fun _ h_ => h_.1))))) (Kd.Q_lt (ll_rl (Kd.Q_mono (Kd.Q_far (p := ⟨gb218, 1, none⟩) (Kd.Q_far (p := ⟨gb218, 0, none⟩) (Kd.Q_types HO206.out BK218.out (by decide)) (fun _ hk => hk.2) (.slice Ao28 t212.length co28)) (fun _ hk => hk.2) (.slice Ao32 t215.length co32)) (fun _ h_ => h_.1))))) (Kd.Q_lt (ll_rl (Kd.Q_mono (Kd.Q_far (p := ⟨gb218, 1, none⟩) (Kd.Q_far (p := ⟨gb218, 0, none⟩) (Kd.Q_types HO209.out BK218.out (by decide)) (fun _ hk => hk.2) (.slice Ao28 t212.length co28)) (fun _ hk => hk.2) (.slice Ao32 t215.length co32)) (fun _ h_ => h_.1))))) (Kd.Q_lt (ll_rl (Kd.Q_mono (Kd.Q_far (p := ⟨gb218, 1, none⟩) (Kd.Q_far (p := ⟨gb218, 0, none⟩) (Kd.Q_types HO214.out BK218.out (by decide)) (fun _ hk => hk.2) (.slice Ao28 t212.length co28)) (fun _ hk => hk.2) (.slice Ao32 t215.length co32)) (fun _ h_ => h_.1))))) (Kd.Q_lt (ll_rl (Kd.Q_mono (Kd.Q_far (p := ⟨gb218, 1, none⟩) (Kd.Q_far (p := ⟨gb218, 0, none⟩) (Kd.Q_types HO217.out BK218.out (by decide)) (fun _ hk => hk.2) (.slice Ao28 t212.length co28)) (fun _ hk => hk.2) (.slice Ao32 t215.length co32)) (fun _ h_ => h_.1))))) (below_size Sh.bw)); have n7_ := am_ (Kd.Q_lower (Kd.Q_new' (Kd.Q_new' (Kd.Q_new' (Kd.Q_new' (Kd.Q_new' (Kd.Q_new' ho1 (Kd.Q_lt (ll_rl (Kd.Q_mono (Kd.Q_far (p := ⟨gb218, 1, none⟩) (Kd.Q_far (p := ⟨gb218, 0, none⟩) (Kd.Q_types HO200.out BK218.out (by decide)) (fun _ hk => hk.2) (.slice Ao28 t212.length co28)) (fun _ hk => hk.2) (.slice Ao32 t215.length co32)) (fun _ h_ => h_.1))))) (Kd.Q_lt (ll_rl (Kd.Q_mono (Kd.Q_far (p := ⟨gb218, 1, none⟩) (Kd.Q_far (p := ⟨gb218, 0, none⟩) (Kd.Q_types HO203.out BK218.out (by decide)) (fun _ hk => hk.2) (.slice Ao28 t212.length co28)) (fun _ hk => hk.2) (.slice Ao32 t215.length co32)) (fun _ h_ => h_.1))))) (Kd.Q_lt (ll_rl (Kd.Q_mono (Kd.Q_far (p := ⟨gb218, 1, none⟩) (Kd.Q_far (p := ⟨gb218, 0, none⟩) (Kd.Q_types HO206.out BK218.out (by decide)) (fun _ hk => hk.2) (.slice Ao28 t212.length co28)) (fun _ hk => hk.2) (.slice Ao32 t215.length co32)) (fun _ h_ => h_.1))))) (Kd.Q_lt (ll_rl (Kd.Q_mono (Kd.Q_far (p := ⟨gb218, 1, none⟩) (Kd.Q_far (p := ⟨gb218, 0, none⟩) (Kd.Q_types HO209.out BK218.out (by decide)) (fun _ hk => hk.2) (.slice Ao28 t212.length co28)) (fun _ hk => hk.2) (.slice Ao32 t215.length co32)) (fun _ h_ => h_.1))))) (Kd.Q_lt (ll_rl (Kd.Q_mono (Kd.Q_far (p := ⟨gb218, 1, none⟩) (Kd.Q_far (p := ⟨gb218, 0, none⟩) (Kd.Q_types HO214.out BK218.out (by decide)) (fun _ hk => hk.2) (.slice Ao28 t212.length co28)) (fun _ hk => hk.2) (.slice Ao32 t215.length co32)) (fun _ h_ => h_.1))))) (Kd.Q_lt (ll_rl (Kd.Q_mono (Kd.Q_far (p := ⟨gb218, 1, none⟩) (Kd.Q_far (p := ⟨gb218, 0, none⟩) (Kd.Q_types HO217.out BK218.out (by decide)) (fun _ hk => hk.2) (.slice Ao28 t212.length co28)) (fun _ hk => hk.2) (.slice Ao32 t215.length co32)) (fun _ h_ => h_.1))))) (below_size Sh.bw)); have n8_ := am_ (blk_below (g := gb196) (o := .cells #[.slice A0_0 l0_0.length c0_0, .slice A0_1 l0_1.length c0_1] 24 (0, 0)) (by refine Sh.pl ?_; refine blk_far ?_ NB196_218.out _; refine Sh.pl ?_; refine blk_far ?_ NB196_218.out _; refine Sh.pl ?_; exact BK196.out) hb); have n9_ := am_ (blk_below (g := gb211) (o := .cells #[.slice Ao21 t204.length co21, .slice Ao24 t207.length co24] 26 (0, 0)) (by refine Sh.pl ?_; refine blk_far ?_ NB211_218.out _; refine Sh.pl ?_; refine blk_far ?_ NB211_218.out _; refine Sh.pl ?_; exact BK211.out) hb); have n10_ := am_ (blk_below (g := gb218) (o := .cells #[.slice Ao28 t212.length co28, .slice Ao32 t215.length co32] 26 (0, 0)) (by refine Sh.pl ?_; refine blk_put (cs := #[.slice Ao28 t212.length co28, .slice none 0 0]) ?_ 1 _ rfl; refine Sh.pl ?_; refine blk_put (cs := #[.slice none 0 0, .slice none 0 0]) ?_ 0 _ rfl; refine Sh.pl ?_; exact BK218.out) hb); have n11_ := am_ (below_step Sh.bw hb); clear HO200; clear HO203; clear HO206; clear HO209; clear HO214; clear HO217; clear BK196; clear BK211; clear BK218; clear HB; have HO200 := n0_; have HO203 := n1_; have HO206 := n2_; have HO209 := n3_; have HO214 := n4_; have HO217 := n5_; have HO221 := n6_; have HO224 := n7_; have BK196 := n8_; have BK211 := n9_; have BK218 := n10_; have HB := n11_; clear n0_ n1_ n2_ n3_ n4_ n5_ n6_ n7_ n8_ n9_ n10_ n11_; (try clear hb); (try clear hb2); (try clear hk); (try clear hi); (try clear ho0); (try clear ho1)) | ((with_reducible refine Sh.d 7 ?_); refine Sh.bx (N := 7) (cs := #[.slice none 0 0, .slice none 0 0]) (t := 26) (h := ?_); intro gb226 hg w34 hbox hb; replace HO200 := am_ (Kd.Q_below (ll_rl HO200.out) hb); replace HO203 := am_ (Kd.Q_below (ll_rl HO203.out) hb); replace HO206 := am_ (Kd.Q_below (ll_rl HO206.out) hb); replace HO209 := am_ (Kd.Q_below (ll_rl HO209.out) hb); replace HO214 := am_ (Kd.Q_below (ll_rl HO214.out) hb); replace HO217 := am_ (Kd.Q_below (ll_rl HO217.out) hb); replace HO221 := am_ (Kd.Q_below (ll_rl HO221.out) hb); replace HO224 := am_ (Kd.Q_below (ll_rl HO224.out) hb); have BK226 := am_ hbox; have GE226 := Sh.ag w hg; replace HB := Sh.hb hb; have NB196_226 := am_ (Sh.nl hg BK196.out); have NB226_196 := am_ (Sh.ng hg BK196.out); replace BK196 := Sh.ab BK196 hb; have NB211_226 := am_ (Sh.nl hg BK211.out); have NB226_211 := am_ (Sh.ng hg BK211.out); replace BK211 := Sh.ab BK211 hb; have NB218_226 := am_ (Sh.nl hg BK218.out); have NB226_218 := am_ (Sh.ng hg BK218.out); replace BK218 := Sh.ab BK218 hb; clear hb hbox hg; obtain ⟨Ao35, co35, eo35⟩ := ll_slice HO221.out; subst eo35; have hnb36 := NB226_196.out; have hnc36 := NB196_226.out; have hnb37 := NB226_211.out; have hnc37 := NB211_226.out; have hnb38 := NB226_218.out; have hnc38 := NB218_226.out; obtain ⟨hcz39_0, hcz39_1, hfz39_0, hfz39_1⟩ := Sh.b2 BK226.out; obtain ⟨Ao40, co40, eo40⟩ := ll_slice HO224.out; subst eo40))
  (try simp only [Act.put, List.setIfInBounds_toArray, List.set_cons_zero, List.set_cons_succ])
  go_cut [40] (fun v40 wc => ∃ (kq : Nat) (x40_10 : Bool), v40 = .bool x40_10 ∧ Aside0 (laws_FnExactLeastLasso.j0 kq t210 t225 x40_10 l0_0 l0_1 t204 t207 t212 t215 t219 t222 = some r) ∧ Aside0 (kq ≤ k) ∧ Aside0 (Kd.Q (Kd.int .i64) 3 wc w.heap.size (fun k_ => some k_ ≠ ((.slice Ao24 t207.length co24) : Value).ownBlock ∧ some k_ ≠ ((.slice Ao28 t212.length co28) : Value).ownBlock ∧ some k_ ≠ ((.slice Ao32 t215.length co32) : Value).ownBlock ∧ some k_ ≠ ((.slice Ao35 t219.length co35) : Value).ownBlock ∧ some k_ ≠ ((.slice Ao40 t222.length co40) : Value).ownBlock) (.slice Ao21 t204.length co21) t204) ∧ Aside0 (Kd.Q (Kd.int .i64) 3 wc w.heap.size (fun k_ => some k_ ≠ ((.slice Ao21 t204.length co21) : Value).ownBlock ∧ some k_ ≠ ((.slice Ao28 t212.length co28) : Value).ownBlock ∧ some k_ ≠ ((.slice Ao32 t215.length co32) : Value).ownBlock ∧ some k_ ≠ ((.slice Ao35 t219.length co35) : Value).ownBlock ∧ some k_ ≠ ((.slice Ao40 t222.length co40) : Value).ownBlock) (.slice Ao24 t207.length co24) t207) ∧ Aside0 (Kd.Q (Kd.int .i64) 3 wc w.heap.size (fun k_ => some k_ ≠ ((.slice Ao21 t204.length co21) : Value).ownBlock ∧ some k_ ≠ ((.slice Ao24 t207.length co24) : Value).ownBlock ∧ some k_ ≠ ((.slice Ao32 t215.length co32) : Value).ownBlock ∧ some k_ ≠ ((.slice Ao35 t219.length co35) : Value).ownBlock ∧ some k_ ≠ ((.slice Ao40 t222.length co40) : Value).ownBlock) (.slice Ao28 t212.length co28) t212) ∧ Aside0 (Kd.Q (Kd.int .i64) 3 wc w.heap.size (fun k_ => some k_ ≠ ((.slice Ao21 t204.length co21) : Value).ownBlock ∧ some k_ ≠ ((.slice Ao24 t207.length co24) : Value).ownBlock ∧ some k_ ≠ ((.slice Ao28 t212.length co28) : Value).ownBlock ∧ some k_ ≠ ((.slice Ao35 t219.length co35) : Value).ownBlock ∧ some k_ ≠ ((.slice Ao40 t222.length co40) : Value).ownBlock) (.slice Ao32 t215.length co32) t215) ∧ Aside0 (Kd.Q (Kd.int .i64) 3 wc w.heap.size (fun k_ => some k_ ≠ ((.slice Ao21 t204.length co21) : Value).ownBlock ∧ some k_ ≠ ((.slice Ao24 t207.length co24) : Value).ownBlock ∧ some k_ ≠ ((.slice Ao28 t212.length co28) : Value).ownBlock ∧ some k_ ≠ ((.slice Ao32 t215.length co32) : Value).ownBlock ∧ some k_ ≠ ((.slice Ao40 t222.length co40) : Value).ownBlock) (.slice Ao35 t219.length co35) t219) ∧ Aside0 (Kd.Q (Kd.int .i64) 3 wc w.heap.size (fun k_ => some k_ ≠ ((.slice Ao21 t204.length co21) : Value).ownBlock ∧ some k_ ≠ ((.slice Ao24 t207.length co24) : Value).ownBlock ∧ some k_ ≠ ((.slice Ao28 t212.length co28) : Value).ownBlock ∧ some k_ ≠ ((.slice Ao32 t215.length co32) : Value).ownBlock ∧ some k_ ≠ ((.slice Ao35 t219.length co35) : Value).ownBlock) (.slice Ao40 t222.length co40) t222) ∧ Aside0 (wc.heap[gb196]? = some (.cells #[(.slice A0_0 l0_0.length c0_0), (.slice A0_1 l0_1.length c0_1)] 24 (0, 0))) ∧ Aside0 (wc.heap[gb211]? = some (.cells #[(.slice Ao21 t204.length co21), (.slice Ao24 t207.length co24)] 26 (0, 0))) ∧ Aside0 (wc.heap[gb218]? = some (.cells #[(.slice Ao28 t212.length co28), (.slice Ao32 t215.length co32)] 26 (0, 0))) ∧ Aside0 (wc.heap[gb226]? = some (.cells #[(.slice Ao35 t219.length co35), (.slice Ao40 t222.length co40)] 26 (0, 0))) ∧ Aside0 (Below w.heap.size w wc))
  case first =>
   have H := HC11.out
   clear HC11
   obtain ⟨t227, A41, H⟩ := Sh.ba H
   by_cases c42 : t227 = true
   ·subst c42
    rw [if_pos rfl] at H
    have H' := am_ H
    clear H
    have hnb43 := NB226_196.out
    have hnc43 := NB196_226.out
    have hnb44 := NB226_211.out
    have hnc44 := NB211_226.out
    have hnb45 := NB226_218.out
    have hnc45 := NB218_226.out
    have hcz46_0 := Sh.bc BK226.out 0
    have hcz46_1 := Sh.bc BK226.out 1
    have hfz46_0 := blk_frozen BK226.out 0
    have hfz46_1 := blk_frozen BK226.out 1
    have hnb47 := NB211_196.out
    have hnc47 := NB196_211.out
    have hnb48 := NB211_218.out
    have hnc48 := NB218_211.out
    have hcz49_0 := Sh.bc BK211.out 0
    have hcz49_1 := Sh.bc BK211.out 1
    have hfz49_0 := blk_frozen BK211.out 0
    have hfz49_1 := blk_frozen BK211.out 1
    go_wp2_with (first | ((with_reducible refine Sh.k 8 ?_); refine Sh.gL (some 34) Try.func8 #[.agg #[.slice Ao35 t219.length co35, .slice Ao40 t222.length co40], .agg #[.slice Ao21 t204.length co21, .slice Ao24 t207.length co24]] (h := ?_); (with_reducible refine (laws_eqLasso.calls k _ _ t219 _ _ t222 _ _ t204 _ _ t207 true _ ?side1 ?side2 ?side3 ?side4 ?side5 ?side6 ?side7 ?side8 A41.out).mono ?_); (case side1 => refine (Kd.Q_reads' (e := 3) (base := w.heap.size) (ok := fun k_ => ((((((some k_ ≠ (.slice Ao40 t222.length co40 : Value).ownBlock ∧ some k_ ≠ (.slice Ao17 t198.length co17 : Value).ownBlock) ∧ some k_ ≠ (.slice Ao18 t201.length co18 : Value).ownBlock) ∧ some k_ ≠ (.slice Ao21 t204.length co21 : Value).ownBlock) ∧ some k_ ≠ (.slice Ao24 t207.length co24 : Value).ownBlock) ∧ some k_ ≠ (.slice Ao28 t212.length co28 : Value).ownBlock) ∧ some k_ ≠ (.slice Ao32 t215.length co32 : Value).ownBlock)) (n := t219.length) (c := co35) ?_).2.2; exact (ll_rl (Kd.Q_mono (Kd.Q_far (p := ⟨gb226, 1, none⟩) (Kd.Q_far (p := ⟨gb226, 0, none⟩) (Kd.Q_types HO221.out BK226.out (by decide)) (fun _ hk => hk.2) (.slice Ao35 t219.length co35)) (fun _ hk => hk.2) (.slice Ao40 t222.length co40)) (fun _ h_ => h_.1)))); (case side2 => exact (Kd.Q_reads' HO221.out).2.1); (case side3 => refine (Kd.Q_reads' (e := 3) (base := w.heap.size) (ok := fun k_ => ((((((some k_ ≠ (.slice Ao35 t219.length co35 : Value).ownBlock ∧ some k_ ≠ (.slice Ao17 t198.length co17 : Value).ownBlock) ∧ some k_ ≠ (.slice Ao18 t201.length co18 : Value).ownBlock) ∧ some k_ ≠ (.slice Ao21 t204.length co21 : Value).ownBlock) ∧ some k_ ≠ (.slice Ao24 t207.length co24 : Value).ownBlock) ∧ some k_ ≠ (.slice Ao28 t212.length co28 : Value).ownBlock) ∧ some k_ ≠ (.slice Ao32 t215.length co32 : Value).ownBlock)) (n := t222.length) (c := co40) ?_).2.2; exact (ll_rl (Kd.Q_mono (Kd.Q_far (p := ⟨gb226, 1, none⟩) (Kd.Q_far (p := ⟨gb226, 0, none⟩) (Kd.Q_types HO224.out BK226.out (by decide)) (fun _ hk => hk.2) (.slice Ao35 t219.length co35)) (fun _ hk => hk.2) (.slice Ao40 t222.length co40)) (fun _ h_ => h_.1)))); (case side4 => exact (Kd.Q_reads' HO224.out).2.1); (case side5 => refine (Kd.Q_reads' (e := 3) (base := w.heap.size) (ok := fun k_ => ((((((some k_ ≠ (.slice Ao24 t207.length co24 : Value).ownBlock ∧ some k_ ≠ (.slice Ao17 t198.length co17 : Value).ownBlock) ∧ some k_ ≠ (.slice Ao18 t201.length co18 : Value).ownBlock) ∧ some k_ ≠ (.slice Ao28 t212.length co28 : Value).ownBlock) ∧ some k_ ≠ (.slice Ao32 t215.length co32 : Value).ownBlock) ∧ some k_ ≠ (.slice Ao35 t219.length co35 : Value).ownBlock) ∧ some k_ ≠ (.slice Ao40 t222.length co40 : Value).ownBlock)) (n := t204.length) (c := co21) ?_).2.2; exact (ll_rl (Kd.Q_mono (Kd.Q_far (p := ⟨gb226, 1, none⟩) (Kd.Q_far (p := ⟨gb226, 0, none⟩) (Kd.Q_types HO206.out BK226.out (by decide)) (fun _ hk => hk.2) (.slice Ao35 t219.length co35)) (fun _ hk => hk.2) (.slice Ao40 t222.length co40)) (fun _ h_ => h_.1)))); (case side6 => exact (Kd.Q_reads' HO206.out).2.1); (case side7 => refine (Kd.Q_reads' (e := 3) (base := w.heap.size) (ok := fun k_ => ((((((some k_ ≠ (.slice Ao21 t204.length co21 : Value).ownBlock ∧ some k_ ≠ (.slice Ao17 t198.length co17 : Value).ownBlock) ∧ some k_ ≠ (.slice Ao18 t201.length co18 : Value).ownBlock) ∧ some k_ ≠ (.slice Ao28 t212.length co28 : Value).ownBlock) ∧ some k_ ≠ (.slice Ao32 t215.length co32 : Value).ownBlock) ∧ some k_ ≠ (.slice Ao35 t219.length co35 : Value).ownBlock) ∧ some k_ ≠ (.slice Ao40 t222.length co40 : Value).ownBlock)) (n := t207.length) (c := co24) ?_).2.2; exact (ll_rl (Kd.Q_mono (Kd.Q_far (p := ⟨gb226, 1, none⟩) (Kd.Q_far (p := ⟨gb226, 0, none⟩) (Kd.Q_types HO209.out BK226.out (by decide)) (fun _ hk => hk.2) (.slice Ao35 t219.length co35)) (fun _ hk => hk.2) (.slice Ao40 t222.length co40)) (fun _ h_ => h_.1)))); (case side8 => exact (Kd.Q_reads' HO209.out).2.1); rintro e w50 ⟨rfl, hb⟩; refine ⟨_, rfl, ?_⟩; replace HO200 := am_ (Kd.Q_below (ll_rl (Kd.Q_mono (Kd.Q_far (p := ⟨gb226, 1, none⟩) (Kd.Q_far (p := ⟨gb226, 0, none⟩) (Kd.Q_types HO200.out BK226.out (by decide)) (fun _ hk => hk.2) (.slice Ao35 t219.length co35)) (fun _ hk => hk.2) (.slice Ao40 t222.length co40)) (fun _ h_ => h_.1))) hb); replace HO203 := am_ (Kd.Q_below (ll_rl (Kd.Q_mono (Kd.Q_far (p := ⟨gb226, 1, none⟩) (Kd.Q_far (p := ⟨gb226, 0, none⟩) (Kd.Q_types HO203.out BK226.out (by decide)) (fun _ hk => hk.2) (.slice Ao35 t219.length co35)) (fun _ hk => hk.2) (.slice Ao40 t222.length co40)) (fun _ h_ => h_.1))) hb); replace HO206 := am_ (Kd.Q_below (ll_rl (Kd.Q_mono (Kd.Q_far (p := ⟨gb226, 1, none⟩) (Kd.Q_far (p := ⟨gb226, 0, none⟩) (Kd.Q_types HO206.out BK226.out (by decide)) (fun _ hk => hk.2) (.slice Ao35 t219.length co35)) (fun _ hk => hk.2) (.slice Ao40 t222.length co40)) (fun _ h_ => h_.1))) hb); replace HO209 := am_ (Kd.Q_below (ll_rl (Kd.Q_mono (Kd.Q_far (p := ⟨gb226, 1, none⟩) (Kd.Q_far (p := ⟨gb226, 0, none⟩) (Kd.Q_types HO209.out BK226.out (by decide)) (fun _ hk => hk.2) (.slice Ao35 t219.length co35)) (fun _ hk => hk.2) (.slice Ao40 t222.length co40)) (fun _ h_ => h_.1))) hb); replace HO214 := am_ (Kd.Q_below (ll_rl (Kd.Q_mono (Kd.Q_far (p := ⟨gb226, 1, none⟩) (Kd.Q_far (p := ⟨gb226, 0, none⟩) (Kd.Q_types HO214.out BK226.out (by decide)) (fun _ hk => hk.2) (.slice Ao35 t219.length co35)) (fun _ hk => hk.2) (.slice Ao40 t222.length co40)) (fun _ h_ => h_.1))) hb); replace HO217 := am_ (Kd.Q_below (ll_rl (Kd.Q_mono (Kd.Q_far (p := ⟨gb226, 1, none⟩) (Kd.Q_far (p := ⟨gb226, 0, none⟩) (Kd.Q_types HO217.out BK226.out (by decide)) (fun _ hk => hk.2) (.slice Ao35 t219.length co35)) (fun _ hk => hk.2) (.slice Ao40 t222.length co40)) (fun _ h_ => h_.1))) hb); replace HO221 := am_ (Kd.Q_below (ll_rl (Kd.Q_mono (Kd.Q_far (p := ⟨gb226, 1, none⟩) (Kd.Q_far (p := ⟨gb226, 0, none⟩) (Kd.Q_types HO221.out BK226.out (by decide)) (fun _ hk => hk.2) (.slice Ao35 t219.length co35)) (fun _ hk => hk.2) (.slice Ao40 t222.length co40)) (fun _ h_ => h_.1))) hb); replace HO224 := am_ (Kd.Q_below (ll_rl (Kd.Q_mono (Kd.Q_far (p := ⟨gb226, 1, none⟩) (Kd.Q_far (p := ⟨gb226, 0, none⟩) (Kd.Q_types HO224.out BK226.out (by decide)) (fun _ hk => hk.2) (.slice Ao35 t219.length co35)) (fun _ hk => hk.2) (.slice Ao40 t222.length co40)) (fun _ h_ => h_.1))) hb); replace BK196 := am_ (blk_below (g := gb196) (o := .cells #[.slice A0_0 l0_0.length c0_0, .slice A0_1 l0_1.length c0_1] 24 (0, 0)) (by refine Sh.pl ?_; refine blk_far ?_ NB196_226.out _; refine Sh.pl ?_; refine blk_far ?_ NB196_226.out _; refine Sh.pl ?_; exact BK196.out) hb); replace BK211 := am_ (blk_below (g := gb211) (o := .cells #[.slice Ao21 t204.length co21, .slice Ao24 t207.length co24] 26 (0, 0)) (by refine Sh.pl ?_; refine blk_far ?_ NB211_226.out _; refine Sh.pl ?_; refine blk_far ?_ NB211_226.out _; refine Sh.pl ?_; exact BK211.out) hb); replace BK218 := am_ (blk_below (g := gb218) (o := .cells #[.slice Ao28 t212.length co28, .slice Ao32 t215.length co32] 26 (0, 0)) (by refine Sh.pl ?_; refine blk_far ?_ NB218_226.out _; refine Sh.pl ?_; refine blk_far ?_ NB218_226.out _; refine Sh.pl ?_; exact BK218.out) hb); replace BK226 := am_ (blk_below (g := gb226) (o := .cells #[.slice Ao35 t219.length co35, .slice Ao40 t222.length co40] 26 (0, 0)) (by refine Sh.pl ?_; refine blk_put (cs := #[.slice Ao35 t219.length co35, .slice none 0 0]) ?_ 1 _ rfl; refine Sh.pl ?_; refine blk_put (cs := #[.slice none 0 0, .slice none 0 0]) ?_ 0 _ rfl; refine Sh.pl ?_; exact BK226.out) hb); replace HB := Sh.hb hb; (try clear hb); (try clear hb2); (try clear hk); (try clear hi)))
    go_meet
    case rel => exact ⟨_, ((t225 != t210)), (Sh.es), H', ⟨Sh.om⟩, ⟨ll_rl (Kd.Q_mono HO206.out (fun _ h => ⟨h.1.1.1.1.1.1, h.1.1.1.2, h.1.1.2, h.1.2, h.2⟩))⟩, ⟨ll_rl (Kd.Q_mono HO209.out (fun _ h => ⟨h.1.1.1.1.1.1, h.1.1.1.2, h.1.1.2, h.1.2, h.2⟩))⟩, ⟨ll_rl (Kd.Q_mono HO214.out (fun _ h => ⟨h.1.1.1.2, h.1.1.2, h.1.1.1.1.1.1, h.1.2, h.2⟩))⟩, ⟨ll_rl (Kd.Q_mono HO217.out (fun _ h => ⟨h.1.1.1.2, h.1.1.2, h.1.1.1.1.1.1, h.1.2, h.2⟩))⟩, ⟨ll_rl (Kd.Q_mono HO221.out (fun _ h => ⟨h.1.1.1.2, h.1.1.2, h.1.2, h.2, h.1.1.1.1.1.1⟩))⟩, ⟨ll_rl (Kd.Q_mono HO224.out (fun _ h => ⟨h.1.1.1.2, h.1.1.2, h.1.2, h.2, h.1.1.1.1.1.1⟩))⟩, ⟨by refine Sh.pl ?_; exact BK196.out⟩, ⟨by refine Sh.pl ?_; exact BK211.out⟩, ⟨by refine Sh.pl ?_; exact BK218.out⟩, ⟨by refine Sh.pl ?_; exact BK226.out⟩, ⟨Sh.bw⟩⟩
   ·replace c42 := Bool.eq_false_iff.mpr c42
    subst c42
    rw [Sh.nf] at H
    have H' := am_ H
    clear H
    have hnb51 := NB226_196.out
    have hnc51 := NB196_226.out
    have hnb52 := NB226_211.out
    have hnc52 := NB211_226.out
    have hnb53 := NB226_218.out
    have hnc53 := NB218_226.out
    have hcz54_0 := Sh.bc BK226.out 0
    have hcz54_1 := Sh.bc BK226.out 1
    have hfz54_0 := blk_frozen BK226.out 0
    have hfz54_1 := blk_frozen BK226.out 1
    have hnb55 := NB211_196.out
    have hnc55 := NB196_211.out
    have hnb56 := NB211_218.out
    have hnc56 := NB218_211.out
    have hcz57_0 := Sh.bc BK211.out 0
    have hcz57_1 := Sh.bc BK211.out 1
    have hfz57_0 := blk_frozen BK211.out 0
    have hfz57_1 := blk_frozen BK211.out 1
    go_wp2_with (first | ((with_reducible refine Sh.k 8 ?_); refine Sh.gL (some 34) Try.func8 #[.agg #[.slice Ao35 t219.length co35, .slice Ao40 t222.length co40], .agg #[.slice Ao21 t204.length co21, .slice Ao24 t207.length co24]] (h := ?_); (with_reducible refine (laws_eqLasso.calls k _ _ t219 _ _ t222 _ _ t204 _ _ t207 false _ ?side1 ?side2 ?side3 ?side4 ?side5 ?side6 ?side7 ?side8 A41.out).mono ?_); (case side1 => refine (Kd.Q_reads' (e := 3) (base := w.heap.size) (ok := fun k_ => ((((((some k_ ≠ (.slice Ao40 t222.length co40 : Value).ownBlock ∧ some k_ ≠ (.slice Ao17 t198.length co17 : Value).ownBlock) ∧ some k_ ≠ (.slice Ao18 t201.length co18 : Value).ownBlock) ∧ some k_ ≠ (.slice Ao21 t204.length co21 : Value).ownBlock) ∧ some k_ ≠ (.slice Ao24 t207.length co24 : Value).ownBlock) ∧ some k_ ≠ (.slice Ao28 t212.length co28 : Value).ownBlock) ∧ some k_ ≠ (.slice Ao32 t215.length co32 : Value).ownBlock)) (n := t219.length) (c := co35) ?_).2.2; exact (ll_rl (Kd.Q_mono (Kd.Q_far (p := ⟨gb226, 1, none⟩) (Kd.Q_far (p := ⟨gb226, 0, none⟩) (Kd.Q_types HO221.out BK226.out (by decide)) (fun _ hk => hk.2) (.slice Ao35 t219.length co35)) (fun _ hk => hk.2) (.slice Ao40 t222.length co40)) (fun _ h_ => h_.1)))); (case side2 => exact (Kd.Q_reads' HO221.out).2.1); (case side3 => refine (Kd.Q_reads' (e := 3) (base := w.heap.size) (ok := fun k_ => ((((((some k_ ≠ (.slice Ao35 t219.length co35 : Value).ownBlock ∧ some k_ ≠ (.slice Ao17 t198.length co17 : Value).ownBlock) ∧ some k_ ≠ (.slice Ao18 t201.length co18 : Value).ownBlock) ∧ some k_ ≠ (.slice Ao21 t204.length co21 : Value).ownBlock) ∧ some k_ ≠ (.slice Ao24 t207.length co24 : Value).ownBlock) ∧ some k_ ≠ (.slice Ao28 t212.length co28 : Value).ownBlock) ∧ some k_ ≠ (.slice Ao32 t215.length co32 : Value).ownBlock)) (n := t222.length) (c := co40) ?_).2.2; exact (ll_rl (Kd.Q_mono (Kd.Q_far (p := ⟨gb226, 1, none⟩) (Kd.Q_far (p := ⟨gb226, 0, none⟩) (Kd.Q_types HO224.out BK226.out (by decide)) (fun _ hk => hk.2) (.slice Ao35 t219.length co35)) (fun _ hk => hk.2) (.slice Ao40 t222.length co40)) (fun _ h_ => h_.1)))); (case side4 => exact (Kd.Q_reads' HO224.out).2.1); (case side5 => refine (Kd.Q_reads' (e := 3) (base := w.heap.size) (ok := fun k_ => ((((((some k_ ≠ (.slice Ao24 t207.length co24 : Value).ownBlock ∧ some k_ ≠ (.slice Ao17 t198.length co17 : Value).ownBlock) ∧ some k_ ≠ (.slice Ao18 t201.length co18 : Value).ownBlock) ∧ some k_ ≠ (.slice Ao28 t212.length co28 : Value).ownBlock) ∧ some k_ ≠ (.slice Ao32 t215.length co32 : Value).ownBlock) ∧ some k_ ≠ (.slice Ao35 t219.length co35 : Value).ownBlock) ∧ some k_ ≠ (.slice Ao40 t222.length co40 : Value).ownBlock)) (n := t204.length) (c := co21) ?_).2.2; exact (ll_rl (Kd.Q_mono (Kd.Q_far (p := ⟨gb226, 1, none⟩) (Kd.Q_far (p := ⟨gb226, 0, none⟩) (Kd.Q_types HO206.out BK226.out (by decide)) (fun _ hk => hk.2) (.slice Ao35 t219.length co35)) (fun _ hk => hk.2) (.slice Ao40 t222.length co40)) (fun _ h_ => h_.1)))); (case side6 => exact (Kd.Q_reads' HO206.out).2.1); (case side7 => refine (Kd.Q_reads' (e := 3) (base := w.heap.size) (ok := fun k_ => ((((((some k_ ≠ (.slice Ao21 t204.length co21 : Value).ownBlock ∧ some k_ ≠ (.slice Ao17 t198.length co17 : Value).ownBlock) ∧ some k_ ≠ (.slice Ao18 t201.length co18 : Value).ownBlock) ∧ some k_ ≠ (.slice Ao28 t212.length co28 : Value).ownBlock) ∧ some k_ ≠ (.slice Ao32 t215.length co32 : Value).ownBlock) ∧ some k_ ≠ (.slice Ao35 t219.length co35 : Value).ownBlock) ∧ some k_ ≠ (.slice Ao40 t222.length co40 : Value).ownBlock)) (n := t207.length) (c := co24) ?_).2.2; exact (ll_rl (Kd.Q_mono (Kd.Q_far (p := ⟨gb226, 1, none⟩) (Kd.Q_far (p := ⟨gb226, 0, none⟩) (Kd.Q_types HO209.out BK226.out (by decide)) (fun _ hk => hk.2) (.slice Ao35 t219.length co35)) (fun _ hk => hk.2) (.slice Ao40 t222.length co40)) (fun _ h_ => h_.1)))); (case side8 => exact (Kd.Q_reads' HO209.out).2.1); rintro e w58 ⟨rfl, hb⟩; refine ⟨_, rfl, ?_⟩; replace HO200 := am_ (Kd.Q_below (ll_rl (Kd.Q_mono (Kd.Q_far (p := ⟨gb226, 1, none⟩) (Kd.Q_far (p := ⟨gb226, 0, none⟩) (Kd.Q_types HO200.out BK226.out (by decide)) (fun _ hk => hk.2) (.slice Ao35 t219.length co35)) (fun _ hk => hk.2) (.slice Ao40 t222.length co40)) (fun _ h_ => h_.1))) hb); replace HO203 := am_ (Kd.Q_below (ll_rl (Kd.Q_mono (Kd.Q_far (p := ⟨gb226, 1, none⟩) (Kd.Q_far (p := ⟨gb226, 0, none⟩) (Kd.Q_types HO203.out BK226.out (by decide)) (fun _ hk => hk.2) (.slice Ao35 t219.length co35)) (fun _ hk => hk.2) (.slice Ao40 t222.length co40)) (fun _ h_ => h_.1))) hb); replace HO206 := am_ (Kd.Q_below (ll_rl (Kd.Q_mono (Kd.Q_far (p := ⟨gb226, 1, none⟩) (Kd.Q_far (p := ⟨gb226, 0, none⟩) (Kd.Q_types HO206.out BK226.out (by decide)) (fun _ hk => hk.2) (.slice Ao35 t219.length co35)) (fun _ hk => hk.2) (.slice Ao40 t222.length co40)) (fun _ h_ => h_.1))) hb); replace HO209 := am_ (Kd.Q_below (ll_rl (Kd.Q_mono (Kd.Q_far (p := ⟨gb226, 1, none⟩) (Kd.Q_far (p := ⟨gb226, 0, none⟩) (Kd.Q_types HO209.out BK226.out (by decide)) (fun _ hk => hk.2) (.slice Ao35 t219.length co35)) (fun _ hk => hk.2) (.slice Ao40 t222.length co40)) (fun _ h_ => h_.1))) hb); replace HO214 := am_ (Kd.Q_below (ll_rl (Kd.Q_mono (Kd.Q_far (p := ⟨gb226, 1, none⟩) (Kd.Q_far (p := ⟨gb226, 0, none⟩) (Kd.Q_types HO214.out BK226.out (by decide)) (fun _ hk => hk.2) (.slice Ao35 t219.length co35)) (fun _ hk => hk.2) (.slice Ao40 t222.length co40)) (fun _ h_ => h_.1))) hb); replace HO217 := am_ (Kd.Q_below (ll_rl (Kd.Q_mono (Kd.Q_far (p := ⟨gb226, 1, none⟩) (Kd.Q_far (p := ⟨gb226, 0, none⟩) (Kd.Q_types HO217.out BK226.out (by decide)) (fun _ hk => hk.2) (.slice Ao35 t219.length co35)) (fun _ hk => hk.2) (.slice Ao40 t222.length co40)) (fun _ h_ => h_.1))) hb); replace HO221 := am_ (Kd.Q_below (ll_rl (Kd.Q_mono (Kd.Q_far (p := ⟨gb226, 1, none⟩) (Kd.Q_far (p := ⟨gb226, 0, none⟩) (Kd.Q_types HO221.out BK226.out (by decide)) (fun _ hk => hk.2) (.slice Ao35 t219.length co35)) (fun _ hk => hk.2) (.slice Ao40 t222.length co40)) (fun _ h_ => h_.1))) hb); replace HO224 := am_ (Kd.Q_below (ll_rl (Kd.Q_mono (Kd.Q_far (p := ⟨gb226, 1, none⟩) (Kd.Q_far (p := ⟨gb226, 0, none⟩) (Kd.Q_types HO224.out BK226.out (by decide)) (fun _ hk => hk.2) (.slice Ao35 t219.length co35)) (fun _ hk => hk.2) (.slice Ao40 t222.length co40)) (fun _ h_ => h_.1))) hb); replace BK196 := am_ (blk_below (g := gb196) (o := .cells #[.slice A0_0 l0_0.length c0_0, .slice A0_1 l0_1.length c0_1] 24 (0, 0)) (by refine Sh.pl ?_; refine blk_far ?_ NB196_226.out _; refine Sh.pl ?_; refine blk_far ?_ NB196_226.out _; refine Sh.pl ?_; exact BK196.out) hb); replace BK211 := am_ (blk_below (g := gb211) (o := .cells #[.slice Ao21 t204.length co21, .slice Ao24 t207.length co24] 26 (0, 0)) (by refine Sh.pl ?_; refine blk_far ?_ NB211_226.out _; refine Sh.pl ?_; refine blk_far ?_ NB211_226.out _; refine Sh.pl ?_; exact BK211.out) hb); replace BK218 := am_ (blk_below (g := gb218) (o := .cells #[.slice Ao28 t212.length co28, .slice Ao32 t215.length co32] 26 (0, 0)) (by refine Sh.pl ?_; refine blk_far ?_ NB218_226.out _; refine Sh.pl ?_; refine blk_far ?_ NB218_226.out _; refine Sh.pl ?_; exact BK218.out) hb); replace BK226 := am_ (blk_below (g := gb226) (o := .cells #[.slice Ao35 t219.length co35, .slice Ao40 t222.length co40] 26 (0, 0)) (by refine Sh.pl ?_; refine blk_put (cs := #[.slice Ao35 t219.length co35, .slice none 0 0]) ?_ 1 _ rfl; refine Sh.pl ?_; refine blk_put (cs := #[.slice none 0 0, .slice none 0 0]) ?_ 0 _ rfl; refine Sh.pl ?_; exact BK226.out) hb); replace HB := Sh.hb hb; (try clear hb); (try clear hb2); (try clear hk); (try clear hi)))
    go_meet
    case rel => exact ⟨_, (true), (Sh.es), H', ⟨Sh.om⟩, ⟨ll_rl (Kd.Q_mono HO206.out (fun _ h => ⟨h.1.1.1.1.1.1, h.1.1.1.2, h.1.1.2, h.1.2, h.2⟩))⟩, ⟨ll_rl (Kd.Q_mono HO209.out (fun _ h => ⟨h.1.1.1.1.1.1, h.1.1.1.2, h.1.1.2, h.1.2, h.2⟩))⟩, ⟨ll_rl (Kd.Q_mono HO214.out (fun _ h => ⟨h.1.1.1.2, h.1.1.2, h.1.1.1.1.1.1, h.1.2, h.2⟩))⟩, ⟨ll_rl (Kd.Q_mono HO217.out (fun _ h => ⟨h.1.1.1.2, h.1.1.2, h.1.1.1.1.1.1, h.1.2, h.2⟩))⟩, ⟨ll_rl (Kd.Q_mono HO221.out (fun _ h => ⟨h.1.1.1.2, h.1.1.2, h.1.2, h.2, h.1.1.1.1.1.1⟩))⟩, ⟨ll_rl (Kd.Q_mono HO224.out (fun _ h => ⟨h.1.1.1.2, h.1.1.2, h.1.2, h.2, h.1.1.1.1.1.1⟩))⟩, ⟨by refine Sh.pl ?_; exact BK196.out⟩, ⟨by refine Sh.pl ?_; exact BK211.out⟩, ⟨by refine Sh.pl ?_; exact BK218.out⟩, ⟨by refine Sh.pl ?_; exact BK226.out⟩, ⟨Sh.bw⟩⟩
  case rest =>
   clear HC11
   try clear hcz13_0
   try clear hcz13_1
   try clear hcz15_0
   try clear hcz15_1
   try clear hcz23_0
   try clear hcz23_1
   try clear hcz25_0
   try clear hcz25_1
   try clear hcz31_0
   try clear hcz31_1
   try clear hcz39_0
   try clear hcz39_1
   try clear hcz46_0
   try clear hcz46_1
   try clear hcz49_0
   try clear hcz49_1
   try clear hcz54_0
   try clear hcz54_1
   try clear hcz57_0
   try clear hcz57_1
   try clear hcz5_0
   try clear hcz5_1
   try clear hfz13_0
   try clear hfz13_1
   try clear hfz15_0
   try clear hfz15_1
   try clear hfz23_0
   try clear hfz23_1
   try clear hfz25_0
   try clear hfz25_1
   try clear hfz31_0
   try clear hfz31_1
   try clear hfz39_0
   try clear hfz39_1
   try clear hfz46_0
   try clear hfz46_1
   try clear hfz49_0
   try clear hfz49_1
   try clear hfz54_0
   try clear hfz54_1
   try clear hfz57_0
   try clear hfz57_1
   try clear hfz5_0
   try clear hfz5_1
   obtain ⟨kq, x40_10, rfl, HA, HJ10, HO_212000, HO_212001, HO_219000, HO_219001, HO_227000, HO_227001, BK196, BK211, BK218, BK226, HB⟩ := hcut
   cases kq with
   | zero => exact absurd HA.out (by simp [laws_FnExactLeastLasso.j0])
   | succ kj10 =>
    have H := HA.out
    clear HA
    simp only [laws_FnExactLeastLasso.j0] at H
    by_cases c59 : x40_10 = true
    ·subst c59
     rw [if_pos rfl] at H
     obtain rfl := Option.some.inj H
     go_wp2
     go_ret
     exact ⟨Sh.eR, Sh.bw⟩
    ·replace c59 := Bool.eq_false_iff.mpr c59
     subst c59
     rw [Sh.nf] at H
     obtain ⟨⟨t228, t231⟩, A600, H⟩ := Sh.bd H
     have A60 := am_ A600
     clear A600
     obtain ⟨t234, A61, H⟩ := Sh.ba H
     by_cases c62 : t234 = true
     ·subst c62
      rw [if_pos rfl] at H
      obtain ⟨⟨t235, t236, t237⟩, A630, H⟩ := Sh.bd H
      have A63 := am_ A630
      clear A630
      have HC64 := am_ H
      clear H
      try go_wp2
      replace HO_212000 := am_ (Kd.Q_drew HO_212000.out)
      replace HO_212001 := am_ (Kd.Q_drew HO_212001.out)
      replace HO_219000 := am_ (Kd.Q_drew HO_219000.out)
      replace HO_219001 := am_ (Kd.Q_drew HO_219001.out)
      replace HO_227000 := am_ (Kd.Q_drew HO_227000.out)
      replace HO_227001 := am_ (Kd.Q_drew HO_227001.out)
      replace BK196 := am_ (blk_drew BK196.out)
      replace BK211 := am_ (blk_drew BK211.out)
      replace BK218 := am_ (blk_drew BK218.out)
      replace BK226 := am_ (blk_drew BK226.out)
      replace HB := am_ (below_drew1 HB.out)
      refine start_ (n := 5) (S := fun w' => w'.cell? ⟨gb218, 0, none⟩ = some (.slice Ao28 t212.length co28) ∧ w'.cell? ⟨gb218, 1, none⟩ = some (.slice Ao32 t215.length co32) ∧ w'.cell? ⟨gb196, 0, none⟩ = some (.slice A0_0 l0_0.length c0_0) ∧ w'.cell? ⟨gb196, 1, none⟩ = some (.slice A0_1 l0_1.length c0_1)) (ds := []) (Sh.nm 5 0) (by kernel_rfl) rfl rfl Sh.cs (fun hHeld => ?_)
      generalize wc.drew = w65 at HO_212000 HO_212001 HO_219000 HO_219001 HO_227000 HO_227001 BK196 BK211 BK218 BK226 HB hHeld ⊢
      refine Sh.tA 0 41 (Sh.nm 5 1) (by kernel_rfl) hHeld ?_ (hy := by rintro w' ⟨s0, s1, s2, s3⟩; go_simp; with_reducible rfl)
      refine Sh.tA 1 42 (Sh.nm 5 3) (by kernel_rfl) hHeld ?_ (hy := by rintro w' ⟨s0, s1, s2, s3⟩; go_simp; with_reducible rfl)
      refine one_ (i := 2) (N := some 43) (Sh.nm 5 7) rfl rfl (by kernel_rfl) (by decide) (fun K hK => ?_)
      refine goes_ Try.func6 (by kernel_rfl) rfl #[.agg #[.slice A0_0 l0_0.length c0_0, .slice A0_1 l0_1.length c0_1]] (by rfl) rfl rfl (by (try simp only [List.map_toArray, List.map_cons, List.map_nil]); first | done | rfl | (simp only [List.length_drop, List.length_take]; rfl)) ?_
      with_reducible refine (laws_toLasso.callsQ kj10 _ _ l0_0 _ _ l0_1 t228 t231 _ (Sh.cB HR0_0.out) HC0_0.out (Sh.cB HR0_1.out) HC0_1.out A60.out).mono ?_
      rintro e w66 ⟨v229, v232, rfl, ho0, ho1, hb⟩
      refine ⟨_, rfl, ?_⟩
      have HO230 := am_ (Kd.Q_lower (Kd.Q_new' (Kd.Q_new' (Kd.Q_new' (Kd.Q_new' (Kd.Q_new' (Kd.Q_new' ho0 (Kd.Q_lt (ll_rl HO_212000.out))) (Kd.Q_lt (ll_rl HO_212001.out))) (Kd.Q_lt (ll_rl HO_219000.out))) (Kd.Q_lt (ll_rl HO_219001.out))) (Kd.Q_lt (ll_rl HO_227000.out))) (Kd.Q_lt (ll_rl HO_227001.out))) (below_size Sh.bw))
      have HO233 := am_ (Kd.Q_lower (Kd.Q_new' (Kd.Q_new' (Kd.Q_new' (Kd.Q_new' (Kd.Q_new' (Kd.Q_new' ho1 (Kd.Q_lt (ll_rl HO_212000.out))) (Kd.Q_lt (ll_rl HO_212001.out))) (Kd.Q_lt (ll_rl HO_219000.out))) (Kd.Q_lt (ll_rl HO_219001.out))) (Kd.Q_lt (ll_rl HO_227000.out))) (Kd.Q_lt (ll_rl HO_227001.out))) (below_size Sh.bw))
      replace HO_212000 := am_ (Kd.Q_mono (Kd.Q_told (Kd.Q_told (Kd.Q_old (ll_rl HO_212000.out) hb) (Kd.Q_base ho0)) (Kd.Q_base ho1)) (fun _ h_ => h_.1))
      replace HO_212001 := am_ (Kd.Q_mono (Kd.Q_told (Kd.Q_told (Kd.Q_old (ll_rl HO_212001.out) hb) (Kd.Q_base ho0)) (Kd.Q_base ho1)) (fun _ h_ => h_.1))
      replace HO_219000 := am_ (Kd.Q_mono (Kd.Q_told (Kd.Q_told (Kd.Q_old (ll_rl HO_219000.out) hb) (Kd.Q_base ho0)) (Kd.Q_base ho1)) (fun _ h_ => h_.1))
      replace HO_219001 := am_ (Kd.Q_mono (Kd.Q_told (Kd.Q_told (Kd.Q_old (ll_rl HO_219001.out) hb) (Kd.Q_base ho0)) (Kd.Q_base ho1)) (fun _ h_ => h_.1))
      replace HO_227000 := am_ (Kd.Q_mono (Kd.Q_told (Kd.Q_told (Kd.Q_old (ll_rl HO_227000.out) hb) (Kd.Q_base ho0)) (Kd.Q_base ho1)) (fun _ h_ => h_.1))
      replace HO_227001 := am_ (Kd.Q_mono (Kd.Q_told (Kd.Q_told (Kd.Q_old (ll_rl HO_227001.out) hb) (Kd.Q_base ho0)) (Kd.Q_base ho1)) (fun _ h_ => h_.1))
      replace BK196 := Sh.ab BK196 hb
      replace BK211 := Sh.ab BK211 hb
      replace BK218 := Sh.ab BK218 hb
      replace BK226 := Sh.ab BK226 hb
      replace HB := Sh.hb hb
      (try clear hb)
      (try clear hb2)
      (try clear hk)
      (try clear hi)
      (try clear ho0)
      (try clear ho1)
      obtain ⟨Ao67, co67, eo67⟩ := ll_slice HO230.out
      (first | subst eo67 | (injection eo67 with f1_ f2_ f3_; have f4_ := f1_.symm; have f5_ := f3_.symm; clear f1_ f2_ f3_; subst f4_; subst f5_))
      obtain ⟨Ao68, co68, eo68⟩ := ll_slice HO233.out
      (first | subst eo68 | (injection eo68 with f1_ f2_ f3_; have f4_ := f1_.symm; have f5_ := f3_.symm; clear f1_ f2_ f3_; subst f4_; subst f5_))
      refine Sh.kN hK Sh.cs fun hHeld => ?_
      clear hK K
      refine one_ (i := 3) (N := some 44) (Sh.nm 5 15) rfl rfl (by kernel_rfl) (by decide) (fun K hK => ?_)
      refine goes_ Try.func8 (by kernel_rfl) rfl #[.agg #[.slice Ao28 t212.length co28, .slice Ao32 t215.length co32], .agg #[.slice Ao67 t228.length co67, .slice Ao68 t231.length co68]] (by rfl) rfl rfl (by (try simp only [List.map_toArray, List.map_cons, List.map_nil]); first | done | rfl | (simp only [List.length_drop, List.length_take]; rfl)) ?_
      with_reducible refine (laws_eqLasso.calls kj10 _ _ t212 _ _ t215 _ _ t228 _ _ t231 true _ (Sh.cR (Kd.Q_reads' HO_219000.out).2.2) (Kd.Q_reads' HO_219000.out).2.1 (Sh.cR (Kd.Q_reads' HO_219001.out).2.2) (Kd.Q_reads' HO_219001.out).2.1 (Sh.cR (Kd.Q_reads' HO230.out).2.2) (Kd.Q_reads' HO230.out).2.1 (Sh.cR (Kd.Q_reads' HO233.out).2.2) (Kd.Q_reads' HO233.out).2.1 A61.out).mono ?_
      rintro e w69 ⟨rfl, hb⟩
      refine ⟨_, rfl, ?_⟩
      replace HO_212000 := am_ (Kd.Q_below (ll_rl HO_212000.out) hb)
      replace HO_212001 := am_ (Kd.Q_below (ll_rl HO_212001.out) hb)
      replace HO_219000 := am_ (Kd.Q_below (ll_rl HO_219000.out) hb)
      replace HO_219001 := am_ (Kd.Q_below (ll_rl HO_219001.out) hb)
      replace HO_227000 := am_ (Kd.Q_below (ll_rl HO_227000.out) hb)
      replace HO_227001 := am_ (Kd.Q_below (ll_rl HO_227001.out) hb)
      replace HO230 := am_ (Kd.Q_below (ll_rl HO230.out) hb)
      replace HO233 := am_ (Kd.Q_below (ll_rl HO233.out) hb)
      replace BK196 := Sh.ab BK196 hb
      replace BK211 := Sh.ab BK211 hb
      replace BK218 := Sh.ab BK218 hb
      replace BK226 := Sh.ab BK226 hb
      replace HB := Sh.hb hb
      (try clear hb)
      (try clear hb2)
      (try clear hk)
      (try clear hi)
      refine Sh.kN hK Sh.cs fun hHeld => ?_
      clear hK K
      refine Sh.pA 4 45 (Sh.nm 5 31) (by kernel_rfl) ?_
      refine done_ (by kernel_rfl) ?_
      have hnb70 := NB218_196.out
      have hnc70 := NB196_218.out
      have hnb71 := NB218_211.out
      have hnc71 := NB211_218.out
      have hnb72 := NB218_226.out
      have hnc72 := NB226_218.out
      have hcz73_0 := Sh.bc BK218.out 0
      have hcz73_1 := Sh.bc BK218.out 1
      have hfz73_0 := blk_frozen BK218.out 0
      have hfz73_1 := blk_frozen BK218.out 1
      go_upto_region 14 with (first | ((with_reducible refine Sh.k 9 ?_); refine Sh.gL (some 48) Try.func9 #[.agg #[.slice Ao28 t212.length co28, .slice Ao32 t215.length co32], .int .i64 1] (h := ?_); (with_reducible refine (laws_markLasso.callsQ kj10 (fun k_ => some k_ = (.slice Ao28 t212.length co28 : Value).ownBlock) (.slice Ao28 t212.length co28) t212 (fun k_ => some k_ = (.slice Ao32 t215.length co32 : Value).ownBlock) (.slice Ao32 t215.length co32) t215 1 t235 t236 t237 w _ ?side1 ?side2 ?side3 ?side4 ?side5 A63.out).mono ?_); (case side1 => repeat (first | (with_reducible first | exact HB.out | apply below_alloc | apply pw_below_drewN | apply below_drew1 | refine below_set ?_ GE196.out | refine below_set ?_ GE211.out | refine below_set ?_ GE218.out | refine below_set ?_ GE226.out) | exact HB.out)); (case side2 => exact Kd.Q_tight rfl HO_219000.out); (case side3 => exact fun k_ e_ => (HO_219000.out.1 k_ e_.symm).1.1.2.2.1); (case side4 => exact Kd.Q_tight rfl HO_219001.out); (case side5 => exact fun k_ e_ => (HO_219001.out.1 k_ e_.symm).1.1.2.2.1); rintro e w74 ⟨rfl, hy0, hy1, hb, hkp⟩; refine ⟨_, rfl, ?_⟩; replace HO_212000 := am_ (Kd.Q_mono (ok' := fun k_ => some k_ ≠ (.slice Ao24 t207.length co24 : Value).ownBlock ∧ some k_ ≠ (.slice Ao28 t212.length co28 : Value).ownBlock ∧ some k_ ≠ (.slice Ao32 t215.length co32 : Value).ownBlock ∧ some k_ ≠ (.slice Ao35 t219.length co35 : Value).ownBlock ∧ some k_ ≠ (.slice Ao40 t222.length co40 : Value).ownBlock ∧ some k_ ≠ (.slice Ao67 t228.length co67 : Value).ownBlock ∧ some k_ ≠ (.slice Ao68 t231.length co68 : Value).ownBlock) (Kd.Q_keptB (HO_212000.out) hkp (fun k_ hk_ hs_ => Or.elim hs_ (fun e_ => (hk_.1.1.2.1) e_) (fun e_ => (hk_.1.1.2.2.1) e_))) (fun k_ h => ⟨h.1.1.1.1, h.1.1.1.2.1, h.1.1.1.2.2.1, h.1.1.1.2.2.2.1, h.1.1.1.2.2.2.2, h.1.1.2, h.1.2⟩)); replace HO_212001 := am_ (Kd.Q_mono (ok' := fun k_ => some k_ ≠ (.slice Ao21 t204.length co21 : Value).ownBlock ∧ some k_ ≠ (.slice Ao28 t212.length co28 : Value).ownBlock ∧ some k_ ≠ (.slice Ao32 t215.length co32 : Value).ownBlock ∧ some k_ ≠ (.slice Ao35 t219.length co35 : Value).ownBlock ∧ some k_ ≠ (.slice Ao40 t222.length co40 : Value).ownBlock ∧ some k_ ≠ (.slice Ao67 t228.length co67 : Value).ownBlock ∧ some k_ ≠ (.slice Ao68 t231.length co68 : Value).ownBlock) (Kd.Q_keptB (HO_212001.out) hkp (fun k_ hk_ hs_ => Or.elim hs_ (fun e_ => (hk_.1.1.2.1) e_) (fun e_ => (hk_.1.1.2.2.1) e_))) (fun k_ h => ⟨h.1.1.1.1, h.1.1.1.2.1, h.1.1.1.2.2.1, h.1.1.1.2.2.2.1, h.1.1.1.2.2.2.2, h.1.1.2, h.1.2⟩)); replace HO_227000 := am_ (Kd.Q_mono (ok' := fun k_ => some k_ ≠ (.slice Ao21 t204.length co21 : Value).ownBlock ∧ some k_ ≠ (.slice Ao24 t207.length co24 : Value).ownBlock ∧ some k_ ≠ (.slice Ao28 t212.length co28 : Value).ownBlock ∧ some k_ ≠ (.slice Ao32 t215.length co32 : Value).ownBlock ∧ some k_ ≠ (.slice Ao40 t222.length co40 : Value).ownBlock ∧ some k_ ≠ (.slice Ao67 t228.length co67 : Value).ownBlock ∧ some k_ ≠ (.slice Ao68 t231.length co68 : Value).ownBlock) (Kd.Q_keptB (HO_227000.out) hkp (fun k_ hk_ hs_ => Or.elim hs_ (fun e_ => (hk_.1.1.2.2.1) e_) (fun e_ => (hk_.1.1.2.2.2.1) e_))) (fun k_ h => ⟨h.1.1.1.1, h.1.1.1.2.1, h.1.1.1.2.2.1, h.1.1.1.2.2.2.1, h.1.1.1.2.2.2.2, h.1.1.2, h.1.2⟩)); replace HO_227001 := am_ (Kd.Q_mono (ok' := fun k_ => some k_ ≠ (.slice Ao21 t204.length co21 : Value).ownBlock ∧ some k_ ≠ (.slice Ao24 t207.length co24 : Value).ownBlock ∧ some k_ ≠ (.slice Ao28 t212.length co28 : Value).ownBlock ∧ some k_ ≠ (.slice Ao32 t215.length co32 : Value).ownBlock ∧ some k_ ≠ (.slice Ao35 t219.length co35 : Value).ownBlock ∧ some k_ ≠ (.slice Ao67 t228.length co67 : Value).ownBlock ∧ some k_ ≠ (.slice Ao68 t231.length co68 : Value).ownBlock) (Kd.Q_keptB (HO_227001.out) hkp (fun k_ hk_ hs_ => Or.elim hs_ (fun e_ => (hk_.1.1.2.2.1) e_) (fun e_ => (hk_.1.1.2.2.2.1) e_))) (fun k_ h => ⟨h.1.1.1.1, h.1.1.1.2.1, h.1.1.1.2.2.1, h.1.1.1.2.2.2.1, h.1.1.1.2.2.2.2, h.1.1.2, h.1.2⟩)); replace BK196 := am_ (blk_kept (Sh.pl BK196.out) hkp (fun hs_ => Or.elim hs_ (fun e_ => (fun e_ => (Kd.Q_ne HO_219000.out BK196.out (by decide)) e_) e_) (fun e_ => (fun e_ => (Kd.Q_ne HO_219001.out BK196.out (by decide)) e_) e_))); replace BK211 := am_ (blk_kept (Sh.pl BK211.out) hkp (fun hs_ => Or.elim hs_ (fun e_ => (fun e_ => (Kd.Q_ne HO_219000.out BK211.out (by decide)) e_) e_) (fun e_ => (fun e_ => (Kd.Q_ne HO_219001.out BK211.out (by decide)) e_) e_))); replace BK218 := am_ (blk_kept (Sh.pl BK218.out) hkp (fun hs_ => Or.elim hs_ (fun e_ => (fun e_ => (Kd.Q_ne HO_219000.out BK218.out (by decide)) e_) e_) (fun e_ => (fun e_ => (Kd.Q_ne HO_219001.out BK218.out (by decide)) e_) e_))); replace BK226 := am_ (blk_kept (Sh.pl BK226.out) hkp (fun hs_ => Or.elim hs_ (fun e_ => (fun e_ => (Kd.Q_ne HO_219000.out BK226.out (by decide)) e_) e_) (fun e_ => (fun e_ => (Kd.Q_ne HO_219001.out BK226.out (by decide)) e_) e_))); replace HO_219000 := am_ (ll_reok rfl hy0 (fun k_ e_ => HO_219000.out.1 k_ e_)); replace HO_219001 := am_ (ll_reok rfl hy1 (fun k_ e_ => HO_219001.out.1 k_ e_)); replace HO230 := am_ (Kd.Q_mono (ok' := fun k_ => some k_ ≠ (.slice Ao21 t204.length co21 : Value).ownBlock ∧ some k_ ≠ (.slice Ao24 t207.length co24 : Value).ownBlock ∧ some k_ ≠ (.slice Ao28 t212.length co28 : Value).ownBlock ∧ some k_ ≠ (.slice Ao32 t215.length co32 : Value).ownBlock ∧ some k_ ≠ (.slice Ao35 t219.length co35 : Value).ownBlock ∧ some k_ ≠ (.slice Ao40 t222.length co40 : Value).ownBlock ∧ some k_ ≠ (.slice Ao68 t231.length co68 : Value).ownBlock) (Kd.Q_keptB (HO230.out) hkp (fun k_ hk_ hs_ => Or.elim hs_ (fun e_ => (hk_.1.1.1.2) e_) (fun e_ => (hk_.1.1.2) e_))) (fun k_ h => ⟨h.1.1.1.1.1.1.2, h.1.1.1.1.1.2, h.1.1.1.1.2, h.1.1.1.2, h.1.1.2, h.1.2, h.1.1.1.1.1.1.1⟩)); replace HO233 := am_ (Kd.Q_mono (ok' := fun k_ => some k_ ≠ (.slice Ao21 t204.length co21 : Value).ownBlock ∧ some k_ ≠ (.slice Ao24 t207.length co24 : Value).ownBlock ∧ some k_ ≠ (.slice Ao28 t212.length co28 : Value).ownBlock ∧ some k_ ≠ (.slice Ao32 t215.length co32 : Value).ownBlock ∧ some k_ ≠ (.slice Ao35 t219.length co35 : Value).ownBlock ∧ some k_ ≠ (.slice Ao40 t222.length co40 : Value).ownBlock ∧ some k_ ≠ (.slice Ao67 t228.length co67 : Value).ownBlock) (Kd.Q_keptB (HO233.out) hkp (fun k_ hk_ hs_ => Or.elim hs_ (fun e_ => (hk_.1.1.1.2) e_) (fun e_ => (hk_.1.1.2) e_))) (fun k_ h => ⟨h.1.1.1.1.1.1.2, h.1.1.1.1.1.2, h.1.1.1.1.2, h.1.1.1.2, h.1.1.2, h.1.2, h.1.1.1.1.1.1.1⟩)); replace HB := am_ hb; (try clear hb); (try clear hkp); (try clear hy0); (try clear hy1)))
      (try simp only [Act.put, List.setIfInBounds_toArray, List.set_cons_zero, List.set_cons_succ])
      go_cut [61] (fun v61 wc => ∃ (kq : Nat) (x61_63 : Bool), v61 = .bool x61_63 ∧ Aside0 (laws_FnExactLeastLasso.j1 kq t210 x61_63 l0_0 l0_1 t204 t207 t219 t222 = some r) ∧ Aside0 (kq ≤ kj10) ∧ Aside0 (Kd.Q (Kd.int .i64) 3 wc w.heap.size (fun k_ => some k_ ≠ ((.slice Ao24 t207.length co24) : Value).ownBlock ∧ some k_ ≠ ((.slice Ao28 t212.length co28) : Value).ownBlock ∧ some k_ ≠ ((.slice Ao32 t215.length co32) : Value).ownBlock ∧ some k_ ≠ ((.slice Ao35 t219.length co35) : Value).ownBlock ∧ some k_ ≠ ((.slice Ao40 t222.length co40) : Value).ownBlock) (.slice Ao21 t204.length co21) t204) ∧ Aside0 (Kd.Q (Kd.int .i64) 3 wc w.heap.size (fun k_ => some k_ ≠ ((.slice Ao21 t204.length co21) : Value).ownBlock ∧ some k_ ≠ ((.slice Ao28 t212.length co28) : Value).ownBlock ∧ some k_ ≠ ((.slice Ao32 t215.length co32) : Value).ownBlock ∧ some k_ ≠ ((.slice Ao35 t219.length co35) : Value).ownBlock ∧ some k_ ≠ ((.slice Ao40 t222.length co40) : Value).ownBlock) (.slice Ao24 t207.length co24) t207) ∧ Aside0 (Kd.Q (Kd.int .i64) 3 wc w.heap.size (fun k_ => some k_ ≠ ((.slice Ao21 t204.length co21) : Value).ownBlock ∧ some k_ ≠ ((.slice Ao24 t207.length co24) : Value).ownBlock ∧ some k_ ≠ ((.slice Ao32 t215.length co32) : Value).ownBlock ∧ some k_ ≠ ((.slice Ao35 t219.length co35) : Value).ownBlock ∧ some k_ ≠ ((.slice Ao40 t222.length co40) : Value).ownBlock) (.slice Ao28 t212.length co28) t236) ∧ Aside0 (Kd.Q (Kd.int .i64) 3 wc w.heap.size (fun k_ => some k_ ≠ ((.slice Ao21 t204.length co21) : Value).ownBlock ∧ some k_ ≠ ((.slice Ao24 t207.length co24) : Value).ownBlock ∧ some k_ ≠ ((.slice Ao28 t212.length co28) : Value).ownBlock ∧ some k_ ≠ ((.slice Ao35 t219.length co35) : Value).ownBlock ∧ some k_ ≠ ((.slice Ao40 t222.length co40) : Value).ownBlock) (.slice Ao32 t215.length co32) t237) ∧ Aside0 (Kd.Q (Kd.int .i64) 3 wc w.heap.size (fun k_ => some k_ ≠ ((.slice Ao21 t204.length co21) : Value).ownBlock ∧ some k_ ≠ ((.slice Ao24 t207.length co24) : Value).ownBlock ∧ some k_ ≠ ((.slice Ao28 t212.length co28) : Value).ownBlock ∧ some k_ ≠ ((.slice Ao32 t215.length co32) : Value).ownBlock ∧ some k_ ≠ ((.slice Ao40 t222.length co40) : Value).ownBlock) (.slice Ao35 t219.length co35) t219) ∧ Aside0 (Kd.Q (Kd.int .i64) 3 wc w.heap.size (fun k_ => some k_ ≠ ((.slice Ao21 t204.length co21) : Value).ownBlock ∧ some k_ ≠ ((.slice Ao24 t207.length co24) : Value).ownBlock ∧ some k_ ≠ ((.slice Ao28 t212.length co28) : Value).ownBlock ∧ some k_ ≠ ((.slice Ao32 t215.length co32) : Value).ownBlock ∧ some k_ ≠ ((.slice Ao35 t219.length co35) : Value).ownBlock) (.slice Ao40 t222.length co40) t222) ∧ Aside0 (wc.heap[gb196]? = some (.cells #[(.slice A0_0 l0_0.length c0_0), (.slice A0_1 l0_1.length c0_1)] 24 (0, 0))) ∧ Aside0 (wc.heap[gb211]? = some (.cells #[(.slice Ao21 t204.length co21), (.slice Ao24 t207.length co24)] 26 (0, 0))) ∧ Aside0 (wc.heap[gb218]? = some (.cells #[(.slice Ao28 t212.length co28), (.slice Ao32 t215.length co32)] 26 (0, 0))) ∧ Aside0 (wc.heap[gb226]? = some (.cells #[(.slice Ao35 t219.length co35), (.slice Ao40 t222.length co40)] 26 (0, 0))) ∧ Aside0 (Below w.heap.size w wc))
      case first =>
       have H := HC64.out
       clear HC64
       by_cases c75 : t235 < 0
       ·rw [if_pos c75] at H
        have c75b0 := decide_eq_true c75
        clear c75
        first | rw [c75b0] | (simp only [i64_w, i32_w]; rw [c75b0]) | skip
        have H' := am_ H
        clear H
        go_wp2
        go_meet
        case rel => exact ⟨_, (true), (Sh.es), H', ⟨by have := HJ10.out; first | omega | exact Nat.le_refl _⟩, ⟨ll_rl (Kd.Q_mono HO_212000.out (fun _ h => ⟨h.1, h.2.1, h.2.2.1, h.2.2.2.1, h.2.2.2.2.1⟩))⟩, ⟨ll_rl (Kd.Q_mono HO_212001.out (fun _ h => ⟨h.1, h.2.1, h.2.2.1, h.2.2.2.1, h.2.2.2.2.1⟩))⟩, ⟨ll_rl (Kd.Q_mono HO_219000.out (fun _ h => ⟨h.1.1.1, h.1.1.2.1, h.1.1.2.2.1, h.1.1.2.2.2.1, h.1.1.2.2.2.2⟩))⟩, ⟨ll_rl (Kd.Q_mono HO_219001.out (fun _ h => ⟨h.1.1.1, h.1.1.2.1, h.1.1.2.2.1, h.1.1.2.2.2.1, h.1.1.2.2.2.2⟩))⟩, ⟨ll_rl (Kd.Q_mono HO_227000.out (fun _ h => ⟨h.1, h.2.1, h.2.2.1, h.2.2.2.1, h.2.2.2.2.1⟩))⟩, ⟨ll_rl (Kd.Q_mono HO_227001.out (fun _ h => ⟨h.1, h.2.1, h.2.2.1, h.2.2.2.1, h.2.2.2.2.1⟩))⟩, ⟨by refine Sh.pl ?_; exact BK196.out⟩, ⟨by refine Sh.pl ?_; exact BK211.out⟩, ⟨by refine Sh.pl ?_; exact BK218.out⟩, ⟨by refine Sh.pl ?_; exact BK226.out⟩, ⟨Sh.bw⟩⟩
       ·rw [if_neg c75] at H
        have c75b0 := decide_eq_false c75
        clear c75
        first | rw [c75b0] | (simp only [i64_w, i32_w]; rw [c75b0]) | skip
        obtain ⟨t238, A76, H⟩ := Sh.ba H
        by_cases c77 : t238 = true
        ·subst c77
         rw [if_pos rfl] at H
         have H' := am_ H
         clear H
         have hnb78 := NB226_196.out
         have hnc78 := NB196_226.out
         have hnb79 := NB226_211.out
         have hnc79 := NB211_226.out
         have hnb80 := NB226_218.out
         have hnc80 := NB218_226.out
         have hcz81_0 := Sh.bc BK226.out 0
         have hcz81_1 := Sh.bc BK226.out 1
         have hfz81_0 := blk_frozen BK226.out 0
         have hfz81_1 := blk_frozen BK226.out 1
         have hnb82 := NB211_196.out
         have hnc82 := NB196_211.out
         have hnb83 := NB211_218.out
         have hnc83 := NB218_211.out
         have hcz84_0 := Sh.bc BK211.out 0
         have hcz84_1 := Sh.bc BK211.out 1
         have hfz84_0 := blk_frozen BK211.out 0
         have hfz84_1 := blk_frozen BK211.out 1
         go_wp2_with (first | (go_at_call 8; (with_reducible refine (laws_eqLasso.calls kj10 _ _ t219 _ _ t222 _ _ t204 _ _ t207 true _ (Sh.cR (Kd.Q_reads' HO_227000.out).2.2) (Kd.Q_reads' HO_227000.out).2.1 (Sh.cR (Kd.Q_reads' HO_227001.out).2.2) (Kd.Q_reads' HO_227001.out).2.1 (Sh.cR (Kd.Q_reads' HO_212000.out).2.2) (Kd.Q_reads' HO_212000.out).2.1 (Sh.cR (Kd.Q_reads' HO_212001.out).2.2) (Kd.Q_reads' HO_212001.out).2.1 A76.out).mono ?_); rintro e w85 ⟨rfl, hb⟩; replace HO_212000 := am_ (Kd.Q_below (ll_rl HO_212000.out) hb); replace HO_212001 := am_ (Kd.Q_below (ll_rl HO_212001.out) hb); replace HO_219000 := am_ (Kd.Q_below (ll_rl HO_219000.out) hb); replace HO_219001 := am_ (Kd.Q_below (ll_rl HO_219001.out) hb); replace HO_227000 := am_ (Kd.Q_below (ll_rl HO_227000.out) hb); replace HO_227001 := am_ (Kd.Q_below (ll_rl HO_227001.out) hb); replace HO230 := am_ (Kd.Q_below (ll_rl HO230.out) hb); replace HO233 := am_ (Kd.Q_below (ll_rl HO233.out) hb); replace BK196 := Sh.ab BK196 hb; replace BK211 := Sh.ab BK211 hb; replace BK218 := Sh.ab BK218 hb; replace BK226 := Sh.ab BK226 hb; replace HB := Sh.hb hb; (try clear hb); (try clear hb2); (try clear hk); (try clear hi)))
         go_meet
         case rel => exact ⟨_, ((t225 != t210)), (Sh.es), H', ⟨by have := HJ10.out; first | omega | exact Nat.le_refl _⟩, ⟨ll_rl (Kd.Q_mono HO_212000.out (fun _ h => ⟨h.1, h.2.1, h.2.2.1, h.2.2.2.1, h.2.2.2.2.1⟩))⟩, ⟨ll_rl (Kd.Q_mono HO_212001.out (fun _ h => ⟨h.1, h.2.1, h.2.2.1, h.2.2.2.1, h.2.2.2.2.1⟩))⟩, ⟨ll_rl (Kd.Q_mono HO_219000.out (fun _ h => ⟨h.1.1.1, h.1.1.2.1, h.1.1.2.2.1, h.1.1.2.2.2.1, h.1.1.2.2.2.2⟩))⟩, ⟨ll_rl (Kd.Q_mono HO_219001.out (fun _ h => ⟨h.1.1.1, h.1.1.2.1, h.1.1.2.2.1, h.1.1.2.2.2.1, h.1.1.2.2.2.2⟩))⟩, ⟨ll_rl (Kd.Q_mono HO_227000.out (fun _ h => ⟨h.1, h.2.1, h.2.2.1, h.2.2.2.1, h.2.2.2.2.1⟩))⟩, ⟨ll_rl (Kd.Q_mono HO_227001.out (fun _ h => ⟨h.1, h.2.1, h.2.2.1, h.2.2.2.1, h.2.2.2.2.1⟩))⟩, ⟨by refine Sh.pl ?_; exact BK196.out⟩, ⟨by refine Sh.pl ?_; exact BK211.out⟩, ⟨by refine Sh.pl ?_; exact BK218.out⟩, ⟨by refine Sh.pl ?_; exact BK226.out⟩, ⟨Sh.bw⟩⟩
        ·replace c77 := Bool.eq_false_iff.mpr c77
         subst c77
         rw [Sh.nf] at H
         have H' := am_ H
         clear H
         have hnb86 := NB226_196.out
         have hnc86 := NB196_226.out
         have hnb87 := NB226_211.out
         have hnc87 := NB211_226.out
         have hnb88 := NB226_218.out
         have hnc88 := NB218_226.out
         have hcz89_0 := Sh.bc BK226.out 0
         have hcz89_1 := Sh.bc BK226.out 1
         have hfz89_0 := blk_frozen BK226.out 0
         have hfz89_1 := blk_frozen BK226.out 1
         have hnb90 := NB211_196.out
         have hnc90 := NB196_211.out
         have hnb91 := NB211_218.out
         have hnc91 := NB218_211.out
         have hcz92_0 := Sh.bc BK211.out 0
         have hcz92_1 := Sh.bc BK211.out 1
         have hfz92_0 := blk_frozen BK211.out 0
         have hfz92_1 := blk_frozen BK211.out 1
         go_wp2_with (first | (go_at_call 8; (with_reducible refine (laws_eqLasso.calls kj10 _ _ t219 _ _ t222 _ _ t204 _ _ t207 false _ (Sh.cR (Kd.Q_reads' HO_227000.out).2.2) (Kd.Q_reads' HO_227000.out).2.1 (Sh.cR (Kd.Q_reads' HO_227001.out).2.2) (Kd.Q_reads' HO_227001.out).2.1 (Sh.cR (Kd.Q_reads' HO_212000.out).2.2) (Kd.Q_reads' HO_212000.out).2.1 (Sh.cR (Kd.Q_reads' HO_212001.out).2.2) (Kd.Q_reads' HO_212001.out).2.1 A76.out).mono ?_); rintro e w93 ⟨rfl, hb⟩; replace HO_212000 := am_ (Kd.Q_below (ll_rl HO_212000.out) hb); replace HO_212001 := am_ (Kd.Q_below (ll_rl HO_212001.out) hb); replace HO_219000 := am_ (Kd.Q_below (ll_rl HO_219000.out) hb); replace HO_219001 := am_ (Kd.Q_below (ll_rl HO_219001.out) hb); replace HO_227000 := am_ (Kd.Q_below (ll_rl HO_227000.out) hb); replace HO_227001 := am_ (Kd.Q_below (ll_rl HO_227001.out) hb); replace HO230 := am_ (Kd.Q_below (ll_rl HO230.out) hb); replace HO233 := am_ (Kd.Q_below (ll_rl HO233.out) hb); replace BK196 := Sh.ab BK196 hb; replace BK211 := Sh.ab BK211 hb; replace BK218 := Sh.ab BK218 hb; replace BK226 := Sh.ab BK226 hb; replace HB := Sh.hb hb; (try clear hb); (try clear hb2); (try clear hk); (try clear hi)))
         go_meet
         case rel => exact ⟨_, (true), (Sh.es), H', ⟨by have := HJ10.out; first | omega | exact Nat.le_refl _⟩, ⟨ll_rl (Kd.Q_mono HO_212000.out (fun _ h => ⟨h.1, h.2.1, h.2.2.1, h.2.2.2.1, h.2.2.2.2.1⟩))⟩, ⟨ll_rl (Kd.Q_mono HO_212001.out (fun _ h => ⟨h.1, h.2.1, h.2.2.1, h.2.2.2.1, h.2.2.2.2.1⟩))⟩, ⟨ll_rl (Kd.Q_mono HO_219000.out (fun _ h => ⟨h.1.1.1, h.1.1.2.1, h.1.1.2.2.1, h.1.1.2.2.2.1, h.1.1.2.2.2.2⟩))⟩, ⟨ll_rl (Kd.Q_mono HO_219001.out (fun _ h => ⟨h.1.1.1, h.1.1.2.1, h.1.1.2.2.1, h.1.1.2.2.2.1, h.1.1.2.2.2.2⟩))⟩, ⟨ll_rl (Kd.Q_mono HO_227000.out (fun _ h => ⟨h.1, h.2.1, h.2.2.1, h.2.2.2.1, h.2.2.2.2.1⟩))⟩, ⟨ll_rl (Kd.Q_mono HO_227001.out (fun _ h => ⟨h.1, h.2.1, h.2.2.1, h.2.2.2.1, h.2.2.2.2.1⟩))⟩, ⟨by refine Sh.pl ?_; exact BK196.out⟩, ⟨by refine Sh.pl ?_; exact BK211.out⟩, ⟨by refine Sh.pl ?_; exact BK218.out⟩, ⟨by refine Sh.pl ?_; exact BK226.out⟩, ⟨Sh.bw⟩⟩
      case rest =>
       clear HC64
       try clear hcz13_0
       try clear hcz13_1
       try clear hcz15_0
       try clear hcz15_1
       try clear hcz23_0
       try clear hcz23_1
       try clear hcz25_0
       try clear hcz25_1
       try clear hcz31_0
       try clear hcz31_1
       try clear hcz39_0
       try clear hcz39_1
       try clear hcz46_0
       try clear hcz46_1
       try clear hcz49_0
       try clear hcz49_1
       try clear hcz54_0
       try clear hcz54_1
       try clear hcz57_0
       try clear hcz57_1
       try clear hcz5_0
       try clear hcz5_1
       try clear hcz73_0
       try clear hcz73_1
       try clear hcz81_0
       try clear hcz81_1
       try clear hcz84_0
       try clear hcz84_1
       try clear hcz89_0
       try clear hcz89_1
       try clear hcz92_0
       try clear hcz92_1
       try clear hfz13_0
       try clear hfz13_1
       try clear hfz15_0
       try clear hfz15_1
       try clear hfz23_0
       try clear hfz23_1
       try clear hfz25_0
       try clear hfz25_1
       try clear hfz31_0
       try clear hfz31_1
       try clear hfz39_0
       try clear hfz39_1
       try clear hfz46_0
       try clear hfz46_1
       try clear hfz49_0
       try clear hfz49_1
       try clear hfz54_0
       try clear hfz54_1
       try clear hfz57_0
       try clear hfz57_1
       try clear hfz5_0
       try clear hfz5_1
       try clear hfz73_0
       try clear hfz73_1
       try clear hfz81_0
       try clear hfz81_1
       try clear hfz84_0
       try clear hfz84_1
       try clear hfz89_0
       try clear hfz89_1
       try clear hfz92_0
       try clear hfz92_1
       obtain ⟨kq, x61_63, rfl, HA, HJ63, HO_212000, HO_212001, HO_219000, HO_219001, HO_227000, HO_227001, BK196, BK211, BK218, BK226, HB⟩ := hcut
       have hl219000_63 := (Kd.Q_reads' HO_219000.out).1
       rw [hl219000_63] at HO_219000
       (try simp only [hl219000_63])
       (try simp only [hl219000_63] at BK196)
       (try simp only [hl219000_63] at BK211)
       (try simp only [hl219000_63] at BK218)
       (try simp only [hl219000_63] at BK226)
       (try simp only [hl219000_63] at HO_212000)
       (try simp only [hl219000_63] at HO_212001)
       (try simp only [hl219000_63] at HO_219001)
       (try simp only [hl219000_63] at HO_227000)
       (try simp only [hl219000_63] at HO_227001)
       have hl219001_63 := (Kd.Q_reads' HO_219001.out).1
       rw [hl219001_63] at HO_219001
       (try simp only [hl219001_63])
       (try simp only [hl219001_63] at BK196)
       (try simp only [hl219001_63] at BK211)
       (try simp only [hl219001_63] at BK218)
       (try simp only [hl219001_63] at BK226)
       (try simp only [hl219001_63] at HO_212000)
       (try simp only [hl219001_63] at HO_212001)
       (try simp only [hl219001_63] at HO_219000)
       (try simp only [hl219001_63] at HO_227000)
       (try simp only [hl219001_63] at HO_227001)
       cases kq with
       | zero => exact absurd HA.out (by simp [laws_FnExactLeastLasso.j1])
       | succ kj63 =>
        have H := HA.out
        clear HA
        simp only [laws_FnExactLeastLasso.j1] at H
        by_cases c94 : x61_63 = true
        ·subst c94
         rw [if_pos rfl] at H
         obtain rfl := Option.some.inj H
         go_wp2
         go_ret
         exact ⟨Sh.eR, Sh.bw⟩
        ·replace c94 := Bool.eq_false_iff.mpr c94
         subst c94
         rw [Sh.nf] at H
         obtain ⟨⟨t239, t240, t241⟩, A950, H⟩ := Sh.bd H
         have A95 := am_ A950
         clear A950
         obtain ⟨t242, A96, H⟩ := Sh.ba H
         by_cases c97 : t242 < 0
         ·rw [if_pos c97] at H
          have c97b0 := decide_eq_true c97
          clear c97
          obtain rfl := Option.some.inj H
          have hnb98 := NB226_196.out
          have hnc98 := NB196_226.out
          have hnb99 := NB226_211.out
          have hnc99 := NB211_226.out
          have hnb100 := NB226_218.out
          have hnc100 := NB218_226.out
          have hcz101_0 := Sh.bc BK226.out 0
          have hcz101_1 := Sh.bc BK226.out 1
          have hfz101_0 := blk_frozen BK226.out 0
          have hfz101_1 := blk_frozen BK226.out 1
          go_wp2_with (first | ((with_reducible refine Sh.k 9 ?_); refine Sh.gL (some 64) Try.func9 #[.agg #[.slice Ao35 t219.length co35, .slice Ao40 t222.length co40], .int .i64 1] (h := ?_); (with_reducible refine (laws_markLasso.callsQ kj63 (fun k_ => some k_ = (.slice Ao35 t219.length co35 : Value).ownBlock) (.slice Ao35 t219.length co35) t219 (fun k_ => some k_ = (.slice Ao40 t222.length co40 : Value).ownBlock) (.slice Ao40 t222.length co40) t222 1 t239 t240 t241 w _ ?side1 ?side2 ?side3 ?side4 ?side5 A95.out).mono ?_); (case side1 => repeat (first | (with_reducible first | exact HB.out | apply below_alloc | apply pw_below_drewN | apply below_drew1 | refine below_set ?_ GE196.out | refine below_set ?_ GE211.out | refine below_set ?_ GE218.out | refine below_set ?_ GE226.out) | exact HB.out)); (case side2 => exact Kd.Q_tight rfl HO_227000.out); (case side3 => exact fun k_ e_ => (HO_227000.out.1 k_ e_.symm).2.2.2.2); (case side4 => exact Kd.Q_tight rfl HO_227001.out); (case side5 => exact fun k_ e_ => (HO_227001.out.1 k_ e_.symm).2.2.2.2); rintro e w102 ⟨rfl, hy0, hy1, hb, hkp⟩; refine ⟨_, rfl, ?_⟩; replace HO_212000 := am_ (Kd.Q_mono (ok' := fun k_ => some k_ ≠ (.slice Ao24 t207.length co24 : Value).ownBlock ∧ some k_ ≠ (.slice Ao28 t236.length co28 : Value).ownBlock ∧ some k_ ≠ (.slice Ao32 t237.length co32 : Value).ownBlock ∧ some k_ ≠ (.slice Ao35 t219.length co35 : Value).ownBlock ∧ some k_ ≠ (.slice Ao40 t222.length co40 : Value).ownBlock) (Kd.Q_keptB (HO_212000.out) hkp (fun k_ hk_ hs_ => Or.elim hs_ (fun e_ => (hk_.2.2.2.1) e_) (fun e_ => (hk_.2.2.2.2) e_))) (fun k_ h => ⟨h.1.1, h.1.2.1, h.1.2.2.1, h.1.2.2.2.1, h.1.2.2.2.2⟩)); replace HO_212001 := am_ (Kd.Q_mono (ok' := fun k_ => some k_ ≠ (.slice Ao21 t204.length co21 : Value).ownBlock ∧ some k_ ≠ (.slice Ao28 t236.length co28 : Value).ownBlock ∧ some k_ ≠ (.slice Ao32 t237.length co32 : Value).ownBlock ∧ some k_ ≠ (.slice Ao35 t219.length co35 : Value).ownBlock ∧ some k_ ≠ (.slice Ao40 t222.length co40 : Value).ownBlock) (Kd.Q_keptB (HO_212001.out) hkp (fun k_ hk_ hs_ => Or.elim hs_ (fun e_ => (hk_.2.2.2.1) e_) (fun e_ => (hk_.2.2.2.2) e_))) (fun k_ h => ⟨h.1.1, h.1.2.1, h.1.2.2.1, h.1.2.2.2.1, h.1.2.2.2.2⟩)); replace HO_219000 := am_ (Kd.Q_mono (ok' := fun k_ => some k_ ≠ (.slice Ao21 t204.length co21 : Value).ownBlock ∧ some k_ ≠ (.slice Ao24 t207.length co24 : Value).ownBlock ∧ some k_ ≠ (.slice Ao32 t237.length co32 : Value).ownBlock ∧ some k_ ≠ (.slice Ao35 t219.length co35 : Value).ownBlock ∧ some k_ ≠ (.slice Ao40 t222.length co40 : Value).ownBlock) (Kd.Q_keptB (HO_219000.out) hkp (fun k_ hk_ hs_ => Or.elim hs_ (fun e_ => (hk_.2.2.2.1) e_) (fun e_ => (hk_.2.2.2.2) e_))) (fun k_ h => ⟨h.1.1, h.1.2.1, h.1.2.2.1, h.1.2.2.2.1, h.1.2.2.2.2⟩)); replace HO_219001 := am_ (Kd.Q_mono (ok' := fun k_ => some k_ ≠ (.slice Ao21 t204.length co21 : Value).ownBlock ∧ some k_ ≠ (.slice Ao24 t207.length co24 : Value).ownBlock ∧ some k_ ≠ (.slice Ao28 t236.length co28 : Value).ownBlock ∧ some k_ ≠ (.slice Ao35 t219.length co35 : Value).ownBlock ∧ some k_ ≠ (.slice Ao40 t222.length co40 : Value).ownBlock) (Kd.Q_keptB (HO_219001.out) hkp (fun k_ hk_ hs_ => Or.elim hs_ (fun e_ => (hk_.2.2.2.1) e_) (fun e_ => (hk_.2.2.2.2) e_))) (fun k_ h => ⟨h.1.1, h.1.2.1, h.1.2.2.1, h.1.2.2.2.1, h.1.2.2.2.2⟩)); replace BK196 := am_ (blk_kept (Sh.pl BK196.out) hkp (fun hs_ => Or.elim hs_ (fun e_ => (fun e_ => (Kd.Q_ne HO_227000.out BK196.out (by decide)) e_) e_) (fun e_ => (fun e_ => (Kd.Q_ne HO_227001.out BK196.out (by decide)) e_) e_))); replace BK211 := am_ (blk_kept (Sh.pl BK211.out) hkp (fun hs_ => Or.elim hs_ (fun e_ => (fun e_ => (Kd.Q_ne HO_227000.out BK211.out (by decide)) e_) e_) (fun e_ => (fun e_ => (Kd.Q_ne HO_227001.out BK211.out (by decide)) e_) e_))); replace BK218 := am_ (blk_kept (Sh.pl BK218.out) hkp (fun hs_ => Or.elim hs_ (fun e_ => (fun e_ => (Kd.Q_ne HO_227000.out BK218.out (by decide)) e_) e_) (fun e_ => (fun e_ => (Kd.Q_ne HO_227001.out BK218.out (by decide)) e_) e_))); replace BK226 := am_ (blk_kept (Sh.pl BK226.out) hkp (fun hs_ => Or.elim hs_ (fun e_ => (fun e_ => (Kd.Q_ne HO_227000.out BK226.out (by decide)) e_) e_) (fun e_ => (fun e_ => (Kd.Q_ne HO_227001.out BK226.out (by decide)) e_) e_))); replace HO_227000 := am_ (ll_reok rfl hy0 (fun k_ e_ => HO_227000.out.1 k_ e_)); replace HO_227001 := am_ (ll_reok rfl hy1 (fun k_ e_ => HO_227001.out.1 k_ e_)); replace HB := am_ hb; (try clear hb); (try clear hkp); (try clear hy0); (try clear hy1); obtain ⟨hcz103_0, hcz103_1, hfz103_0, hfz103_1⟩ := Sh.b2 BK226.out) | ((with_reducible refine Sh.k 10 ?_); refine goesL_ (some 67) rfl rfl Try.func10 (by kernel_rfl) rfl #[.agg #[.slice Ao35 t240.length co35, .slice Ao40 t241.length co40], .int .i64 1] rfl (by (try simp only [List.map_toArray, List.map_cons, List.map_nil]); first | done | (rw [show t240.length = t219.length from (Kd.Q_reads' HO_227000.out).1.symm, show t241.length = t222.length from (Kd.Q_reads' HO_227001.out).1.symm] <;> rfl) | rfl | (simp only [List.length_drop, List.length_take]; rfl)) ?_; (with_reducible refine (laws_heldLasso.calls kj63 _ _ t240 _ _ t241 1 t242 _ (Sh.cR (Kd.Q_reads' HO_227000.out).2.2) ?side2 ?side3 ?side4 A96.out).mono ?_); (case side2 => rw [show t240.length = t219.length from (Kd.Q_reads' HO_227000.out).1.symm]; exact (Kd.Q_reads' HO_227000.out).2.1); (case side3 => repeat (first | exact (Kd.Q_reads' HO_227001.out).2.2 | (with_reducible first | refine Kd.C_alloc ?_ _ | refine Kd.C_drewN ?_ _ | refine Kd.C_drew ?_))); (case side4 => rw [show t241.length = t222.length from (Kd.Q_reads' HO_227001.out).1.symm]; exact (Kd.Q_reads' HO_227001.out).2.1); rintro e w104 ⟨rfl, hb⟩; refine ⟨_, rfl, ?_⟩; replace HO_212000 := am_ (Kd.Q_below (ll_rl HO_212000.out) hb); replace HO_212001 := am_ (Kd.Q_below (ll_rl HO_212001.out) hb); replace HO_219000 := am_ (Kd.Q_below (ll_rl HO_219000.out) hb); replace HO_219001 := am_ (Kd.Q_below (ll_rl HO_219001.out) hb); replace HO_227000 := am_ (Kd.Q_below (ll_rl HO_227000.out) hb); replace HO_227001 := am_ (Kd.Q_below (ll_rl HO_227001.out) hb); replace BK196 := Sh.ab BK196 hb; replace BK211 := Sh.ab BK211 hb; replace BK218 := Sh.ab BK218 hb; replace BK226 := Sh.ab BK226 hb; replace HB := Sh.hb hb; (try clear hb); (try clear hb2); (try clear hk); (try clear hi)))
          go_ret
          exact ⟨Sh.eR, Sh.bw⟩
         ·rw [if_neg c97] at H
          have c97b0 := decide_eq_false c97
          clear c97
          by_cases c105 : t242 = t239
          ·rw [if_pos c105] at H
           have c105b0 : (t242 == t239) = true := beq_iff_eq.mpr c105
           have c105b1 : (t242 != t239) = false := bne_eq_false_iff_eq.mpr c105
           clear c105
           obtain ⟨⟨t243, t246⟩, A1060, H⟩ := Sh.bd H
           have A106 := am_ A1060
           clear A1060
           obtain ⟨⟨t249, t252, t255⟩, A1070, H⟩ := Sh.bd H
           have A107 := am_ A1070
           clear A1070
           have HC108 := am_ H
           clear H
           have hnb109 := NB226_196.out
           have hnc109 := NB196_226.out
           have hnb110 := NB226_211.out
           have hnc110 := NB211_226.out
           have hnb111 := NB226_218.out
           have hnc111 := NB218_226.out
           have hcz112_0 := Sh.bc BK226.out 0
           have hcz112_1 := Sh.bc BK226.out 1
           have hfz112_0 := blk_frozen BK226.out 0
           have hfz112_1 := blk_frozen BK226.out 1
           go_upto_region 25 with (first | ((with_reducible refine Sh.k 9 ?_); refine Sh.gL (some 64) Try.func9 #[.agg #[.slice Ao35 t219.length co35, .slice Ao40 t222.length co40], .int .i64 1] (h := ?_); (with_reducible refine (laws_markLasso.callsQ kj63 (fun k_ => some k_ = (.slice Ao35 t219.length co35 : Value).ownBlock) (.slice Ao35 t219.length co35) t219 (fun k_ => some k_ = (.slice Ao40 t222.length co40 : Value).ownBlock) (.slice Ao40 t222.length co40) t222 1 t239 t240 t241 w _ ?side1 ?side2 ?side3 ?side4 ?side5 A95.out).mono ?_); (case side1 => repeat (first | (with_reducible first | exact HB.out | apply below_alloc | apply pw_below_drewN | apply below_drew1 | refine below_set ?_ GE196.out | refine below_set ?_ GE211.out | refine below_set ?_ GE218.out | refine below_set ?_ GE226.out) | exact HB.out)); (case side2 => exact Kd.Q_tight rfl HO_227000.out); (case side3 => exact fun k_ e_ => (HO_227000.out.1 k_ e_.symm).2.2.2.2); (case side4 => exact Kd.Q_tight rfl HO_227001.out); (case side5 => exact fun k_ e_ => (HO_227001.out.1 k_ e_.symm).2.2.2.2); rintro e w113 ⟨rfl, hy0, hy1, hb, hkp⟩; refine ⟨_, rfl, ?_⟩; replace HO_212000 := am_ (Kd.Q_mono (ok' := fun k_ => some k_ ≠ (.slice Ao24 t207.length co24 : Value).ownBlock ∧ some k_ ≠ (.slice Ao28 t236.length co28 : Value).ownBlock ∧ some k_ ≠ (.slice Ao32 t237.length co32 : Value).ownBlock ∧ some k_ ≠ (.slice Ao35 t219.length co35 : Value).ownBlock ∧ some k_ ≠ (.slice Ao40 t222.length co40 : Value).ownBlock) (Kd.Q_keptB (HO_212000.out) hkp (fun k_ hk_ hs_ => Or.elim hs_ (fun e_ => (hk_.2.2.2.1) e_) (fun e_ => (hk_.2.2.2.2) e_))) (fun k_ h => ⟨h.1.1, h.1.2.1, h.1.2.2.1, h.1.2.2.2.1, h.1.2.2.2.2⟩)); replace HO_212001 := am_ (Kd.Q_mono (ok' := fun k_ => some k_ ≠ (.slice Ao21 t204.length co21 : Value).ownBlock ∧ some k_ ≠ (.slice Ao28 t236.length co28 : Value).ownBlock ∧ some k_ ≠ (.slice Ao32 t237.length co32 : Value).ownBlock ∧ some k_ ≠ (.slice Ao35 t219.length co35 : Value).ownBlock ∧ some k_ ≠ (.slice Ao40 t222.length co40 : Value).ownBlock) (Kd.Q_keptB (HO_212001.out) hkp (fun k_ hk_ hs_ => Or.elim hs_ (fun e_ => (hk_.2.2.2.1) e_) (fun e_ => (hk_.2.2.2.2) e_))) (fun k_ h => ⟨h.1.1, h.1.2.1, h.1.2.2.1, h.1.2.2.2.1, h.1.2.2.2.2⟩)); replace HO_219000 := am_ (Kd.Q_mono (ok' := fun k_ => some k_ ≠ (.slice Ao21 t204.length co21 : Value).ownBlock ∧ some k_ ≠ (.slice Ao24 t207.length co24 : Value).ownBlock ∧ some k_ ≠ (.slice Ao32 t237.length co32 : Value).ownBlock ∧ some k_ ≠ (.slice Ao35 t219.length co35 : Value).ownBlock ∧ some k_ ≠ (.slice Ao40 t222.length co40 : Value).ownBlock) (Kd.Q_keptB (HO_219000.out) hkp (fun k_ hk_ hs_ => Or.elim hs_ (fun e_ => (hk_.2.2.2.1) e_) (fun e_ => (hk_.2.2.2.2) e_))) (fun k_ h => ⟨h.1.1, h.1.2.1, h.1.2.2.1, h.1.2.2.2.1, h.1.2.2.2.2⟩)); replace HO_219001 := am_ (Kd.Q_mono (ok' := fun k_ => some k_ ≠ (.slice Ao21 t204.length co21 : Value).ownBlock ∧ some k_ ≠ (.slice Ao24 t207.length co24 : Value).ownBlock ∧ some k_ ≠ (.slice Ao28 t236.length co28 : Value).ownBlock ∧ some k_ ≠ (.slice Ao35 t219.length co35 : Value).ownBlock ∧ some k_ ≠ (.slice Ao40 t222.length co40 : Value).ownBlock) (Kd.Q_keptB (HO_219001.out) hkp (fun k_ hk_ hs_ => Or.elim hs_ (fun e_ => (hk_.2.2.2.1) e_) (fun e_ => (hk_.2.2.2.2) e_))) (fun k_ h => ⟨h.1.1, h.1.2.1, h.1.2.2.1, h.1.2.2.2.1, h.1.2.2.2.2⟩)); replace BK196 := am_ (blk_kept (Sh.pl BK196.out) hkp (fun hs_ => Or.elim hs_ (fun e_ => (fun e_ => (Kd.Q_ne HO_227000.out BK196.out (by decide)) e_) e_) (fun e_ => (fun e_ => (Kd.Q_ne HO_227001.out BK196.out (by decide)) e_) e_))); replace BK211 := am_ (blk_kept (Sh.pl BK211.out) hkp (fun hs_ => Or.elim hs_ (fun e_ => (fun e_ => (Kd.Q_ne HO_227000.out BK211.out (by decide)) e_) e_) (fun e_ => (fun e_ => (Kd.Q_ne HO_227001.out BK211.out (by decide)) e_) e_))); replace BK218 := am_ (blk_kept (Sh.pl BK218.out) hkp (fun hs_ => Or.elim hs_ (fun e_ => (fun e_ => (Kd.Q_ne HO_227000.out BK218.out (by decide)) e_) e_) (fun e_ => (fun e_ => (Kd.Q_ne HO_227001.out BK218.out (by decide)) e_) e_))); replace BK226 := am_ (blk_kept (Sh.pl BK226.out) hkp (fun hs_ => Or.elim hs_ (fun e_ => (fun e_ => (Kd.Q_ne HO_227000.out BK226.out (by decide)) e_) e_) (fun e_ => (fun e_ => (Kd.Q_ne HO_227001.out BK226.out (by decide)) e_) e_))); replace HO_227000 := am_ (ll_reok rfl hy0 (fun k_ e_ => HO_227000.out.1 k_ e_)); replace HO_227001 := am_ (ll_reok rfl hy1 (fun k_ e_ => HO_227001.out.1 k_ e_)); replace HB := am_ hb; (try clear hb); (try clear hkp); (try clear hy0); (try clear hy1); obtain ⟨hcz114_0, hcz114_1, hfz114_0, hfz114_1⟩ := Sh.b2 BK226.out) | ((with_reducible refine Sh.k 10 ?_); refine goesL_ (some 67) rfl rfl Try.func10 (by kernel_rfl) rfl #[.agg #[.slice Ao35 t240.length co35, .slice Ao40 t241.length co40], .int .i64 1] rfl (by (try simp only [List.map_toArray, List.map_cons, List.map_nil]); first | done | (rw [show t240.length = t219.length from (Kd.Q_reads' HO_227000.out).1.symm, show t241.length = t222.length from (Kd.Q_reads' HO_227001.out).1.symm] <;> rfl) | rfl | (simp only [List.length_drop, List.length_take]; rfl)) ?_; (with_reducible refine (laws_heldLasso.calls kj63 _ _ t240 _ _ t241 1 t242 _ (Sh.cR (Kd.Q_reads' HO_227000.out).2.2) ?side2 ?side3 ?side4 A96.out).mono ?_); (case side2 => rw [show t240.length = t219.length from (Kd.Q_reads' HO_227000.out).1.symm]; exact (Kd.Q_reads' HO_227000.out).2.1); (case side3 => repeat (first | exact (Kd.Q_reads' HO_227001.out).2.2 | (with_reducible first | refine Kd.C_alloc ?_ _ | refine Kd.C_drewN ?_ _ | refine Kd.C_drew ?_))); (case side4 => rw [show t241.length = t222.length from (Kd.Q_reads' HO_227001.out).1.symm]; exact (Kd.Q_reads' HO_227001.out).2.1); rintro e w115 ⟨rfl, hb⟩; refine ⟨_, rfl, ?_⟩; replace HO_212000 := am_ (Kd.Q_below (ll_rl HO_212000.out) hb); replace HO_212001 := am_ (Kd.Q_below (ll_rl HO_212001.out) hb); replace HO_219000 := am_ (Kd.Q_below (ll_rl HO_219000.out) hb); replace HO_219001 := am_ (Kd.Q_below (ll_rl HO_219001.out) hb); replace HO_227000 := am_ (Kd.Q_below (ll_rl HO_227000.out) hb); replace HO_227001 := am_ (Kd.Q_below (ll_rl HO_227001.out) hb); replace BK196 := Sh.ab BK196 hb; replace BK211 := Sh.ab BK211 hb; replace BK218 := Sh.ab BK218 hb; replace BK226 := Sh.ab BK226 hb; replace HB := Sh.hb hb; (try clear hb); (try clear hb2); (try clear hk); (try clear hi); have hnb116 := NB196_211.out; have hnc116 := NB211_196.out; have hnb117 := NB196_218.out; have hnc117 := NB218_196.out; obtain ⟨hcz118_0, hcz118_1, hfz118_0, hfz118_1⟩ := Sh.b2 BK196.out) | ((with_reducible refine Sh.k 6 ?_); refine Sh.gL (some 75) Try.func6 #[.agg #[.slice A0_0 l0_0.length c0_0, .slice A0_1 l0_1.length c0_1]] (h := ?_); (with_reducible refine (laws_toLasso.callsQ kj63 _ _ l0_0 _ _ l0_1 t243 t246 _ (Sh.cB HR0_0.out) HC0_0.out (Sh.cB HR0_1.out) HC0_1.out A106.out).mono ?_); rintro e w119 ⟨v244, v247, rfl, ho0, ho1, hb⟩; refine ⟨_, rfl, ?_⟩; have n0_ := am_ (Kd.Q_mono (Kd.Q_told (Kd.Q_told (Kd.Q_old (ll_rl HO_212000.out) hb) (Kd.Q_base ho0)) (Kd.Q_base ho1)) (fun _ h_ => h_.1)); have n1_ := am_ (Kd.Q_mono (Kd.Q_told (Kd.Q_told (Kd.Q_old (ll_rl HO_212001.out) hb) (Kd.Q_base ho0)) (Kd.Q_base ho1)) (fun _ h_ => h_.1)); have n2_ := am_ (Kd.Q_mono (Kd.Q_told (Kd.Q_told (Kd.Q_old (ll_rl HO_219000.out) hb) (Kd.Q_base ho0)) (Kd.Q_base ho1)) (fun _ h_ => h_.1)); have n3_ := am_ (Kd.Q_mono (Kd.Q_told (Kd.Q_told (Kd.Q_old (ll_rl HO_219001.out) hb) (Kd.Q_base ho0)) (Kd.Q_base ho1)) (fun _ h_ => h_.1)); have n4_ := am_ (Kd.Q_mono (Kd.Q_told (Kd.Q_told (Kd.Q_old (ll_rl HO_227000.out) hb) (Kd.Q_base ho0)) (Kd.Q_base ho1)) (fun _ h_ => h_.1)); have n5_ := am_ (Kd.Q_mono (Kd.Q_told (Kd.Q_told (Kd.Q_old (ll_rl HO_227001.out) hb) (Kd.Q_base ho0)) (Kd.Q_base ho1)) (fun _ h_ => h_.1)); have n6_ := am_ (Kd.Q_lower (Kd.Q_new' (Kd.Q_new' (Kd.Q_new' (Kd.Q_new' (Kd.Q_new' (Kd.Q_new' ho0 (Kd.Q_lt (ll_rl HO_212000.out))) (Kd.Q_lt (ll_rl HO_212001.out))) (Kd.Q_lt (ll_rl HO_219000.out))) (Kd.Q_lt (ll_rl HO_219001.out))) (Kd.Q_lt (ll_rl HO_227000.out))) (Kd.Q_lt (ll_rl HO_227001.out))) (below_size Sh.bw)); have n7_ := am_ (Kd.Q_lower (Kd.Q_new' (Kd.Q_new' (Kd.Q_new' (Kd.Q_new' (Kd.Q_new' (Kd.Q_new' ho1 (Kd.Q_lt (ll_rl HO_212000.out))) (Kd.Q_lt (ll_rl HO_212001.out))) (Kd.Q_lt (ll_rl HO_219000.out))) (Kd.Q_lt (ll_rl HO_219001.out))) (Kd.Q_lt (ll_rl HO_227000.out))) (Kd.Q_lt (ll_rl HO_227001.out))) (below_size Sh.bw)); have n8_ := am_ (Sh.bb BK196.out hb); have n9_ := am_ (Sh.bb BK211.out hb); have n10_ := am_ (Sh.bb BK218.out hb); have n11_ := am_ (Sh.bb BK226.out hb); have n12_ := am_ (below_step Sh.bw hb); clear HO_212000; clear HO_212001; clear HO_219000; clear HO_219001; clear HO_227000; clear HO_227001; clear BK196; clear BK211; clear BK218; clear BK226; clear HB; have HO_212000 := n0_; have HO_212001 := n1_; have HO_219000 := n2_; have HO_219001 := n3_; have HO_227000 := n4_; have HO_227001 := n5_; have HO245 := n6_; have HO248 := n7_; have BK196 := n8_; have BK211 := n9_; have BK218 := n10_; have BK226 := n11_; have HB := n12_; clear n0_ n1_ n2_ n3_ n4_ n5_ n6_ n7_ n8_ n9_ n10_ n11_ n12_; (try clear hb); (try clear hb2); (try clear hk); (try clear hi); (try clear ho0); (try clear ho1); obtain ⟨Ao120, co120, eo120⟩ := ll_slice HO245.out; subst eo120; obtain ⟨Ao121, co121, eo121⟩ := ll_slice HO248.out; subst eo121) | ((with_reducible refine Sh.k 7 ?_); refine Sh.gL (some 76) Try.func7 #[.agg #[.slice Ao120 t243.length co120, .slice Ao121 t246.length co121]] (h := ?_); (with_reducible refine (impl_LeastLasso.calls kj63 _ _ t243 _ _ t246 t249 t252 t255 _ (Sh.cR (Kd.Q_reads' HO245.out).2.2) (Kd.Q_reads' HO245.out).2.1 (Sh.cR (Kd.Q_reads' HO248.out).2.2) (Kd.Q_reads' HO248.out).2.1 A107.out).mono ?_); rintro e w122 ⟨v250, v253, rfl, ho0, ho1, hb⟩; refine ⟨_, rfl, ?_⟩; have n0_ := am_ (Kd.Q_mono (Kd.Q_told (Kd.Q_told (Kd.Q_old (ll_rl HO_212000.out) hb) (Kd.Q_base ho0)) (Kd.Q_base ho1)) (fun _ h_ => h_.1)); have n1_ := am_ (Kd.Q_mono (Kd.Q_told (Kd.Q_told (Kd.Q_old (ll_rl HO_212001.out) hb) (Kd.Q_base ho0)) (Kd.Q_base ho1)) (fun _ h_ => h_.1)); have n2_ := am_ (Kd.Q_mono (Kd.Q_told (Kd.Q_told (Kd.Q_old (ll_rl HO_219000.out) hb) (Kd.Q_base ho0)) (Kd.Q_base ho1)) (fun _ h_ => h_.1)); have n3_ := am_ (Kd.Q_mono (Kd.Q_told (Kd.Q_told (Kd.Q_old (ll_rl HO_219001.out) hb) (Kd.Q_base ho0)) (Kd.Q_base ho1)) (fun _ h_ => h_.1)); have n4_ := am_ (Kd.Q_mono (Kd.Q_told (Kd.Q_told (Kd.Q_old (ll_rl HO_227000.out) hb) (Kd.Q_base ho0)) (Kd.Q_base ho1)) (fun _ h_ => h_.1)); have n5_ := am_ (Kd.Q_mono (Kd.Q_told (Kd.Q_told (Kd.Q_old (ll_rl HO_227001.out) hb) (Kd.Q_base ho0)) (Kd.Q_base ho1)) (fun _ h_ => h_.1)); have n6_ := am_ (Kd.Q_mono (Kd.Q_told (Kd.Q_told (Kd.Q_old (ll_rl HO245.out) hb) (Kd.Q_base ho0)) (Kd.Q_base ho1)) (fun _ h_ => h_.1)); have n7_ := am_ (Kd.Q_mono (Kd.Q_told (Kd.Q_told (Kd.Q_old (ll_rl HO248.out) hb) (Kd.Q_base ho0)) (Kd.Q_base ho1)) (fun _ h_ => h_.1)); have n8_ := am_ (Kd.Q_lower (Kd.Q_new' (Kd.Q_new' (Kd.Q_new' (Kd.Q_new' (Kd.Q_new' (Kd.Q_new' (Kd.Q_new' (Kd.Q_new' ho0 (Kd.Q_lt (ll_rl HO_212000.out))) (Kd.Q_lt (ll_rl HO_212001.out))) (Kd.Q_lt (ll_rl HO_219000.out))) (Kd.Q_lt (ll_rl HO_219001.out))) (Kd.Q_lt (ll_rl HO_227000.out))) (Kd.Q_lt (ll_rl HO_227001.out))) (Kd.Q_lt (ll_rl HO245.out))) (Kd.Q_lt (ll_rl HO248.out))) (below_size Sh.bw)); have n9_ := am_ (Kd.Q_lower (Kd.Q_new' (Kd.Q_new' (Kd.Q_new' (Kd.Q_new' (Kd.Q_new' (Kd.Q_new' (Kd.Q_new' (Kd.Q_new' ho1 (Kd.Q_lt (ll_rl HO_212000.out))) (Kd.Q_lt (ll_rl HO_212001.out))) (Kd.Q_lt (ll_rl HO_219000.out))) (Kd.Q_lt (ll_rl HO_219001.out))) (Kd.Q_lt (ll_rl HO_227000.out))) (Kd.Q_lt (ll_rl HO_227001.out))) (Kd.Q_lt (ll_rl HO245.out))) (Kd.Q_lt (ll_rl HO248.out))) (below_size Sh.bw)); have n10_ := am_ (Sh.bb BK196.out hb); have n11_ := am_ (Sh.bb BK211.out hb); have n12_ := am_ (Sh.bb BK218.out hb); have n13_ := am_ (Sh.bb BK226.out hb); have n14_ := am_ (below_step Sh.bw hb); clear HO_212000; clear HO_212001; clear HO_219000; clear HO_219001; clear HO_227000; clear HO_227001; clear HO245; clear HO248; clear BK196; clear BK211; clear BK218; clear BK226; clear HB; have HO_212000 := n0_; have HO_212001 := n1_; have HO_219000 := n2_; have HO_219001 := n3_; have HO_227000 := n4_; have HO_227001 := n5_; have HO245 := n6_; have HO248 := n7_; have HO251 := n8_; have HO254 := n9_; have BK196 := n10_; have BK211 := n11_; have BK218 := n12_; have BK226 := n13_; have HB := n14_; clear n0_ n1_ n2_ n3_ n4_ n5_ n6_ n7_ n8_ n9_ n10_ n11_ n12_ n13_ n14_; (try clear hb); (try clear hb2); (try clear hk); (try clear hi); (try clear ho0); (try clear ho1)) | ((with_reducible refine Sh.d 12 ?_); refine Sh.bx (N := 12) (cs := #[.slice none 0 0, .slice none 0 0]) (t := 26) (h := ?_); intro gb256 hg w123 hbox hb; replace HO_212000 := am_ (Kd.Q_below (ll_rl HO_212000.out) hb); replace HO_212001 := am_ (Kd.Q_below (ll_rl HO_212001.out) hb); replace HO_219000 := am_ (Kd.Q_below (ll_rl HO_219000.out) hb); replace HO_219001 := am_ (Kd.Q_below (ll_rl HO_219001.out) hb); replace HO_227000 := am_ (Kd.Q_below (ll_rl HO_227000.out) hb); replace HO_227001 := am_ (Kd.Q_below (ll_rl HO_227001.out) hb); replace HO245 := am_ (Kd.Q_below (ll_rl HO245.out) hb); replace HO248 := am_ (Kd.Q_below (ll_rl HO248.out) hb); replace HO251 := am_ (Kd.Q_below (ll_rl HO251.out) hb); replace HO254 := am_ (Kd.Q_below (ll_rl HO254.out) hb); have BK256 := am_ hbox; have GE256 := Sh.ag w hg; replace HB := Sh.hb hb; have NB196_256 := am_ (Sh.nl hg BK196.out); have NB256_196 := am_ (Sh.ng hg BK196.out); replace BK196 := Sh.ab BK196 hb; have NB211_256 := am_ (Sh.nl hg BK211.out); have NB256_211 := am_ (Sh.ng hg BK211.out); replace BK211 := Sh.ab BK211 hb; have NB218_256 := am_ (Sh.nl hg BK218.out); have NB256_218 := am_ (Sh.ng hg BK218.out); replace BK218 := Sh.ab BK218 hb; have NB226_256 := am_ (Sh.nl hg BK226.out); have NB256_226 := am_ (Sh.ng hg BK226.out); replace BK226 := Sh.ab BK226 hb; clear hb hbox hg; obtain ⟨Ao124, co124, eo124⟩ := ll_slice HO251.out; subst eo124; have hnb125 := NB256_196.out; have hnc125 := NB196_256.out; have hnb126 := NB256_211.out; have hnc126 := NB211_256.out; have hnb127 := NB256_218.out; have hnc127 := NB218_256.out; have hnb128 := NB256_226.out; have hnc128 := NB226_256.out; obtain ⟨hcz129_0, hcz129_1, hfz129_0, hfz129_1⟩ := Sh.b2 BK256.out; obtain ⟨Ao130, co130, eo130⟩ := ll_slice HO254.out; subst eo130))
           (try simp only [Act.put, List.setIfInBounds_toArray, List.set_cons_zero, List.set_cons_succ])
           go_cut [87] (fun v87 wc => ∃ (kq : Nat) (x87_107 : Bool), v87 = .bool x87_107 ∧ Aside0 (laws_FnExactLeastLasso.j2 kq t239 x87_107 t240 t241 = some r) ∧ Aside0 (kq ≤ kj63) ∧ Aside0 (Kd.Q (Kd.int .i64) 3 wc w.heap.size (fun k_ => some k_ ≠ ((.slice Ao24 t207.length co24) : Value).ownBlock ∧ some k_ ≠ ((.slice Ao28 t236.length co28) : Value).ownBlock ∧ some k_ ≠ ((.slice Ao32 t237.length co32) : Value).ownBlock ∧ some k_ ≠ ((.slice Ao35 t219.length co35) : Value).ownBlock ∧ some k_ ≠ ((.slice Ao40 t222.length co40) : Value).ownBlock ∧ some k_ ≠ ((.slice Ao124 t249.length co124) : Value).ownBlock ∧ some k_ ≠ ((.slice Ao130 t252.length co130) : Value).ownBlock) (.slice Ao21 t204.length co21) t204) ∧ Aside0 (Kd.Q (Kd.int .i64) 3 wc w.heap.size (fun k_ => some k_ ≠ ((.slice Ao21 t204.length co21) : Value).ownBlock ∧ some k_ ≠ ((.slice Ao28 t236.length co28) : Value).ownBlock ∧ some k_ ≠ ((.slice Ao32 t237.length co32) : Value).ownBlock ∧ some k_ ≠ ((.slice Ao35 t219.length co35) : Value).ownBlock ∧ some k_ ≠ ((.slice Ao40 t222.length co40) : Value).ownBlock ∧ some k_ ≠ ((.slice Ao124 t249.length co124) : Value).ownBlock ∧ some k_ ≠ ((.slice Ao130 t252.length co130) : Value).ownBlock) (.slice Ao24 t207.length co24) t207) ∧ Aside0 (Kd.Q (Kd.int .i64) 3 wc w.heap.size (fun k_ => some k_ ≠ ((.slice Ao21 t204.length co21) : Value).ownBlock ∧ some k_ ≠ ((.slice Ao24 t207.length co24) : Value).ownBlock ∧ some k_ ≠ ((.slice Ao32 t237.length co32) : Value).ownBlock ∧ some k_ ≠ ((.slice Ao35 t219.length co35) : Value).ownBlock ∧ some k_ ≠ ((.slice Ao40 t222.length co40) : Value).ownBlock ∧ some k_ ≠ ((.slice Ao124 t249.length co124) : Value).ownBlock ∧ some k_ ≠ ((.slice Ao130 t252.length co130) : Value).ownBlock) (.slice Ao28 t236.length co28) t236) ∧ Aside0 (Kd.Q (Kd.int .i64) 3 wc w.heap.size (fun k_ => some k_ ≠ ((.slice Ao21 t204.length co21) : Value).ownBlock ∧ some k_ ≠ ((.slice Ao24 t207.length co24) : Value).ownBlock ∧ some k_ ≠ ((.slice Ao28 t236.length co28) : Value).ownBlock ∧ some k_ ≠ ((.slice Ao35 t219.length co35) : Value).ownBlock ∧ some k_ ≠ ((.slice Ao40 t222.length co40) : Value).ownBlock ∧ some k_ ≠ ((.slice Ao124 t249.length co124) : Value).ownBlock ∧ some k_ ≠ ((.slice Ao130 t252.length co130) : Value).ownBlock) (.slice Ao32 t237.length co32) t237) ∧ Aside0 (Kd.Q (Kd.int .i64) 3 wc w.heap.size (fun k_ => some k_ ≠ ((.slice Ao21 t204.length co21) : Value).ownBlock ∧ some k_ ≠ ((.slice Ao24 t207.length co24) : Value).ownBlock ∧ some k_ ≠ ((.slice Ao28 t236.length co28) : Value).ownBlock ∧ some k_ ≠ ((.slice Ao32 t237.length co32) : Value).ownBlock ∧ some k_ ≠ ((.slice Ao40 t222.length co40) : Value).ownBlock ∧ some k_ ≠ ((.slice Ao124 t249.length co124) : Value).ownBlock ∧ some k_ ≠ ((.slice Ao130 t252.length co130) : Value).ownBlock) (.slice Ao35 t219.length co35) t240) ∧ Aside0 (Kd.Q (Kd.int .i64) 3 wc w.heap.size (fun k_ => some k_ ≠ ((.slice Ao21 t204.length co21) : Value).ownBlock ∧ some k_ ≠ ((.slice Ao24 t207.length co24) : Value).ownBlock ∧ some k_ ≠ ((.slice Ao28 t236.length co28) : Value).ownBlock ∧ some k_ ≠ ((.slice Ao32 t237.length co32) : Value).ownBlock ∧ some k_ ≠ ((.slice Ao35 t219.length co35) : Value).ownBlock ∧ some k_ ≠ ((.slice Ao124 t249.length co124) : Value).ownBlock ∧ some k_ ≠ ((.slice Ao130 t252.length co130) : Value).ownBlock) (.slice Ao40 t222.length co40) t241) ∧ Aside0 (Kd.Q (Kd.int .i64) 3 wc w.heap.size (fun k_ => some k_ ≠ ((.slice Ao21 t204.length co21) : Value).ownBlock ∧ some k_ ≠ ((.slice Ao24 t207.length co24) : Value).ownBlock ∧ some k_ ≠ ((.slice Ao28 t236.length co28) : Value).ownBlock ∧ some k_ ≠ ((.slice Ao32 t237.length co32) : Value).ownBlock ∧ some k_ ≠ ((.slice Ao35 t219.length co35) : Value).ownBlock ∧ some k_ ≠ ((.slice Ao40 t222.length co40) : Value).ownBlock ∧ some k_ ≠ ((.slice Ao130 t252.length co130) : Value).ownBlock) (.slice Ao124 t249.length co124) t249) ∧ Aside0 (Kd.Q (Kd.int .i64) 3 wc w.heap.size (fun k_ => some k_ ≠ ((.slice Ao21 t204.length co21) : Value).ownBlock ∧ some k_ ≠ ((.slice Ao24 t207.length co24) : Value).ownBlock ∧ some k_ ≠ ((.slice Ao28 t236.length co28) : Value).ownBlock ∧ some k_ ≠ ((.slice Ao32 t237.length co32) : Value).ownBlock ∧ some k_ ≠ ((.slice Ao35 t219.length co35) : Value).ownBlock ∧ some k_ ≠ ((.slice Ao40 t222.length co40) : Value).ownBlock ∧ some k_ ≠ ((.slice Ao124 t249.length co124) : Value).ownBlock) (.slice Ao130 t252.length co130) t252) ∧ Aside0 (wc.heap[gb196]? = some (.cells #[(.slice A0_0 l0_0.length c0_0), (.slice A0_1 l0_1.length c0_1)] 24 (0, 0))) ∧ Aside0 (wc.heap[gb211]? = some (.cells #[(.slice Ao21 t204.length co21), (.slice Ao24 t207.length co24)] 26 (0, 0))) ∧ Aside0 (wc.heap[gb218]? = some (.cells #[(.slice Ao28 t236.length co28), (.slice Ao32 t237.length co32)] 26 (0, 0))) ∧ Aside0 (wc.heap[gb226]? = some (.cells #[(.slice Ao35 t219.length co35), (.slice Ao40 t222.length co40)] 26 (0, 0))) ∧ Aside0 (wc.heap[gb256]? = some (.cells #[(.slice Ao124 t249.length co124), (.slice Ao130 t252.length co130)] 26 (0, 0))) ∧ Aside0 (Below w.heap.size w wc))
           case first =>
            have H := HC108.out
            clear HC108
            obtain ⟨t257, A131, H⟩ := Sh.ba H
            by_cases c132 : t257 = true
            ·subst c132
             rw [if_pos rfl] at H
             have H' := am_ H
             clear H
             have hnb133 := NB256_196.out
             have hnc133 := NB196_256.out
             have hnb134 := NB256_211.out
             have hnc134 := NB211_256.out
             have hnb135 := NB256_218.out
             have hnc135 := NB218_256.out
             have hnb136 := NB256_226.out
             have hnc136 := NB226_256.out
             have hcz137_0 := Sh.bc BK256.out 0
             have hcz137_1 := Sh.bc BK256.out 1
             have hfz137_0 := blk_frozen BK256.out 0
             have hfz137_1 := blk_frozen BK256.out 1
             have hnb138 := NB211_196.out
             have hnc138 := NB196_211.out
             have hnb139 := NB211_218.out
             have hnc139 := NB218_211.out
             have hnb140 := NB211_226.out
             have hnc140 := NB226_211.out
             have hcz141_0 := Sh.bc BK211.out 0
             have hcz141_1 := Sh.bc BK211.out 1
             have hfz141_0 := blk_frozen BK211.out 0
             have hfz141_1 := blk_frozen BK211.out 1
             go_wp2_with (first | ((with_reducible refine Sh.k 8 ?_); refine Sh.gL (some 81) Try.func8 #[.agg #[.slice Ao124 t249.length co124, .slice Ao130 t252.length co130], .agg #[.slice Ao21 t204.length co21, .slice Ao24 t207.length co24]] (h := ?_); (with_reducible refine (laws_eqLasso.calls kj63 _ _ t249 _ _ t252 _ _ t204 _ _ t207 true _ ?side1 ?side2 ?side3 ?side4 ?side5 ?side6 ?side7 ?side8 A131.out).mono ?_); (case side1 => refine (Kd.Q_reads' (e := 3) (base := w.heap.size) (ok := fun k_ => ((((((((some k_ ≠ (.slice Ao130 t252.length co130 : Value).ownBlock ∧ some k_ ≠ (.slice Ao21 t204.length co21 : Value).ownBlock) ∧ some k_ ≠ (.slice Ao24 t207.length co24 : Value).ownBlock) ∧ some k_ ≠ (.slice Ao28 t236.length co28 : Value).ownBlock) ∧ some k_ ≠ (.slice Ao32 t237.length co32 : Value).ownBlock) ∧ some k_ ≠ (.slice Ao35 t219.length co35 : Value).ownBlock) ∧ some k_ ≠ (.slice Ao40 t222.length co40 : Value).ownBlock) ∧ some k_ ≠ (.slice Ao120 t243.length co120 : Value).ownBlock) ∧ some k_ ≠ (.slice Ao121 t246.length co121 : Value).ownBlock)) (n := t249.length) (c := co124) ?_).2.2; exact (ll_rl (Kd.Q_mono (Kd.Q_far (p := ⟨gb256, 1, none⟩) (Kd.Q_far (p := ⟨gb256, 0, none⟩) (Kd.Q_types HO251.out BK256.out (by decide)) (fun _ hk => hk.2) (.slice Ao124 t249.length co124)) (fun _ hk => hk.2) (.slice Ao130 t252.length co130)) (fun _ h_ => h_.1)))); (case side2 => exact (Kd.Q_reads' HO251.out).2.1); (case side3 => refine (Kd.Q_reads' (e := 3) (base := w.heap.size) (ok := fun k_ => ((((((((some k_ ≠ (.slice Ao124 t249.length co124 : Value).ownBlock ∧ some k_ ≠ (.slice Ao21 t204.length co21 : Value).ownBlock) ∧ some k_ ≠ (.slice Ao24 t207.length co24 : Value).ownBlock) ∧ some k_ ≠ (.slice Ao28 t236.length co28 : Value).ownBlock) ∧ some k_ ≠ (.slice Ao32 t237.length co32 : Value).ownBlock) ∧ some k_ ≠ (.slice Ao35 t219.length co35 : Value).ownBlock) ∧ some k_ ≠ (.slice Ao40 t222.length co40 : Value).ownBlock) ∧ some k_ ≠ (.slice Ao120 t243.length co120 : Value).ownBlock) ∧ some k_ ≠ (.slice Ao121 t246.length co121 : Value).ownBlock)) (n := t252.length) (c := co130) ?_).2.2; exact (ll_rl (Kd.Q_mono (Kd.Q_far (p := ⟨gb256, 1, none⟩) (Kd.Q_far (p := ⟨gb256, 0, none⟩) (Kd.Q_types HO254.out BK256.out (by decide)) (fun _ hk => hk.2) (.slice Ao124 t249.length co124)) (fun _ hk => hk.2) (.slice Ao130 t252.length co130)) (fun _ h_ => h_.1)))); (case side4 => exact (Kd.Q_reads' HO254.out).2.1); (case side5 => refine (Kd.Q_reads' (e := 3) (base := w.heap.size) (ok := fun k_ => (((((some k_ ≠ (.slice Ao24 t207.length co24 : Value).ownBlock ∧ (some k_ ≠ (.slice Ao28 t236.length co28 : Value).ownBlock ∧ (some k_ ≠ (.slice Ao32 t237.length co32 : Value).ownBlock ∧ (some k_ ≠ (.slice Ao35 t219.length co35 : Value).ownBlock ∧ some k_ ≠ (.slice Ao40 t222.length co40 : Value).ownBlock)))) ∧ some k_ ≠ (.slice Ao120 t243.length co120 : Value).ownBlock) ∧ some k_ ≠ (.slice Ao121 t246.length co121 : Value).ownBlock) ∧ some k_ ≠ (.slice Ao124 t249.length co124 : Value).ownBlock) ∧ some k_ ≠ (.slice Ao130 t252.length co130 : Value).ownBlock)) (n := t204.length) (c := co21) ?_).2.2; exact (ll_rl (Kd.Q_mono (Kd.Q_far (p := ⟨gb256, 1, none⟩) (Kd.Q_far (p := ⟨gb256, 0, none⟩) (Kd.Q_types HO_212000.out BK256.out (by decide)) (fun _ hk => hk.2) (.slice Ao124 t249.length co124)) (fun _ hk => hk.2) (.slice Ao130 t252.length co130)) (fun _ h_ => h_.1)))); (case side6 => exact (Kd.Q_reads' HO_212000.out).2.1); (case side7 => refine (Kd.Q_reads' (e := 3) (base := w.heap.size) (ok := fun k_ => (((((some k_ ≠ (.slice Ao21 t204.length co21 : Value).ownBlock ∧ (some k_ ≠ (.slice Ao28 t236.length co28 : Value).ownBlock ∧ (some k_ ≠ (.slice Ao32 t237.length co32 : Value).ownBlock ∧ (some k_ ≠ (.slice Ao35 t219.length co35 : Value).ownBlock ∧ some k_ ≠ (.slice Ao40 t222.length co40 : Value).ownBlock)))) ∧ some k_ ≠ (.slice Ao120 t243.length co120 : Value).ownBlock) ∧ some k_ ≠ (.slice Ao121 t246.length co121 : Value).ownBlock) ∧ some k_ ≠ (.slice Ao124 t249.length co124 : Value).ownBlock) ∧ some k_ ≠ (.slice Ao130 t252.length co130 : Value).ownBlock)) (n := t207.length) (c := co24) ?_).2.2; exact (ll_rl (Kd.Q_mono (Kd.Q_far (p := ⟨gb256, 1, none⟩) (Kd.Q_far (p := ⟨gb256, 0, none⟩) (Kd.Q_types HO_212001.out BK256.out (by decide)) (fun _ hk => hk.2) (.slice Ao124 t249.length co124)) (fun _ hk => hk.2) (.slice Ao130 t252.length co130)) (fun _ h_ => h_.1)))); (case side8 => exact (Kd.Q_reads' HO_212001.out).2.1); rintro e w142 ⟨rfl, hb⟩; refine ⟨_, rfl, ?_⟩; replace HO_212000 := am_ (Kd.Q_below (ll_rl (Kd.Q_mono (Kd.Q_far (p := ⟨gb256, 1, none⟩) (Kd.Q_far (p := ⟨gb256, 0, none⟩) (Kd.Q_types HO_212000.out BK256.out (by decide)) (fun _ hk => hk.2) (.slice Ao124 t249.length co124)) (fun _ hk => hk.2) (.slice Ao130 t252.length co130)) (fun _ h_ => h_.1))) hb); replace HO_212001 := am_ (Kd.Q_below (ll_rl (Kd.Q_mono (Kd.Q_far (p := ⟨gb256, 1, none⟩) (Kd.Q_far (p := ⟨gb256, 0, none⟩) (Kd.Q_types HO_212001.out BK256.out (by decide)) (fun _ hk => hk.2) (.slice Ao124 t249.length co124)) (fun _ hk => hk.2) (.slice Ao130 t252.length co130)) (fun _ h_ => h_.1))) hb); replace HO_219000 := am_ (Kd.Q_below (ll_rl (Kd.Q_mono (Kd.Q_far (p := ⟨gb256, 1, none⟩) (Kd.Q_far (p := ⟨gb256, 0, none⟩) (Kd.Q_types HO_219000.out BK256.out (by decide)) (fun _ hk => hk.2) (.slice Ao124 t249.length co124)) (fun _ hk => hk.2) (.slice Ao130 t252.length co130)) (fun _ h_ => h_.1))) hb); replace HO_219001 := am_ (Kd.Q_below (ll_rl (Kd.Q_mono (Kd.Q_far (p := ⟨gb256, 1, none⟩) (Kd.Q_far (p := ⟨gb256, 0, none⟩) (Kd.Q_types HO_219001.out BK256.out (by decide)) (fun _ hk => hk.2) (.slice Ao124 t249.length co124)) (fun _ hk => hk.2) (.slice Ao130 t252.length co130)) (fun _ h_ => h_.1))) hb); replace HO_227000 := am_ (Kd.Q_below (ll_rl (Kd.Q_mono (Kd.Q_far (p := ⟨gb256, 1, none⟩) (Kd.Q_far (p := ⟨gb256, 0, none⟩) (Kd.Q_types HO_227000.out BK256.out (by decide)) (fun _ hk => hk.2) (.slice Ao124 t249.length co124)) (fun _ hk => hk.2) (.slice Ao130 t252.length co130)) (fun _ h_ => h_.1))) hb); replace HO_227001 := am_ (Kd.Q_below (ll_rl (Kd.Q_mono (Kd.Q_far (p := ⟨gb256, 1, none⟩) (Kd.Q_far (p := ⟨gb256, 0, none⟩) (Kd.Q_types HO_227001.out BK256.out (by decide)) (fun _ hk => hk.2) (.slice Ao124 t249.length co124)) (fun _ hk => hk.2) (.slice Ao130 t252.length co130)) (fun _ h_ => h_.1))) hb); replace HO245 := am_ (Kd.Q_below (ll_rl (Kd.Q_mono (Kd.Q_far (p := ⟨gb256, 1, none⟩) (Kd.Q_far (p := ⟨gb256, 0, none⟩) (Kd.Q_types HO245.out BK256.out (by decide)) (fun _ hk => hk.2) (.slice Ao124 t249.length co124)) (fun _ hk => hk.2) (.slice Ao130 t252.length co130)) (fun _ h_ => h_.1))) hb); replace HO248 := am_ (Kd.Q_below (ll_rl (Kd.Q_mono (Kd.Q_far (p := ⟨gb256, 1, none⟩) (Kd.Q_far (p := ⟨gb256, 0, none⟩) (Kd.Q_types HO248.out BK256.out (by decide)) (fun _ hk => hk.2) (.slice Ao124 t249.length co124)) (fun _ hk => hk.2) (.slice Ao130 t252.length co130)) (fun _ h_ => h_.1))) hb); replace HO251 := am_ (Kd.Q_below (ll_rl (Kd.Q_mono (Kd.Q_far (p := ⟨gb256, 1, none⟩) (Kd.Q_far (p := ⟨gb256, 0, none⟩) (Kd.Q_types HO251.out BK256.out (by decide)) (fun _ hk => hk.2) (.slice Ao124 t249.length co124)) (fun _ hk => hk.2) (.slice Ao130 t252.length co130)) (fun _ h_ => h_.1))) hb); replace HO254 := am_ (Kd.Q_below (ll_rl (Kd.Q_mono (Kd.Q_far (p := ⟨gb256, 1, none⟩) (Kd.Q_far (p := ⟨gb256, 0, none⟩) (Kd.Q_types HO254.out BK256.out (by decide)) (fun _ hk => hk.2) (.slice Ao124 t249.length co124)) (fun _ hk => hk.2) (.slice Ao130 t252.length co130)) (fun _ h_ => h_.1))) hb); replace BK196 := am_ (blk_below (g := gb196) (o := .cells #[.slice A0_0 l0_0.length c0_0, .slice A0_1 l0_1.length c0_1] 24 (0, 0)) (by refine Sh.pl ?_; refine blk_far ?_ NB196_256.out _; refine Sh.pl ?_; refine blk_far ?_ NB196_256.out _; refine Sh.pl ?_; exact BK196.out) hb); replace BK211 := am_ (blk_below (g := gb211) (o := .cells #[.slice Ao21 t204.length co21, .slice Ao24 t207.length co24] 26 (0, 0)) (by refine Sh.pl ?_; refine blk_far ?_ NB211_256.out _; refine Sh.pl ?_; refine blk_far ?_ NB211_256.out _; refine Sh.pl ?_; exact BK211.out) hb); replace BK218 := am_ (blk_below (g := gb218) (o := .cells #[.slice Ao28 t236.length co28, .slice Ao32 t237.length co32] 26 (0, 0)) (by refine Sh.pl ?_; refine blk_far ?_ NB218_256.out _; refine Sh.pl ?_; refine blk_far ?_ NB218_256.out _; refine Sh.pl ?_; exact BK218.out) hb); replace BK226 := am_ (blk_below (g := gb226) (o := .cells #[.slice Ao35 t219.length co35, .slice Ao40 t222.length co40] 26 (0, 0)) (by refine Sh.pl ?_; refine blk_far ?_ NB226_256.out _; refine Sh.pl ?_; refine blk_far ?_ NB226_256.out _; refine Sh.pl ?_; exact BK226.out) hb); replace BK256 := am_ (blk_below (g := gb256) (o := .cells #[.slice Ao124 t249.length co124, .slice Ao130 t252.length co130] 26 (0, 0)) (by refine Sh.pl ?_; refine blk_put (cs := #[.slice Ao124 t249.length co124, .slice none 0 0]) ?_ 1 _ rfl; refine Sh.pl ?_; refine blk_put (cs := #[.slice none 0 0, .slice none 0 0]) ?_ 0 _ rfl; refine Sh.pl ?_; exact BK256.out) hb); replace HB := Sh.hb hb; (try clear hb); (try clear hb2); (try clear hk); (try clear hi)))
             go_meet
             case rel => exact ⟨_, ((t255 != t210)), (Sh.es), H', ⟨by have := HJ10.out; have := HJ63.out; first | omega | exact Nat.le_refl _⟩, ⟨by (try simp only [hl219000_63]); (try simp only [hl219001_63]); (with_reducible repeat (first | apply Kd.Q_alloc | apply Kd.Q_drewN | apply Kd.Q_drew)); exact Kd.Q_mono HO_212000.out (fun _ h => ⟨h.1.1.1.1.1, h.1.1.1.1.2.1, h.1.1.1.1.2.2.1, h.1.1.1.1.2.2.2.1, h.1.1.1.1.2.2.2.2, h.1.2, h.2⟩)⟩, ⟨by (try simp only [hl219000_63]); (try simp only [hl219001_63]); (with_reducible repeat (first | apply Kd.Q_alloc | apply Kd.Q_drewN | apply Kd.Q_drew)); exact Kd.Q_mono HO_212001.out (fun _ h => ⟨h.1.1.1.1.1, h.1.1.1.1.2.1, h.1.1.1.1.2.2.1, h.1.1.1.1.2.2.2.1, h.1.1.1.1.2.2.2.2, h.1.2, h.2⟩)⟩, ⟨by (try simp only [hl219000_63]); (try simp only [hl219001_63]); (with_reducible repeat (first | apply Kd.Q_alloc | apply Kd.Q_drewN | apply Kd.Q_drew)); exact Kd.Q_mono HO_219000.out (fun _ h => ⟨h.1.1.1.1.1, h.1.1.1.1.2.1, h.1.1.1.1.2.2.1, h.1.1.1.1.2.2.2.1, h.1.1.1.1.2.2.2.2, h.1.2, h.2⟩)⟩, ⟨by (try simp only [hl219000_63]); (try simp only [hl219001_63]); (with_reducible repeat (first | apply Kd.Q_alloc | apply Kd.Q_drewN | apply Kd.Q_drew)); exact Kd.Q_mono HO_219001.out (fun _ h => ⟨h.1.1.1.1.1, h.1.1.1.1.2.1, h.1.1.1.1.2.2.1, h.1.1.1.1.2.2.2.1, h.1.1.1.1.2.2.2.2, h.1.2, h.2⟩)⟩, ⟨by (try simp only [hl219000_63]); (try simp only [hl219001_63]); (with_reducible repeat (first | apply Kd.Q_alloc | apply Kd.Q_drewN | apply Kd.Q_drew)); exact Kd.Q_mono HO_227000.out (fun _ h => ⟨h.1.1.1.1.1, h.1.1.1.1.2.1, h.1.1.1.1.2.2.1, h.1.1.1.1.2.2.2.1, h.1.1.1.1.2.2.2.2, h.1.2, h.2⟩)⟩, ⟨by (try simp only [hl219000_63]); (try simp only [hl219001_63]); (with_reducible repeat (first | apply Kd.Q_alloc | apply Kd.Q_drewN | apply Kd.Q_drew)); exact Kd.Q_mono HO_227001.out (fun _ h => ⟨h.1.1.1.1.1, h.1.1.1.1.2.1, h.1.1.1.1.2.2.1, h.1.1.1.1.2.2.2.1, h.1.1.1.1.2.2.2.2, h.1.2, h.2⟩)⟩, ⟨by (try simp only [hl219000_63]); (try simp only [hl219001_63]); (with_reducible repeat (first | apply Kd.Q_alloc | apply Kd.Q_drewN | apply Kd.Q_drew)); exact Kd.Q_mono HO251.out (fun _ h => ⟨h.1.1.1.1.1.1.1.2, h.1.1.1.1.1.1.2, h.1.1.1.1.1.2, h.1.1.1.1.2, h.1.1.1.2, h.1.1.2, h.1.1.1.1.1.1.1.1⟩)⟩, ⟨by (try simp only [hl219000_63]); (try simp only [hl219001_63]); (with_reducible repeat (first | apply Kd.Q_alloc | apply Kd.Q_drewN | apply Kd.Q_drew)); exact Kd.Q_mono HO254.out (fun _ h => ⟨h.1.1.1.1.1.1.1.2, h.1.1.1.1.1.1.2, h.1.1.1.1.1.2, h.1.1.1.1.2, h.1.1.1.2, h.1.1.2, h.1.1.1.1.1.1.1.1⟩)⟩, ⟨by (try simp only [hl219000_63]); (try simp only [hl219001_63]); refine Sh.pl ?_; exact BK196.out⟩, ⟨by (try simp only [hl219000_63]); (try simp only [hl219001_63]); refine Sh.pl ?_; exact BK211.out⟩, ⟨by (try simp only [hl219000_63]); (try simp only [hl219001_63]); refine Sh.pl ?_; exact BK218.out⟩, ⟨by (try simp only [hl219000_63]); (try simp only [hl219001_63]); refine Sh.pl ?_; exact BK226.out⟩, ⟨by (try simp only [hl219000_63]); (try simp only [hl219001_63]); refine Sh.pl ?_; exact BK256.out⟩, ⟨Sh.bw⟩⟩
            ·replace c132 := Bool.eq_false_iff.mpr c132
             subst c132
             rw [Sh.nf] at H
             have H' := am_ H
             clear H
             have hnb143 := NB256_196.out
             have hnc143 := NB196_256.out
             have hnb144 := NB256_211.out
             have hnc144 := NB211_256.out
             have hnb145 := NB256_218.out
             have hnc145 := NB218_256.out
             have hnb146 := NB256_226.out
             have hnc146 := NB226_256.out
             have hcz147_0 := Sh.bc BK256.out 0
             have hcz147_1 := Sh.bc BK256.out 1
             have hfz147_0 := blk_frozen BK256.out 0
             have hfz147_1 := blk_frozen BK256.out 1
             have hnb148 := NB211_196.out
             have hnc148 := NB196_211.out
             have hnb149 := NB211_218.out
             have hnc149 := NB218_211.out
             have hnb150 := NB211_226.out
             have hnc150 := NB226_211.out
             have hcz151_0 := Sh.bc BK211.out 0
             have hcz151_1 := Sh.bc BK211.out 1
             have hfz151_0 := blk_frozen BK211.out 0
             have hfz151_1 := blk_frozen BK211.out 1
             go_wp2_with (first | ((with_reducible refine Sh.k 8 ?_); refine Sh.gL (some 81) Try.func8 #[.agg #[.slice Ao124 t249.length co124, .slice Ao130 t252.length co130], .agg #[.slice Ao21 t204.length co21, .slice Ao24 t207.length co24]] (h := ?_); (with_reducible refine (laws_eqLasso.calls kj63 _ _ t249 _ _ t252 _ _ t204 _ _ t207 false _ ?side1 ?side2 ?side3 ?side4 ?side5 ?side6 ?side7 ?side8 A131.out).mono ?_); (case side1 => refine (Kd.Q_reads' (e := 3) (base := w.heap.size) (ok := fun k_ => ((((((((some k_ ≠ (.slice Ao130 t252.length co130 : Value).ownBlock ∧ some k_ ≠ (.slice Ao21 t204.length co21 : Value).ownBlock) ∧ some k_ ≠ (.slice Ao24 t207.length co24 : Value).ownBlock) ∧ some k_ ≠ (.slice Ao28 t236.length co28 : Value).ownBlock) ∧ some k_ ≠ (.slice Ao32 t237.length co32 : Value).ownBlock) ∧ some k_ ≠ (.slice Ao35 t219.length co35 : Value).ownBlock) ∧ some k_ ≠ (.slice Ao40 t222.length co40 : Value).ownBlock) ∧ some k_ ≠ (.slice Ao120 t243.length co120 : Value).ownBlock) ∧ some k_ ≠ (.slice Ao121 t246.length co121 : Value).ownBlock)) (n := t249.length) (c := co124) ?_).2.2; exact (ll_rl (Kd.Q_mono (Kd.Q_far (p := ⟨gb256, 1, none⟩) (Kd.Q_far (p := ⟨gb256, 0, none⟩) (Kd.Q_types HO251.out BK256.out (by decide)) (fun _ hk => hk.2) (.slice Ao124 t249.length co124)) (fun _ hk => hk.2) (.slice Ao130 t252.length co130)) (fun _ h_ => h_.1)))); (case side2 => exact (Kd.Q_reads' HO251.out).2.1); (case side3 => refine (Kd.Q_reads' (e := 3) (base := w.heap.size) (ok := fun k_ => ((((((((some k_ ≠ (.slice Ao124 t249.length co124 : Value).ownBlock ∧ some k_ ≠ (.slice Ao21 t204.length co21 : Value).ownBlock) ∧ some k_ ≠ (.slice Ao24 t207.length co24 : Value).ownBlock) ∧ some k_ ≠ (.slice Ao28 t236.length co28 : Value).ownBlock) ∧ some k_ ≠ (.slice Ao32 t237.length co32 : Value).ownBlock) ∧ some k_ ≠ (.slice Ao35 t219.length co35 : Value).ownBlock) ∧ some k_ ≠ (.slice Ao40 t222.length co40 : Value).ownBlock) ∧ some k_ ≠ (.slice Ao120 t243.length co120 : Value).ownBlock) ∧ some k_ ≠ (.slice Ao121 t246.length co121 : Value).ownBlock)) (n := t252.length) (c := co130) ?_).2.2; exact (ll_rl (Kd.Q_mono (Kd.Q_far (p := ⟨gb256, 1, none⟩) (Kd.Q_far (p := ⟨gb256, 0, none⟩) (Kd.Q_types HO254.out BK256.out (by decide)) (fun _ hk => hk.2) (.slice Ao124 t249.length co124)) (fun _ hk => hk.2) (.slice Ao130 t252.length co130)) (fun _ h_ => h_.1)))); (case side4 => exact (Kd.Q_reads' HO254.out).2.1); (case side5 => refine (Kd.Q_reads' (e := 3) (base := w.heap.size) (ok := fun k_ => (((((some k_ ≠ (.slice Ao24 t207.length co24 : Value).ownBlock ∧ (some k_ ≠ (.slice Ao28 t236.length co28 : Value).ownBlock ∧ (some k_ ≠ (.slice Ao32 t237.length co32 : Value).ownBlock ∧ (some k_ ≠ (.slice Ao35 t219.length co35 : Value).ownBlock ∧ some k_ ≠ (.slice Ao40 t222.length co40 : Value).ownBlock)))) ∧ some k_ ≠ (.slice Ao120 t243.length co120 : Value).ownBlock) ∧ some k_ ≠ (.slice Ao121 t246.length co121 : Value).ownBlock) ∧ some k_ ≠ (.slice Ao124 t249.length co124 : Value).ownBlock) ∧ some k_ ≠ (.slice Ao130 t252.length co130 : Value).ownBlock)) (n := t204.length) (c := co21) ?_).2.2; exact (ll_rl (Kd.Q_mono (Kd.Q_far (p := ⟨gb256, 1, none⟩) (Kd.Q_far (p := ⟨gb256, 0, none⟩) (Kd.Q_types HO_212000.out BK256.out (by decide)) (fun _ hk => hk.2) (.slice Ao124 t249.length co124)) (fun _ hk => hk.2) (.slice Ao130 t252.length co130)) (fun _ h_ => h_.1)))); (case side6 => exact (Kd.Q_reads' HO_212000.out).2.1); (case side7 => refine (Kd.Q_reads' (e := 3) (base := w.heap.size) (ok := fun k_ => (((((some k_ ≠ (.slice Ao21 t204.length co21 : Value).ownBlock ∧ (some k_ ≠ (.slice Ao28 t236.length co28 : Value).ownBlock ∧ (some k_ ≠ (.slice Ao32 t237.length co32 : Value).ownBlock ∧ (some k_ ≠ (.slice Ao35 t219.length co35 : Value).ownBlock ∧ some k_ ≠ (.slice Ao40 t222.length co40 : Value).ownBlock)))) ∧ some k_ ≠ (.slice Ao120 t243.length co120 : Value).ownBlock) ∧ some k_ ≠ (.slice Ao121 t246.length co121 : Value).ownBlock) ∧ some k_ ≠ (.slice Ao124 t249.length co124 : Value).ownBlock) ∧ some k_ ≠ (.slice Ao130 t252.length co130 : Value).ownBlock)) (n := t207.length) (c := co24) ?_).2.2; exact (ll_rl (Kd.Q_mono (Kd.Q_far (p := ⟨gb256, 1, none⟩) (Kd.Q_far (p := ⟨gb256, 0, none⟩) (Kd.Q_types HO_212001.out BK256.out (by decide)) (fun _ hk => hk.2) (.slice Ao124 t249.length co124)) (fun _ hk => hk.2) (.slice Ao130 t252.length co130)) (fun _ h_ => h_.1)))); (case side8 => exact (Kd.Q_reads' HO_212001.out).2.1); rintro e w152 ⟨rfl, hb⟩; refine ⟨_, rfl, ?_⟩; replace HO_212000 := am_ (Kd.Q_below (ll_rl (Kd.Q_mono (Kd.Q_far (p := ⟨gb256, 1, none⟩) (Kd.Q_far (p := ⟨gb256, 0, none⟩) (Kd.Q_types HO_212000.out BK256.out (by decide)) (fun _ hk => hk.2) (.slice Ao124 t249.length co124)) (fun _ hk => hk.2) (.slice Ao130 t252.length co130)) (fun _ h_ => h_.1))) hb); replace HO_212001 := am_ (Kd.Q_below (ll_rl (Kd.Q_mono (Kd.Q_far (p := ⟨gb256, 1, none⟩) (Kd.Q_far (p := ⟨gb256, 0, none⟩) (Kd.Q_types HO_212001.out BK256.out (by decide)) (fun _ hk => hk.2) (.slice Ao124 t249.length co124)) (fun _ hk => hk.2) (.slice Ao130 t252.length co130)) (fun _ h_ => h_.1))) hb); replace HO_219000 := am_ (Kd.Q_below (ll_rl (Kd.Q_mono (Kd.Q_far (p := ⟨gb256, 1, none⟩) (Kd.Q_far (p := ⟨gb256, 0, none⟩) (Kd.Q_types HO_219000.out BK256.out (by decide)) (fun _ hk => hk.2) (.slice Ao124 t249.length co124)) (fun _ hk => hk.2) (.slice Ao130 t252.length co130)) (fun _ h_ => h_.1))) hb); replace HO_219001 := am_ (Kd.Q_below (ll_rl (Kd.Q_mono (Kd.Q_far (p := ⟨gb256, 1, none⟩) (Kd.Q_far (p := ⟨gb256, 0, none⟩) (Kd.Q_types HO_219001.out BK256.out (by decide)) (fun _ hk => hk.2) (.slice Ao124 t249.length co124)) (fun _ hk => hk.2) (.slice Ao130 t252.length co130)) (fun _ h_ => h_.1))) hb); replace HO_227000 := am_ (Kd.Q_below (ll_rl (Kd.Q_mono (Kd.Q_far (p := ⟨gb256, 1, none⟩) (Kd.Q_far (p := ⟨gb256, 0, none⟩) (Kd.Q_types HO_227000.out BK256.out (by decide)) (fun _ hk => hk.2) (.slice Ao124 t249.length co124)) (fun _ hk => hk.2) (.slice Ao130 t252.length co130)) (fun _ h_ => h_.1))) hb); replace HO_227001 := am_ (Kd.Q_below (ll_rl (Kd.Q_mono (Kd.Q_far (p := ⟨gb256, 1, none⟩) (Kd.Q_far (p := ⟨gb256, 0, none⟩) (Kd.Q_types HO_227001.out BK256.out (by decide)) (fun _ hk => hk.2) (.slice Ao124 t249.length co124)) (fun _ hk => hk.2) (.slice Ao130 t252.length co130)) (fun _ h_ => h_.1))) hb); replace HO245 := am_ (Kd.Q_below (ll_rl (Kd.Q_mono (Kd.Q_far (p := ⟨gb256, 1, none⟩) (Kd.Q_far (p := ⟨gb256, 0, none⟩) (Kd.Q_types HO245.out BK256.out (by decide)) (fun _ hk => hk.2) (.slice Ao124 t249.length co124)) (fun _ hk => hk.2) (.slice Ao130 t252.length co130)) (fun _ h_ => h_.1))) hb); replace HO248 := am_ (Kd.Q_below (ll_rl (Kd.Q_mono (Kd.Q_far (p := ⟨gb256, 1, none⟩) (Kd.Q_far (p := ⟨gb256, 0, none⟩) (Kd.Q_types HO248.out BK256.out (by decide)) (fun _ hk => hk.2) (.slice Ao124 t249.length co124)) (fun _ hk => hk.2) (.slice Ao130 t252.length co130)) (fun _ h_ => h_.1))) hb); replace HO251 := am_ (Kd.Q_below (ll_rl (Kd.Q_mono (Kd.Q_far (p := ⟨gb256, 1, none⟩) (Kd.Q_far (p := ⟨gb256, 0, none⟩) (Kd.Q_types HO251.out BK256.out (by decide)) (fun _ hk => hk.2) (.slice Ao124 t249.length co124)) (fun _ hk => hk.2) (.slice Ao130 t252.length co130)) (fun _ h_ => h_.1))) hb); replace HO254 := am_ (Kd.Q_below (ll_rl (Kd.Q_mono (Kd.Q_far (p := ⟨gb256, 1, none⟩) (Kd.Q_far (p := ⟨gb256, 0, none⟩) (Kd.Q_types HO254.out BK256.out (by decide)) (fun _ hk => hk.2) (.slice Ao124 t249.length co124)) (fun _ hk => hk.2) (.slice Ao130 t252.length co130)) (fun _ h_ => h_.1))) hb); replace BK196 := am_ (blk_below (g := gb196) (o := .cells #[.slice A0_0 l0_0.length c0_0, .slice A0_1 l0_1.length c0_1] 24 (0, 0)) (by refine Sh.pl ?_; refine blk_far ?_ NB196_256.out _; refine Sh.pl ?_; refine blk_far ?_ NB196_256.out _; refine Sh.pl ?_; exact BK196.out) hb); replace BK211 := am_ (blk_below (g := gb211) (o := .cells #[.slice Ao21 t204.length co21, .slice Ao24 t207.length co24] 26 (0, 0)) (by refine Sh.pl ?_; refine blk_far ?_ NB211_256.out _; refine Sh.pl ?_; refine blk_far ?_ NB211_256.out _; refine Sh.pl ?_; exact BK211.out) hb); replace BK218 := am_ (blk_below (g := gb218) (o := .cells #[.slice Ao28 t236.length co28, .slice Ao32 t237.length co32] 26 (0, 0)) (by refine Sh.pl ?_; refine blk_far ?_ NB218_256.out _; refine Sh.pl ?_; refine blk_far ?_ NB218_256.out _; refine Sh.pl ?_; exact BK218.out) hb); replace BK226 := am_ (blk_below (g := gb226) (o := .cells #[.slice Ao35 t219.length co35, .slice Ao40 t222.length co40] 26 (0, 0)) (by refine Sh.pl ?_; refine blk_far ?_ NB226_256.out _; refine Sh.pl ?_; refine blk_far ?_ NB226_256.out _; refine Sh.pl ?_; exact BK226.out) hb); replace BK256 := am_ (blk_below (g := gb256) (o := .cells #[.slice Ao124 t249.length co124, .slice Ao130 t252.length co130] 26 (0, 0)) (by refine Sh.pl ?_; refine blk_put (cs := #[.slice Ao124 t249.length co124, .slice none 0 0]) ?_ 1 _ rfl; refine Sh.pl ?_; refine blk_put (cs := #[.slice none 0 0, .slice none 0 0]) ?_ 0 _ rfl; refine Sh.pl ?_; exact BK256.out) hb); replace HB := Sh.hb hb; (try clear hb); (try clear hb2); (try clear hk); (try clear hi)))
             go_meet
             case rel => exact ⟨_, (true), (Sh.es), H', ⟨by have := HJ10.out; have := HJ63.out; first | omega | exact Nat.le_refl _⟩, ⟨by (try simp only [hl219000_63]); (try simp only [hl219001_63]); (with_reducible repeat (first | apply Kd.Q_alloc | apply Kd.Q_drewN | apply Kd.Q_drew)); exact Kd.Q_mono HO_212000.out (fun _ h => ⟨h.1.1.1.1.1, h.1.1.1.1.2.1, h.1.1.1.1.2.2.1, h.1.1.1.1.2.2.2.1, h.1.1.1.1.2.2.2.2, h.1.2, h.2⟩)⟩, ⟨by (try simp only [hl219000_63]); (try simp only [hl219001_63]); (with_reducible repeat (first | apply Kd.Q_alloc | apply Kd.Q_drewN | apply Kd.Q_drew)); exact Kd.Q_mono HO_212001.out (fun _ h => ⟨h.1.1.1.1.1, h.1.1.1.1.2.1, h.1.1.1.1.2.2.1, h.1.1.1.1.2.2.2.1, h.1.1.1.1.2.2.2.2, h.1.2, h.2⟩)⟩, ⟨by (try simp only [hl219000_63]); (try simp only [hl219001_63]); (with_reducible repeat (first | apply Kd.Q_alloc | apply Kd.Q_drewN | apply Kd.Q_drew)); exact Kd.Q_mono HO_219000.out (fun _ h => ⟨h.1.1.1.1.1, h.1.1.1.1.2.1, h.1.1.1.1.2.2.1, h.1.1.1.1.2.2.2.1, h.1.1.1.1.2.2.2.2, h.1.2, h.2⟩)⟩, ⟨by (try simp only [hl219000_63]); (try simp only [hl219001_63]); (with_reducible repeat (first | apply Kd.Q_alloc | apply Kd.Q_drewN | apply Kd.Q_drew)); exact Kd.Q_mono HO_219001.out (fun _ h => ⟨h.1.1.1.1.1, h.1.1.1.1.2.1, h.1.1.1.1.2.2.1, h.1.1.1.1.2.2.2.1, h.1.1.1.1.2.2.2.2, h.1.2, h.2⟩)⟩, ⟨by (try simp only [hl219000_63]); (try simp only [hl219001_63]); (with_reducible repeat (first | apply Kd.Q_alloc | apply Kd.Q_drewN | apply Kd.Q_drew)); exact Kd.Q_mono HO_227000.out (fun _ h => ⟨h.1.1.1.1.1, h.1.1.1.1.2.1, h.1.1.1.1.2.2.1, h.1.1.1.1.2.2.2.1, h.1.1.1.1.2.2.2.2, h.1.2, h.2⟩)⟩, ⟨by (try simp only [hl219000_63]); (try simp only [hl219001_63]); (with_reducible repeat (first | apply Kd.Q_alloc | apply Kd.Q_drewN | apply Kd.Q_drew)); exact Kd.Q_mono HO_227001.out (fun _ h => ⟨h.1.1.1.1.1, h.1.1.1.1.2.1, h.1.1.1.1.2.2.1, h.1.1.1.1.2.2.2.1, h.1.1.1.1.2.2.2.2, h.1.2, h.2⟩)⟩, ⟨by (try simp only [hl219000_63]); (try simp only [hl219001_63]); (with_reducible repeat (first | apply Kd.Q_alloc | apply Kd.Q_drewN | apply Kd.Q_drew)); exact Kd.Q_mono HO251.out (fun _ h => ⟨h.1.1.1.1.1.1.1.2, h.1.1.1.1.1.1.2, h.1.1.1.1.1.2, h.1.1.1.1.2, h.1.1.1.2, h.1.1.2, h.1.1.1.1.1.1.1.1⟩)⟩, ⟨by (try simp only [hl219000_63]); (try simp only [hl219001_63]); (with_reducible repeat (first | apply Kd.Q_alloc | apply Kd.Q_drewN | apply Kd.Q_drew)); exact Kd.Q_mono HO254.out (fun _ h => ⟨h.1.1.1.1.1.1.1.2, h.1.1.1.1.1.1.2, h.1.1.1.1.1.2, h.1.1.1.1.2, h.1.1.1.2, h.1.1.2, h.1.1.1.1.1.1.1.1⟩)⟩, ⟨by (try simp only [hl219000_63]); (try simp only [hl219001_63]); refine Sh.pl ?_; exact BK196.out⟩, ⟨by (try simp only [hl219000_63]); (try simp only [hl219001_63]); refine Sh.pl ?_; exact BK211.out⟩, ⟨by (try simp only [hl219000_63]); (try simp only [hl219001_63]); refine Sh.pl ?_; exact BK218.out⟩, ⟨by (try simp only [hl219000_63]); (try simp only [hl219001_63]); refine Sh.pl ?_; exact BK226.out⟩, ⟨by (try simp only [hl219000_63]); (try simp only [hl219001_63]); refine Sh.pl ?_; exact BK256.out⟩, ⟨Sh.bw⟩⟩
           case rest =>
            clear HC108
            try clear hcz101_0
            try clear hcz101_1
            try clear hcz103_0
            try clear hcz103_1
            try clear hcz112_0
            try clear hcz112_1
            try clear hcz114_0
            try clear hcz114_1
            try clear hcz118_0
            try clear hcz118_1
            try clear hcz129_0
            try clear hcz129_1
            try clear hcz137_0
            try clear hcz137_1
            try clear hcz13_0
            try clear hcz13_1
            try clear hcz141_0
            try clear hcz141_1
            try clear hcz147_0
            try clear hcz147_1
            try clear hcz151_0
            try clear hcz151_1
            try clear hcz15_0
            try clear hcz15_1
            try clear hcz23_0
            try clear hcz23_1
            try clear hcz25_0
            try clear hcz25_1
            try clear hcz31_0
            try clear hcz31_1
            try clear hcz39_0
            try clear hcz39_1
            try clear hcz46_0
            try clear hcz46_1
            try clear hcz49_0
            try clear hcz49_1
            try clear hcz54_0
            try clear hcz54_1
            try clear hcz57_0
            try clear hcz57_1
            try clear hcz5_0
            try clear hcz5_1
            try clear hcz73_0
            try clear hcz73_1
            try clear hcz81_0
            try clear hcz81_1
            try clear hcz84_0
            try clear hcz84_1
            try clear hcz89_0
            try clear hcz89_1
            try clear hcz92_0
            try clear hcz92_1
            try clear hfz101_0
            try clear hfz101_1
            try clear hfz103_0
            try clear hfz103_1
            try clear hfz112_0
            try clear hfz112_1
            try clear hfz114_0
            try clear hfz114_1
            try clear hfz118_0
            try clear hfz118_1
            try clear hfz129_0
            try clear hfz129_1
            try clear hfz137_0
            try clear hfz137_1
            try clear hfz13_0
            try clear hfz13_1
            try clear hfz141_0
            try clear hfz141_1
            try clear hfz147_0
            try clear hfz147_1
            try clear hfz151_0
            try clear hfz151_1
            try clear hfz15_0
            try clear hfz15_1
            try clear hfz23_0
            try clear hfz23_1
            try clear hfz25_0
            try clear hfz25_1
            try clear hfz31_0
            try clear hfz31_1
            try clear hfz39_0
            try clear hfz39_1
            try clear hfz46_0
            try clear hfz46_1
            try clear hfz49_0
            try clear hfz49_1
            try clear hfz54_0
            try clear hfz54_1
            try clear hfz57_0
            try clear hfz57_1
            try clear hfz5_0
            try clear hfz5_1
            try clear hfz73_0
            try clear hfz73_1
            try clear hfz81_0
            try clear hfz81_1
            try clear hfz84_0
            try clear hfz84_1
            try clear hfz89_0
            try clear hfz89_1
            try clear hfz92_0
            try clear hfz92_1
            obtain ⟨kq, x87_107, rfl, HA, HJ107, HO_212000, HO_212001, HO_219000, HO_219001, HO_227000, HO_227001, HO_257000, HO_257001, BK196, BK211, BK218, BK226, BK256, HB⟩ := hcut
            have hl227000_107 := (Kd.Q_reads' HO_227000.out).1
            rw [hl227000_107] at HO_227000
            (try simp only [hl227000_107])
            (try simp only [hl227000_107] at BK196)
            (try simp only [hl227000_107] at BK211)
            (try simp only [hl227000_107] at BK218)
            (try simp only [hl227000_107] at BK226)
            (try simp only [hl227000_107] at BK256)
            (try simp only [hl227000_107] at HO_212000)
            (try simp only [hl227000_107] at HO_212001)
            (try simp only [hl227000_107] at HO_219000)
            (try simp only [hl227000_107] at HO_219001)
            (try simp only [hl227000_107] at HO_227001)
            (try simp only [hl227000_107] at HO_257000)
            (try simp only [hl227000_107] at HO_257001)
            have hl227001_107 := (Kd.Q_reads' HO_227001.out).1
            rw [hl227001_107] at HO_227001
            (try simp only [hl227001_107])
            (try simp only [hl227001_107] at BK196)
            (try simp only [hl227001_107] at BK211)
            (try simp only [hl227001_107] at BK218)
            (try simp only [hl227001_107] at BK226)
            (try simp only [hl227001_107] at BK256)
            (try simp only [hl227001_107] at HO_212000)
            (try simp only [hl227001_107] at HO_212001)
            (try simp only [hl227001_107] at HO_219000)
            (try simp only [hl227001_107] at HO_219001)
            (try simp only [hl227001_107] at HO_227000)
            (try simp only [hl227001_107] at HO_257000)
            (try simp only [hl227001_107] at HO_257001)
            cases kq with
            | zero => exact absurd HA.out (by simp [laws_FnExactLeastLasso.j2])
            | succ kj107 =>
             have H := HA.out
             clear HA
             simp only [laws_FnExactLeastLasso.j2] at H
             by_cases c153 : x87_107 = true
             ·subst c153
              rw [if_pos rfl] at H
              obtain rfl := Option.some.inj H
              go_wp2
              go_ret
              exact ⟨Sh.eR, Sh.bw⟩
             ·replace c153 := Bool.eq_false_iff.mpr c153
              subst c153
              rw [Sh.nf] at H
              obtain ⟨t258, A154, H⟩ := Sh.ba H
              by_cases c155 : t258 < 0
              ·rw [if_pos c155] at H
               have c155b0 := decide_eq_true c155
               clear c155
               obtain rfl := Option.some.inj H
               have hnb156 := NB226_196.out
               have hnc156 := NB196_226.out
               have hnb157 := NB226_211.out
               have hnc157 := NB211_226.out
               have hnb158 := NB226_218.out
               have hnc158 := NB218_226.out
               have hnb159 := NB226_256.out
               have hnc159 := NB256_226.out
               have hcz160_0 := Sh.bc BK226.out 0
               have hcz160_1 := Sh.bc BK226.out 1
               have hfz160_0 := blk_frozen BK226.out 0
               have hfz160_1 := blk_frozen BK226.out 1
               go_wp2_with (first | ((with_reducible refine Sh.k 10 ?_); refine Sh.gB (some 90) Try.func10 #[.agg #[.slice Ao35 t240.length co35, .slice Ao40 t241.length co40], .int .i64 1] (laws_heldLasso.calls kj107 _ _ t240 _ _ t241 1 t258 _ (Sh.cR (Kd.Q_reads' HO_227000.out).2.2) (Kd.Q_reads' HO_227000.out).2.1 (Sh.cR (Kd.Q_reads' HO_227001.out).2.2) (Kd.Q_reads' HO_227001.out).2.1 A154.out) fun w161 hb => ?_; replace HO_212000 := am_ (Kd.Q_below (ll_rl HO_212000.out) hb); replace HO_212001 := am_ (Kd.Q_below (ll_rl HO_212001.out) hb); replace HO_219000 := am_ (Kd.Q_below (ll_rl HO_219000.out) hb); replace HO_219001 := am_ (Kd.Q_below (ll_rl HO_219001.out) hb); replace HO_227000 := am_ (Kd.Q_below (ll_rl HO_227000.out) hb); replace HO_227001 := am_ (Kd.Q_below (ll_rl HO_227001.out) hb); replace HO_257000 := am_ (Kd.Q_below (ll_rl HO_257000.out) hb); replace HO_257001 := am_ (Kd.Q_below (ll_rl HO_257001.out) hb); replace BK196 := Sh.ab BK196 hb; replace BK211 := Sh.ab BK211 hb; replace BK218 := Sh.ab BK218 hb; replace BK226 := Sh.ab BK226 hb; replace BK256 := Sh.ab BK256 hb; replace HB := Sh.hb hb; (try clear hb); (try clear hb2); (try clear hk); (try clear hi)))
               go_ret
               exact ⟨Sh.eR, Sh.bw⟩
              ·rw [if_neg c155] at H
               have c155b0 := decide_eq_false c155
               clear c155
               by_cases c162 : t258 = t239
               ·rw [if_pos c162] at H
                have c162b0 : (t258 == t239) = true := beq_iff_eq.mpr c162
                have c162b1 : (t258 != t239) = false := bne_eq_false_iff_eq.mpr c162
                clear c162
                obtain rfl := Option.some.inj H
                have hnb163 := NB226_196.out
                have hnc163 := NB196_226.out
                have hnb164 := NB226_211.out
                have hnc164 := NB211_226.out
                have hnb165 := NB226_218.out
                have hnc165 := NB218_226.out
                have hnb166 := NB226_256.out
                have hnc166 := NB256_226.out
                have hcz167_0 := Sh.bc BK226.out 0
                have hcz167_1 := Sh.bc BK226.out 1
                have hfz167_0 := blk_frozen BK226.out 0
                have hfz167_1 := blk_frozen BK226.out 1
                go_wp2_with (first | ((with_reducible refine Sh.k 10 ?_); refine Sh.gB (some 90) Try.func10 #[.agg #[.slice Ao35 t240.length co35, .slice Ao40 t241.length co40], .int .i64 1] (laws_heldLasso.calls kj107 _ _ t240 _ _ t241 1 t258 _ (Sh.cR (Kd.Q_reads' HO_227000.out).2.2) (Kd.Q_reads' HO_227000.out).2.1 (Sh.cR (Kd.Q_reads' HO_227001.out).2.2) (Kd.Q_reads' HO_227001.out).2.1 A154.out) fun w168 hb => ?_; replace HO_212000 := am_ (Kd.Q_below (ll_rl HO_212000.out) hb); replace HO_212001 := am_ (Kd.Q_below (ll_rl HO_212001.out) hb); replace HO_219000 := am_ (Kd.Q_below (ll_rl HO_219000.out) hb); replace HO_219001 := am_ (Kd.Q_below (ll_rl HO_219001.out) hb); replace HO_227000 := am_ (Kd.Q_below (ll_rl HO_227000.out) hb); replace HO_227001 := am_ (Kd.Q_below (ll_rl HO_227001.out) hb); replace HO_257000 := am_ (Kd.Q_below (ll_rl HO_257000.out) hb); replace HO_257001 := am_ (Kd.Q_below (ll_rl HO_257001.out) hb); replace BK196 := Sh.ab BK196 hb; replace BK211 := Sh.ab BK211 hb; replace BK218 := Sh.ab BK218 hb; replace BK226 := Sh.ab BK226 hb; replace BK256 := Sh.ab BK256 hb; replace HB := Sh.hb hb; (try clear hb); (try clear hb2); (try clear hk); (try clear hi)))
                go_ret
                exact ⟨Sh.eR, Sh.bw⟩
               ·rw [if_neg c162] at H
                have c162b0 : (t258 == t239) = false := beq_eq_false_iff_ne.mpr c162
                have c162b1 : (t258 != t239) = true := bne_iff_ne.mpr c162
                obtain rfl := Option.some.inj H
                have hnb169 := NB226_196.out
                have hnc169 := NB196_226.out
                have hnb170 := NB226_211.out
                have hnc170 := NB211_226.out
                have hnb171 := NB226_218.out
                have hnc171 := NB218_226.out
                have hnb172 := NB226_256.out
                have hnc172 := NB256_226.out
                have hcz173_0 := Sh.bc BK226.out 0
                have hcz173_1 := Sh.bc BK226.out 1
                have hfz173_0 := blk_frozen BK226.out 0
                have hfz173_1 := blk_frozen BK226.out 1
                go_wp2_with (first | ((with_reducible refine Sh.k 10 ?_); refine Sh.gB (some 90) Try.func10 #[.agg #[.slice Ao35 t240.length co35, .slice Ao40 t241.length co40], .int .i64 1] (laws_heldLasso.calls kj107 _ _ t240 _ _ t241 1 t258 _ (Sh.cR (Kd.Q_reads' HO_227000.out).2.2) (Kd.Q_reads' HO_227000.out).2.1 (Sh.cR (Kd.Q_reads' HO_227001.out).2.2) (Kd.Q_reads' HO_227001.out).2.1 A154.out) fun w174 hb => ?_; replace HO_212000 := am_ (Kd.Q_below (ll_rl HO_212000.out) hb); replace HO_212001 := am_ (Kd.Q_below (ll_rl HO_212001.out) hb); replace HO_219000 := am_ (Kd.Q_below (ll_rl HO_219000.out) hb); replace HO_219001 := am_ (Kd.Q_below (ll_rl HO_219001.out) hb); replace HO_227000 := am_ (Kd.Q_below (ll_rl HO_227000.out) hb); replace HO_227001 := am_ (Kd.Q_below (ll_rl HO_227001.out) hb); replace HO_257000 := am_ (Kd.Q_below (ll_rl HO_257000.out) hb); replace HO_257001 := am_ (Kd.Q_below (ll_rl HO_257001.out) hb); replace BK196 := Sh.ab BK196 hb; replace BK211 := Sh.ab BK211 hb; replace BK218 := Sh.ab BK218 hb; replace BK226 := Sh.ab BK226 hb; replace BK256 := Sh.ab BK256 hb; replace HB := Sh.hb hb; (try clear hb); (try clear hb2); (try clear hk); (try clear hi)))
                go_ret
                exact ⟨Sh.eR, Sh.bw⟩
          ·rw [if_neg c105] at H
           have c105b0 : (t242 == t239) = false := beq_eq_false_iff_ne.mpr c105
           have c105b1 : (t242 != t239) = true := bne_iff_ne.mpr c105
           obtain rfl := Option.some.inj H
           have hnb175 := NB226_196.out
           have hnc175 := NB196_226.out
           have hnb176 := NB226_211.out
           have hnc176 := NB211_226.out
           have hnb177 := NB226_218.out
           have hnc177 := NB218_226.out
           have hcz178_0 := Sh.bc BK226.out 0
           have hcz178_1 := Sh.bc BK226.out 1
           have hfz178_0 := blk_frozen BK226.out 0
           have hfz178_1 := blk_frozen BK226.out 1
           go_wp2_with (first | ((with_reducible refine Sh.k 9 ?_); refine Sh.gL (some 64) Try.func9 #[.agg #[.slice Ao35 t219.length co35, .slice Ao40 t222.length co40], .int .i64 1] (h := ?_); (with_reducible refine (laws_markLasso.callsQ kj63 (fun k_ => some k_ = (.slice Ao35 t219.length co35 : Value).ownBlock) (.slice Ao35 t219.length co35) t219 (fun k_ => some k_ = (.slice Ao40 t222.length co40 : Value).ownBlock) (.slice Ao40 t222.length co40) t222 1 t239 t240 t241 w _ ?side1 ?side2 ?side3 ?side4 ?side5 A95.out).mono ?_); (case side1 => repeat (first | (with_reducible first | exact HB.out | apply below_alloc | apply pw_below_drewN | apply below_drew1 | refine below_set ?_ GE196.out | refine below_set ?_ GE211.out | refine below_set ?_ GE218.out | refine below_set ?_ GE226.out) | exact HB.out)); (case side2 => exact Kd.Q_tight rfl HO_227000.out); (case side3 => exact fun k_ e_ => (HO_227000.out.1 k_ e_.symm).2.2.2.2); (case side4 => exact Kd.Q_tight rfl HO_227001.out); (case side5 => exact fun k_ e_ => (HO_227001.out.1 k_ e_.symm).2.2.2.2); rintro e w179 ⟨rfl, hy0, hy1, hb, hkp⟩; refine ⟨_, rfl, ?_⟩; replace HO_212000 := am_ (Kd.Q_mono (ok' := fun k_ => some k_ ≠ (.slice Ao24 t207.length co24 : Value).ownBlock ∧ some k_ ≠ (.slice Ao28 t236.length co28 : Value).ownBlock ∧ some k_ ≠ (.slice Ao32 t237.length co32 : Value).ownBlock ∧ some k_ ≠ (.slice Ao35 t219.length co35 : Value).ownBlock ∧ some k_ ≠ (.slice Ao40 t222.length co40 : Value).ownBlock) (Kd.Q_keptB (HO_212000.out) hkp (fun k_ hk_ hs_ => Or.elim hs_ (fun e_ => (hk_.2.2.2.1) e_) (fun e_ => (hk_.2.2.2.2) e_))) (fun k_ h => ⟨h.1.1, h.1.2.1, h.1.2.2.1, h.1.2.2.2.1, h.1.2.2.2.2⟩)); replace HO_212001 := am_ (Kd.Q_mono (ok' := fun k_ => some k_ ≠ (.slice Ao21 t204.length co21 : Value).ownBlock ∧ some k_ ≠ (.slice Ao28 t236.length co28 : Value).ownBlock ∧ some k_ ≠ (.slice Ao32 t237.length co32 : Value).ownBlock ∧ some k_ ≠ (.slice Ao35 t219.length co35 : Value).ownBlock ∧ some k_ ≠ (.slice Ao40 t222.length co40 : Value).ownBlock) (Kd.Q_keptB (HO_212001.out) hkp (fun k_ hk_ hs_ => Or.elim hs_ (fun e_ => (hk_.2.2.2.1) e_) (fun e_ => (hk_.2.2.2.2) e_))) (fun k_ h => ⟨h.1.1, h.1.2.1, h.1.2.2.1, h.1.2.2.2.1, h.1.2.2.2.2⟩)); replace HO_219000 := am_ (Kd.Q_mono (ok' := fun k_ => some k_ ≠ (.slice Ao21 t204.length co21 : Value).ownBlock ∧ some k_ ≠ (.slice Ao24 t207.length co24 : Value).ownBlock ∧ some k_ ≠ (.slice Ao32 t237.length co32 : Value).ownBlock ∧ some k_ ≠ (.slice Ao35 t219.length co35 : Value).ownBlock ∧ some k_ ≠ (.slice Ao40 t222.length co40 : Value).ownBlock) (Kd.Q_keptB (HO_219000.out) hkp (fun k_ hk_ hs_ => Or.elim hs_ (fun e_ => (hk_.2.2.2.1) e_) (fun e_ => (hk_.2.2.2.2) e_))) (fun k_ h => ⟨h.1.1, h.1.2.1, h.1.2.2.1, h.1.2.2.2.1, h.1.2.2.2.2⟩)); replace HO_219001 := am_ (Kd.Q_mono (ok' := fun k_ => some k_ ≠ (.slice Ao21 t204.length co21 : Value).ownBlock ∧ some k_ ≠ (.slice Ao24 t207.length co24 : Value).ownBlock ∧ some k_ ≠ (.slice Ao28 t236.length co28 : Value).ownBlock ∧ some k_ ≠ (.slice Ao35 t219.length co35 : Value).ownBlock ∧ some k_ ≠ (.slice Ao40 t222.length co40 : Value).ownBlock) (Kd.Q_keptB (HO_219001.out) hkp (fun k_ hk_ hs_ => Or.elim hs_ (fun e_ => (hk_.2.2.2.1) e_) (fun e_ => (hk_.2.2.2.2) e_))) (fun k_ h => ⟨h.1.1, h.1.2.1, h.1.2.2.1, h.1.2.2.2.1, h.1.2.2.2.2⟩)); replace BK196 := am_ (blk_kept (Sh.pl BK196.out) hkp (fun hs_ => Or.elim hs_ (fun e_ => (fun e_ => (Kd.Q_ne HO_227000.out BK196.out (by decide)) e_) e_) (fun e_ => (fun e_ => (Kd.Q_ne HO_227001.out BK196.out (by decide)) e_) e_))); replace BK211 := am_ (blk_kept (Sh.pl BK211.out) hkp (fun hs_ => Or.elim hs_ (fun e_ => (fun e_ => (Kd.Q_ne HO_227000.out BK211.out (by decide)) e_) e_) (fun e_ => (fun e_ => (Kd.Q_ne HO_227001.out BK211.out (by decide)) e_) e_))); replace BK218 := am_ (blk_kept (Sh.pl BK218.out) hkp (fun hs_ => Or.elim hs_ (fun e_ => (fun e_ => (Kd.Q_ne HO_227000.out BK218.out (by decide)) e_) e_) (fun e_ => (fun e_ => (Kd.Q_ne HO_227001.out BK218.out (by decide)) e_) e_))); replace BK226 := am_ (blk_kept (Sh.pl BK226.out) hkp (fun hs_ => Or.elim hs_ (fun e_ => (fun e_ => (Kd.Q_ne HO_227000.out BK226.out (by decide)) e_) e_) (fun e_ => (fun e_ => (Kd.Q_ne HO_227001.out BK226.out (by decide)) e_) e_))); replace HO_227000 := am_ (ll_reok rfl hy0 (fun k_ e_ => HO_227000.out.1 k_ e_)); replace HO_227001 := am_ (ll_reok rfl hy1 (fun k_ e_ => HO_227001.out.1 k_ e_)); replace HB := am_ hb; (try clear hb); (try clear hkp); (try clear hy0); (try clear hy1); obtain ⟨hcz180_0, hcz180_1, hfz180_0, hfz180_1⟩ := Sh.b2 BK226.out) | ((with_reducible refine Sh.k 10 ?_); refine goesL_ (some 67) rfl rfl Try.func10 (by kernel_rfl) rfl #[.agg #[.slice Ao35 t240.length co35, .slice Ao40 t241.length co40], .int .i64 1] rfl (by (try simp only [List.map_toArray, List.map_cons, List.map_nil]); first | done | (rw [show t240.length = t219.length from (Kd.Q_reads' HO_227000.out).1.symm, show t241.length = t222.length from (Kd.Q_reads' HO_227001.out).1.symm] <;> rfl) | rfl | (simp only [List.length_drop, List.length_take]; rfl)) ?_; (with_reducible refine (laws_heldLasso.calls kj63 _ _ t240 _ _ t241 1 t242 _ (Sh.cR (Kd.Q_reads' HO_227000.out).2.2) ?side2 ?side3 ?side4 A96.out).mono ?_); (case side2 => rw [show t240.length = t219.length from (Kd.Q_reads' HO_227000.out).1.symm]; exact (Kd.Q_reads' HO_227000.out).2.1); (case side3 => repeat (first | exact (Kd.Q_reads' HO_227001.out).2.2 | (with_reducible first | refine Kd.C_alloc ?_ _ | refine Kd.C_drewN ?_ _ | refine Kd.C_drew ?_))); (case side4 => rw [show t241.length = t222.length from (Kd.Q_reads' HO_227001.out).1.symm]; exact (Kd.Q_reads' HO_227001.out).2.1); rintro e w181 ⟨rfl, hb⟩; refine ⟨_, rfl, ?_⟩; replace HO_212000 := am_ (Kd.Q_below (ll_rl HO_212000.out) hb); replace HO_212001 := am_ (Kd.Q_below (ll_rl HO_212001.out) hb); replace HO_219000 := am_ (Kd.Q_below (ll_rl HO_219000.out) hb); replace HO_219001 := am_ (Kd.Q_below (ll_rl HO_219001.out) hb); replace HO_227000 := am_ (Kd.Q_below (ll_rl HO_227000.out) hb); replace HO_227001 := am_ (Kd.Q_below (ll_rl HO_227001.out) hb); replace BK196 := Sh.ab BK196 hb; replace BK211 := Sh.ab BK211 hb; replace BK218 := Sh.ab BK218 hb; replace BK226 := Sh.ab BK226 hb; replace HB := Sh.hb hb; (try clear hb); (try clear hb2); (try clear hk); (try clear hi)))
           go_ret
           exact ⟨Sh.eR, Sh.bw⟩
     ·replace c62 := Bool.eq_false_iff.mpr c62
      subst c62
      rw [Sh.nf] at H
      obtain rfl := Option.some.inj H
      try go_wp2
      replace HO_212000 := am_ (Kd.Q_drew HO_212000.out)
      replace HO_212001 := am_ (Kd.Q_drew HO_212001.out)
      replace HO_219000 := am_ (Kd.Q_drew HO_219000.out)
      replace HO_219001 := am_ (Kd.Q_drew HO_219001.out)
      replace HO_227000 := am_ (Kd.Q_drew HO_227000.out)
      replace HO_227001 := am_ (Kd.Q_drew HO_227001.out)
      replace BK196 := am_ (blk_drew BK196.out)
      replace BK211 := am_ (blk_drew BK211.out)
      replace BK218 := am_ (blk_drew BK218.out)
      replace BK226 := am_ (blk_drew BK226.out)
      replace HB := am_ (below_drew1 HB.out)
      refine start_ (n := 5) (S := fun w' => w'.cell? ⟨gb218, 0, none⟩ = some (.slice Ao28 t212.length co28) ∧ w'.cell? ⟨gb218, 1, none⟩ = some (.slice Ao32 t215.length co32) ∧ w'.cell? ⟨gb196, 0, none⟩ = some (.slice A0_0 l0_0.length c0_0) ∧ w'.cell? ⟨gb196, 1, none⟩ = some (.slice A0_1 l0_1.length c0_1)) (ds := []) (Sh.nm 5 0) (by kernel_rfl) rfl rfl Sh.cs (fun hHeld => ?_)
      generalize wc.drew = w182 at HO_212000 HO_212001 HO_219000 HO_219001 HO_227000 HO_227001 BK196 BK211 BK218 BK226 HB hHeld ⊢
      refine Sh.tA 0 41 (Sh.nm 5 1) (by kernel_rfl) hHeld ?_ (hy := by rintro w' ⟨s0, s1, s2, s3⟩; go_simp; with_reducible rfl)
      refine Sh.tA 1 42 (Sh.nm 5 3) (by kernel_rfl) hHeld ?_ (hy := by rintro w' ⟨s0, s1, s2, s3⟩; go_simp; with_reducible rfl)
      refine one_ (i := 2) (N := some 43) (Sh.nm 5 7) rfl rfl (by kernel_rfl) (by decide) (fun K hK => ?_)
      refine goes_ Try.func6 (by kernel_rfl) rfl #[.agg #[.slice A0_0 l0_0.length c0_0, .slice A0_1 l0_1.length c0_1]] (by rfl) rfl rfl (by (try simp only [List.map_toArray, List.map_cons, List.map_nil]); first | done | rfl | (simp only [List.length_drop, List.length_take]; rfl)) ?_
      with_reducible refine (laws_toLasso.callsQ kj10 _ _ l0_0 _ _ l0_1 t228 t231 _ (Sh.cB HR0_0.out) HC0_0.out (Sh.cB HR0_1.out) HC0_1.out A60.out).mono ?_
      rintro e w183 ⟨v229, v232, rfl, ho0, ho1, hb⟩
      refine ⟨_, rfl, ?_⟩
      have HO230 := am_ (Kd.Q_lower (Kd.Q_new' (Kd.Q_new' (Kd.Q_new' (Kd.Q_new' (Kd.Q_new' (Kd.Q_new' ho0 (Kd.Q_lt (ll_rl HO_212000.out))) (Kd.Q_lt (ll_rl HO_212001.out))) (Kd.Q_lt (ll_rl HO_219000.out))) (Kd.Q_lt (ll_rl HO_219001.out))) (Kd.Q_lt (ll_rl HO_227000.out))) (Kd.Q_lt (ll_rl HO_227001.out))) (below_size Sh.bw))
      have HO233 := am_ (Kd.Q_lower (Kd.Q_new' (Kd.Q_new' (Kd.Q_new' (Kd.Q_new' (Kd.Q_new' (Kd.Q_new' ho1 (Kd.Q_lt (ll_rl HO_212000.out))) (Kd.Q_lt (ll_rl HO_212001.out))) (Kd.Q_lt (ll_rl HO_219000.out))) (Kd.Q_lt (ll_rl HO_219001.out))) (Kd.Q_lt (ll_rl HO_227000.out))) (Kd.Q_lt (ll_rl HO_227001.out))) (below_size Sh.bw))
      replace HO_212000 := am_ (Kd.Q_mono (Kd.Q_told (Kd.Q_told (Kd.Q_old (ll_rl HO_212000.out) hb) (Kd.Q_base ho0)) (Kd.Q_base ho1)) (fun _ h_ => h_.1))
      replace HO_212001 := am_ (Kd.Q_mono (Kd.Q_told (Kd.Q_told (Kd.Q_old (ll_rl HO_212001.out) hb) (Kd.Q_base ho0)) (Kd.Q_base ho1)) (fun _ h_ => h_.1))
      replace HO_219000 := am_ (Kd.Q_mono (Kd.Q_told (Kd.Q_told (Kd.Q_old (ll_rl HO_219000.out) hb) (Kd.Q_base ho0)) (Kd.Q_base ho1)) (fun _ h_ => h_.1))
      replace HO_219001 := am_ (Kd.Q_mono (Kd.Q_told (Kd.Q_told (Kd.Q_old (ll_rl HO_219001.out) hb) (Kd.Q_base ho0)) (Kd.Q_base ho1)) (fun _ h_ => h_.1))
      replace HO_227000 := am_ (Kd.Q_mono (Kd.Q_told (Kd.Q_told (Kd.Q_old (ll_rl HO_227000.out) hb) (Kd.Q_base ho0)) (Kd.Q_base ho1)) (fun _ h_ => h_.1))
      replace HO_227001 := am_ (Kd.Q_mono (Kd.Q_told (Kd.Q_told (Kd.Q_old (ll_rl HO_227001.out) hb) (Kd.Q_base ho0)) (Kd.Q_base ho1)) (fun _ h_ => h_.1))
      replace BK196 := Sh.ab BK196 hb
      replace BK211 := Sh.ab BK211 hb
      replace BK218 := Sh.ab BK218 hb
      replace BK226 := Sh.ab BK226 hb
      replace HB := Sh.hb hb
      (try clear hb)
      (try clear hb2)
      (try clear hk)
      (try clear hi)
      (try clear ho0)
      (try clear ho1)
      obtain ⟨Ao184, co184, eo184⟩ := ll_slice HO230.out
      (first | subst eo184 | (injection eo184 with f1_ f2_ f3_; have f4_ := f1_.symm; have f5_ := f3_.symm; clear f1_ f2_ f3_; subst f4_; subst f5_))
      obtain ⟨Ao185, co185, eo185⟩ := ll_slice HO233.out
      (first | subst eo185 | (injection eo185 with f1_ f2_ f3_; have f4_ := f1_.symm; have f5_ := f3_.symm; clear f1_ f2_ f3_; subst f4_; subst f5_))
      refine Sh.kN hK Sh.cs fun hHeld => ?_
      clear hK K
      refine one_ (i := 3) (N := some 44) (Sh.nm 5 15) rfl rfl (by kernel_rfl) (by decide) (fun K hK => ?_)
      refine goes_ Try.func8 (by kernel_rfl) rfl #[.agg #[.slice Ao28 t212.length co28, .slice Ao32 t215.length co32], .agg #[.slice Ao184 t228.length co184, .slice Ao185 t231.length co185]] (by rfl) rfl rfl (by (try simp only [List.map_toArray, List.map_cons, List.map_nil]); first | done | rfl | (simp only [List.length_drop, List.length_take]; rfl)) ?_
      with_reducible refine (laws_eqLasso.calls kj10 _ _ t212 _ _ t215 _ _ t228 _ _ t231 false _ (Sh.cR (Kd.Q_reads' HO_219000.out).2.2) (Kd.Q_reads' HO_219000.out).2.1 (Sh.cR (Kd.Q_reads' HO_219001.out).2.2) (Kd.Q_reads' HO_219001.out).2.1 (Sh.cR (Kd.Q_reads' HO230.out).2.2) (Kd.Q_reads' HO230.out).2.1 (Sh.cR (Kd.Q_reads' HO233.out).2.2) (Kd.Q_reads' HO233.out).2.1 A61.out).mono ?_
      rintro e w186 ⟨rfl, hb⟩
      refine ⟨_, rfl, ?_⟩
      replace HO_212000 := am_ (Kd.Q_below (ll_rl HO_212000.out) hb)
      replace HO_212001 := am_ (Kd.Q_below (ll_rl HO_212001.out) hb)
      replace HO_219000 := am_ (Kd.Q_below (ll_rl HO_219000.out) hb)
      replace HO_219001 := am_ (Kd.Q_below (ll_rl HO_219001.out) hb)
      replace HO_227000 := am_ (Kd.Q_below (ll_rl HO_227000.out) hb)
      replace HO_227001 := am_ (Kd.Q_below (ll_rl HO_227001.out) hb)
      replace HO230 := am_ (Kd.Q_below (ll_rl HO230.out) hb)
      replace HO233 := am_ (Kd.Q_below (ll_rl HO233.out) hb)
      replace BK196 := Sh.ab BK196 hb
      replace BK211 := Sh.ab BK211 hb
      replace BK218 := Sh.ab BK218 hb
      replace BK226 := Sh.ab BK226 hb
      replace HB := Sh.hb hb
      (try clear hb)
      (try clear hb2)
      (try clear hk)
      (try clear hi)
      refine Sh.kN hK Sh.cs fun hHeld => ?_
      clear hK K
      refine Sh.pA 4 45 (Sh.nm 5 31) (by kernel_rfl) ?_
      refine done_ (by kernel_rfl) ?_
      try go_wp2
      go_ret
      exact ⟨Sh.eR, Sh.bw⟩
end Go.Proofs.Ytdbdibkiehldpaa.P
