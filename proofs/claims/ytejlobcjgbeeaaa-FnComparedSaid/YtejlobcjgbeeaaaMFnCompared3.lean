/- Go functions of this seat as Lean functions, and the proofs that the calls come to what these say; printed by a program of this session. No condition. -/
import Derived.Test.YtejlobcjgbeeaaaP0
import Derived.Test.YtejlobcjgbeeaaaMFnCompared1
import Derived.Test.YtejlobcjgbeeaaaMFnCompared2
set_option linter.unusedVariables false
set_option linter.unusedSimpArgs false
set_option maxHeartbeats 40000000
set_option maxRecDepth 100000
namespace Go.Proofs.Ytejlobcjgbeeaaa.P
open Go.RowKit Go.Proofs.YtejlobcjgbeeaaaW.PrintWords Go.Proofs.YtejlobcjgbeeaaaW.PrintLast Go.Proofs.YtejlobcjgbeeaaaW.PrintMore Go.Proofs.Ytejlobcjgbeeaaa.Hof
attribute [local go_sem] max2_int min2_int max_two min_two max_three min_three max_four min_four
attribute [local go_sem high] eqA66
mutual
def laws_sameCircuit.j0 : Nat → Bool → Int → List (S66) → List Int → Int → List (S66) → List Int → Option (Bool)
 | 0, _, _, _, _, _, _, _ => none
 | k + 1, x27, x301000, x301001, x301002, x302000, x302001, x302002 => if x27 = true then (some false) else (laws_sameCircuit.l0 k (x301001.length : Int) 0 x301000 x301001 x301002 x302000 x302001 x302002)
def laws_sameCircuit.l0 : Nat → Int → Int → Int → List (S66) → List Int → Int → List (S66) → List Int → Option (Bool)
 | 0, _, _, _, _, _, _, _, _ => none
 | k + 1, x30, x31, x301000, x301001, x301002, x302000, x302001, x302002 => if x31 < x30 then (if 0 ≤ x31 then (if x31 < (x301001.length : Int) then (if x31 < (x302001.length : Int) then (if (!(((rd_T66 x301001 x31).f0) == ((rd_T66 x302001 x31).f0)) || (!(((rd_T66 x301001 x31).f1) == ((rd_T66 x302001 x31).f1)) || (!(((rd_T66 x301001 x31).f2) == ((rd_T66 x302001 x31).f2))))) = true then (some false) else (laws_sameCircuit.l0 k x30 (wrap64 (x31 + 1)) x301000 x301001 x301002 x302000 x302001 x302002)) else (none)) else (none)) else (none)) else (some true)
end
def laws_sameCircuit.f (k : Nat) (a0_0 : Int) (l0_1 : List (S66)) (l0_2 : List Int) (a1_0 : Int) (l1_1 : List (S66)) (l1_2 : List Int) : Option (Bool) := if a0_0 = a1_0 then (if (l0_1.length : Int) = (l1_1.length : Int) then ((laws_sameInts.f k l0_2 l1_2).bind fun t302 => (laws_sameCircuit.j0 k (!t302) a0_0 l0_1 l0_2 a1_0 l1_1 l1_2)) else (laws_sameCircuit.j0 k true a0_0 l0_1 l0_2 a1_0 l1_1 l1_2)) else (laws_sameCircuit.j0 k true a0_0 l0_1 l0_2 a1_0 l1_1 l1_2)
theorem laws_sameCircuit.mono_l : ∀ k, (∀ y0 y1 y2 y3 y4 y5 y6, LeO (laws_sameCircuit.j0 k y0 y1 y2 y3 y4 y5 y6) (laws_sameCircuit.j0 (k + 1) y0 y1 y2 y3 y4 y5 y6)) ∧ (∀ y0 y1 y2 y3 y4 y5 y6 y7, LeO (laws_sameCircuit.l0 k y0 y1 y2 y3 y4 y5 y6 y7) (laws_sameCircuit.l0 (k + 1) y0 y1 y2 y3 y4 y5 y6 y7))
 | 0 => ⟨fun _ _ _ _ _ _ _ r h => by simp [laws_sameCircuit.j0] at h, fun _ _ _ _ _ _ _ _ r h => by simp [laws_sameCircuit.l0] at h⟩
 | k + 1 => by
  obtain ⟨ih0, ih1⟩ := laws_sameCircuit.mono_l k
  and_intros <;> intros
  all_goals (first | unfold laws_sameCircuit.j0 | unfold laws_sameCircuit.l0)
  all_goals repeat' with_reducible first | apply ih0 | apply ih1 | apply laws_sameInts.mono | exact LeO.refl _ | exact LeO.none _ | apply LeO.ite | refine LeO.bind ?_ fun _ => ?_
theorem laws_sameCircuit.mono : ∀ a0 a1 a2 a3 a4 a5 k, LeO (laws_sameCircuit.f k a0 a1 a2 a3 a4 a5) (laws_sameCircuit.f (k + 1) a0 a1 a2 a3 a4 a5) := by
 intro a0 a1 a2 a3 a4 a5 k
 obtain ⟨ih0, ih1⟩ := laws_sameCircuit.mono_l k
 unfold laws_sameCircuit.f
 repeat' with_reducible first | apply ih0 | apply ih1 | apply laws_sameInts.mono | exact LeO.refl _ | exact LeO.none _ | apply LeO.ite | refine LeO.bind ?_ fun _ => ?_
theorem laws_sameCircuit.calls (k : Nat) (a0_0 : Int) (A0_1 : Option Addr) (c0_1 : Nat) (l0_1 : List (S66)) (A0_2 : Option Addr) (c0_2 : Nat) (l0_2 : List Int) (a1_0 : Int) (A1_1 : Option Addr) (c1_1 : Nat) (l1_1 : List (S66)) (A1_2 : Option Addr) (c1_2 : Nat) (l1_2 : List Int) (r : Bool) (w : World) (hr0_1 : Kd.C k66 w A0_1 l0_1.length l0_1) (hc0_1 : l0_1.length ≤ c0_1) (hr0_2 : Kd.C (Kd.int .i64) w A0_2 l0_2.length l0_2) (hc0_2 : l0_2.length ≤ c0_2) (hr1_1 : Kd.C k66 w A1_1 l1_1.length l1_1) (hc1_1 : l1_1.length ≤ c1_1) (hr1_2 : Kd.C (Kd.int .i64) w A1_2 l1_2.length l1_2) (hc1_2 : l1_2.length ≤ c1_2) (h : laws_sameCircuit.f k a0_0 l0_1 l0_2 a1_0 l1_1 l1_2 = some r) :
  Calls Try.prog 9 #[.agg #[.int .i64 a0_0, .slice A0_1 l0_1.length c0_1, .slice A0_2 l0_2.length c0_2], .agg #[.int .i64 a1_0, .slice A1_1 l1_1.length c1_1, .slice A1_2 l1_2.length c1_2]] w fun e w' => e = .returned (.bool r) ∧ Below w.heap.size w w' := by
 have hu27 := Try.underlying27
 have hu66 := Try.underlying66
 have HR0_1 := am_ hr0_1
 have HC0_1 := am_ hc0_1
 clear hr0_1 hc0_1
 have HR0_2 := am_ hr0_2
 have HC0_2 := am_ hc0_2
 clear hr0_2 hc0_2
 have HR1_1 := am_ hr1_1
 have HC1_1 := am_ hc1_1
 clear hr1_1 hc1_1
 have HR1_2 := am_ hr1_2
 have HC1_2 := am_ hc1_2
 clear hr1_2 hc1_2
 have HB := am_ (Below.refl w.heap.size w)
 have H := h
 clear h
 unfold laws_sameCircuit.f at H
 have HC3 := am_ H
 clear H
 go_enter Try.func9, Try.ntmps9
 go_upto_region 1 with (first | ((with_reducible refine Sh.d 2 ?_); (try (refine gate_guard (by rfl) ?_; dsimp only)); refine Sh.bz w (N := 2) (cs := #[.int .i64 a0_0, .slice A0_1 l0_1.length c0_1, .slice A0_2 l0_2.length c0_2]) (t := 27) (h := ?_); clear HB; intro gb300 w4 BK300 GE300 HB) | ((with_reducible refine Sh.d 3 ?_); (try (refine gate_guard (by rfl) ?_; dsimp only)); refine Sh.bx (N := 3) (cs := #[.int .i64 a1_0, .slice A1_1 l1_1.length c1_1, .slice A1_2 l1_2.length c1_2]) (t := 27) (h := ?_); intro gb301 hg w5 hbox hb; have BK301 := am_ hbox; have GE301 := Sh.ag w hg; replace HB := Sh.hb hb; have NB300_301 := am_ (Sh.nl hg BK300.out); have NB301_300 := am_ (Sh.ng hg BK300.out); replace BK300 := Sh.ab BK300 hb; clear hb hbox hg))
 repeat (go_quiet (first | ((with_reducible refine Sh.d 2 ?_); (try (refine gate_guard (by rfl) ?_; dsimp only)); refine Sh.bz w (N := 2) (cs := #[.int .i64 a0_0, .slice A0_1 l0_1.length c0_1, .slice A0_2 l0_2.length c0_2]) (t := 27) (h := ?_); clear HB; intro gb300 w4 BK300 GE300 HB) | ((with_reducible refine Sh.d 3 ?_); (try (refine gate_guard (by rfl) ?_; dsimp only)); refine Sh.bx (N := 3) (cs := #[.int .i64 a1_0, .slice A1_1 l1_1.length c1_1, .slice A1_2 l1_2.length c1_2]) (t := 27) (h := ?_); intro gb301 hg w5 hbox hb; have BK301 := am_ hbox; have GE301 := Sh.ag w hg; replace HB := Sh.hb hb; have NB300_301 := am_ (Sh.nl hg BK300.out); have NB301_300 := am_ (Sh.ng hg BK300.out); replace BK300 := Sh.ab BK300 hb; clear hb hbox hg)); go_upto_region 1 with (first | ((with_reducible refine Sh.d 2 ?_); (try (refine gate_guard (by rfl) ?_; dsimp only)); refine Sh.bz w (N := 2) (cs := #[.int .i64 a0_0, .slice A0_1 l0_1.length c0_1, .slice A0_2 l0_2.length c0_2]) (t := 27) (h := ?_); clear HB; intro gb300 w4 BK300 GE300 HB) | ((with_reducible refine Sh.d 3 ?_); (try (refine gate_guard (by rfl) ?_; dsimp only)); refine Sh.bx (N := 3) (cs := #[.int .i64 a1_0, .slice A1_1 l1_1.length c1_1, .slice A1_2 l1_2.length c1_2]) (t := 27) (h := ?_); intro gb301 hg w5 hbox hb; have BK301 := am_ hbox; have GE301 := Sh.ag w hg; replace HB := Sh.hb hb; have NB300_301 := am_ (Sh.nl hg BK300.out); have NB301_300 := am_ (Sh.ng hg BK300.out); replace BK300 := Sh.ab BK300 hb; clear hb hbox hg)))
 (try simp only [Act.put, List.setIfInBounds_toArray, List.set_cons_zero, List.set_cons_succ])
 go_cut [27] (fun v27 wc => ∃ (kq : Nat) (x27_2 : Bool), v27 = .bool x27_2 ∧ Aside0 (laws_sameCircuit.j0 kq x27_2 a0_0 l0_1 l0_2 a1_0 l1_1 l1_2 = some r) ∧ Aside0 (kq ≤ k) ∧ Aside0 (wc.heap[gb300]? = some (.cells #[.int .i64 a0_0, (.slice A0_1 l0_1.length c0_1), (.slice A0_2 l0_2.length c0_2)] 27 (0, 0))) ∧ Aside0 (wc.heap[gb301]? = some (.cells #[.int .i64 a1_0, (.slice A1_1 l1_1.length c1_1), (.slice A1_2 l1_2.length c1_2)] 27 (0, 0))) ∧ Aside0 (Below w.heap.size w wc))
 case first =>
  have H := HC3.out
  clear HC3
  by_cases c6 : a0_0 = a1_0
  ·rw [if_pos c6] at H
   have c6b0 : (a0_0 == a1_0) = true := beq_iff_eq.mpr c6
   have c6b1 : (a0_0 != a1_0) = false := bne_eq_false_iff_eq.mpr c6
   clear c6
   first | rw [c6b0] | (simp only [i64_w, i32_w]; rw [c6b0]) | skip
   by_cases c7 : (l0_1.length : Int) = (l1_1.length : Int)
   ·rw [if_pos c7] at H
    have c7b0 : ((l0_1.length : Int) == (l1_1.length : Int)) = true := beq_iff_eq.mpr c7
    have c7b1 : ((l0_1.length : Int) != (l1_1.length : Int)) = false := bne_eq_false_iff_eq.mpr c7
    have c7b2 : (l0_1.length == l1_1.length) = true := by first | simpa using c7 | (simp at c7 ⊢; omega)
    clear c7
    obtain ⟨t302, A8, H⟩ := Sh.ba H
    have H' := am_ H
    clear H
    have hnb9 := NB300_301.out
    have hnc9 := NB301_300.out
    have hcz10_0 := Sh.bc BK300.out 0
    have hcz10_1 := Sh.bc BK300.out 1
    have hcz10_2 := Sh.bc BK300.out 2
    have hfz10_0 := blk_frozen BK300.out 0
    have hfz10_1 := blk_frozen BK300.out 1
    have hfz10_2 := blk_frozen BK300.out 2
    have hcz11_0 := Sh.bc BK301.out 0
    have hcz11_1 := Sh.bc BK301.out 1
    have hcz11_2 := Sh.bc BK301.out 2
    have hfz11_0 := blk_frozen BK301.out 0
    have hfz11_1 := blk_frozen BK301.out 1
    have hfz11_2 := blk_frozen BK301.out 2
    go_wp2_with (first | (go_at_call 10; (with_reducible refine (laws_sameInts.calls k _ _ l0_2 _ _ l1_2 t302 _ (Sh.cB HR0_2.out) HC0_2.out (Sh.cB HR1_2.out) HC1_2.out A8.out).mono ?_); rintro e w' ⟨rfl, ⟨nd, rfl⟩⟩; (try first | exact ⟨rfl, _, World.drewN_drewN _ _ _⟩ | exact ⟨rfl, _, Eq.trans (World.drewN_drewN _ _ _) (congrArg (World.drewN _) (Nat.add_assoc _ _ _))⟩)))
    repeat (go_quiet (first | (go_at_call 10; (with_reducible refine (laws_sameInts.calls k _ _ l0_2 _ _ l1_2 t302 _ (Sh.cB HR0_2.out) HC0_2.out (Sh.cB HR1_2.out) HC1_2.out A8.out).mono ?_); rintro e w' ⟨rfl, ⟨nd, rfl⟩⟩; (try first | exact ⟨rfl, _, World.drewN_drewN _ _ _⟩ | exact ⟨rfl, _, Eq.trans (World.drewN_drewN _ _ _) (congrArg (World.drewN _) (Nat.add_assoc _ _ _))⟩))); try go_wp2_with (first | (go_at_call 10; (with_reducible refine (laws_sameInts.calls k _ _ l0_2 _ _ l1_2 t302 _ (Sh.cB HR0_2.out) HC0_2.out (Sh.cB HR1_2.out) HC1_2.out A8.out).mono ?_); rintro e w' ⟨rfl, ⟨nd, rfl⟩⟩; (try first | exact ⟨rfl, _, World.drewN_drewN _ _ _⟩ | exact ⟨rfl, _, Eq.trans (World.drewN_drewN _ _ _) (congrArg (World.drewN _) (Nat.add_assoc _ _ _))⟩))))
    go_meet
    case rel => exact ⟨_, (!t302), (Sh.es), H', ⟨Sh.om⟩, ⟨by refine Sh.pl ?_; exact BK300.out⟩, ⟨by refine Sh.pl ?_; exact BK301.out⟩, ⟨Sh.bw⟩⟩
   ·rw [if_neg c7] at H
    have c7b0 : ((l0_1.length : Int) == (l1_1.length : Int)) = false := beq_eq_false_iff_ne.mpr c7
    have c7b1 : ((l0_1.length : Int) != (l1_1.length : Int)) = true := bne_iff_ne.mpr c7
    have c7b2 : (l0_1.length == l1_1.length) = false := by first | simpa using c7 | (simp at c7 ⊢; omega)
    have H' := am_ H
    clear H
    have hnb12 := NB300_301.out
    have hnc12 := NB301_300.out
    have hcz13_0 := Sh.bc BK300.out 0
    have hcz13_1 := Sh.bc BK300.out 1
    have hcz13_2 := Sh.bc BK300.out 2
    have hfz13_0 := blk_frozen BK300.out 0
    have hfz13_1 := blk_frozen BK300.out 1
    have hfz13_2 := blk_frozen BK300.out 2
    have hcz14_0 := Sh.bc BK301.out 0
    have hcz14_1 := Sh.bc BK301.out 1
    have hcz14_2 := Sh.bc BK301.out 2
    have hfz14_0 := blk_frozen BK301.out 0
    have hfz14_1 := blk_frozen BK301.out 1
    have hfz14_2 := blk_frozen BK301.out 2
    go_wp2
    repeat (go_quiet (fail); try go_wp2)
    go_meet
    case rel => exact ⟨_, (true), (Sh.es), H', ⟨Sh.om⟩, ⟨by refine Sh.pl ?_; exact BK300.out⟩, ⟨by refine Sh.pl ?_; exact BK301.out⟩, ⟨Sh.bw⟩⟩
  ·rw [if_neg c6] at H
   have c6b0 : (a0_0 == a1_0) = false := beq_eq_false_iff_ne.mpr c6
   have c6b1 : (a0_0 != a1_0) = true := bne_iff_ne.mpr c6
   first | rw [c6b0] | (simp only [i64_w, i32_w]; rw [c6b0]) | skip
   have H' := am_ H
   clear H
   have hnb15 := NB300_301.out
   have hnc15 := NB301_300.out
   have hcz16_0 := Sh.bc BK300.out 0
   have hcz16_1 := Sh.bc BK300.out 1
   have hcz16_2 := Sh.bc BK300.out 2
   have hfz16_0 := blk_frozen BK300.out 0
   have hfz16_1 := blk_frozen BK300.out 1
   have hfz16_2 := blk_frozen BK300.out 2
   have hcz17_0 := Sh.bc BK301.out 0
   have hcz17_1 := Sh.bc BK301.out 1
   have hcz17_2 := Sh.bc BK301.out 2
   have hfz17_0 := blk_frozen BK301.out 0
   have hfz17_1 := blk_frozen BK301.out 1
   have hfz17_2 := blk_frozen BK301.out 2
   go_wp2
   repeat (go_quiet (fail); try go_wp2)
   go_meet
   case rel => exact ⟨_, (true), (Sh.es), H', ⟨Sh.om⟩, ⟨by refine Sh.pl ?_; exact BK300.out⟩, ⟨by refine Sh.pl ?_; exact BK301.out⟩, ⟨Sh.bw⟩⟩
 case rest =>
  clear HC3
  try clear hcz10_0
  try clear hcz10_1
  try clear hcz10_2
  try clear hcz11_0
  try clear hcz11_1
  try clear hcz11_2
  try clear hcz13_0
  try clear hcz13_1
  try clear hcz13_2
  try clear hcz14_0
  try clear hcz14_1
  try clear hcz14_2
  try clear hcz16_0
  try clear hcz16_1
  try clear hcz16_2
  try clear hcz17_0
  try clear hcz17_1
  try clear hcz17_2
  try clear hfz10_0
  try clear hfz10_1
  try clear hfz10_2
  try clear hfz11_0
  try clear hfz11_1
  try clear hfz11_2
  try clear hfz13_0
  try clear hfz13_1
  try clear hfz13_2
  try clear hfz14_0
  try clear hfz14_1
  try clear hfz14_2
  try clear hfz16_0
  try clear hfz16_1
  try clear hfz16_2
  try clear hfz17_0
  try clear hfz17_1
  try clear hfz17_2
  obtain ⟨kq, x27_2, rfl, HA, HJ2, BK300, BK301, HB⟩ := hcut
  cases kq with
  | zero => exact absurd HA.out (by simp [laws_sameCircuit.j0])
  | succ kj2 =>
   have H := HA.out
   clear HA
   simp only [laws_sameCircuit.j0] at H
   by_cases c18 : x27_2 = true
   ·subst c18
    rw [if_pos rfl] at H
    obtain rfl := Option.some.inj H
    go_wp2
    repeat (go_quiet (fail); try go_wp2)
    go_ret
    exact ⟨Sh.eR, Sh.bw⟩
   ·replace c18 := Bool.eq_false_iff.mpr c18
    subst c18
    rw [Sh.nf] at H
    have H' := am_ H
    clear H
    have hnb19 := NB300_301.out
    have hnc19 := NB301_300.out
    have hcz20_0 := Sh.bc BK300.out 0
    have hcz20_1 := Sh.bc BK300.out 1
    have hcz20_2 := Sh.bc BK300.out 2
    have hfz20_0 := blk_frozen BK300.out 0
    have hfz20_1 := blk_frozen BK300.out 1
    have hfz20_2 := blk_frozen BK300.out 2
    go_wp2
    repeat (go_quiet (fail); try go_wp2)
    go_loopg [31] kj2 (fun kq v31 w' => ∃ (x31_2 : Int), v31 = .int .i64 x31_2 ∧ Aside0 (laws_sameCircuit.l0 kq (l0_1.length : Int) x31_2 a0_0 l0_1 l0_2 a1_0 l1_1 l1_2 = some r) ∧ Aside0 (kq ≤ kj2) ∧ Aside0 (w'.heap[gb300]? = some (.cells #[.int .i64 a0_0, (.slice A0_1 l0_1.length c0_1), (.slice A0_2 l0_2.length c0_2)] 27 (0, 0))) ∧ Aside0 (w'.heap[gb301]? = some (.cells #[.int .i64 a1_0, (.slice A1_1 l1_1.length c1_1), (.slice A1_2 l1_2.length c1_2)] 27 (0, 0))) ∧ Aside0 (Below w.heap.size w w'))
    case atStart => exact ⟨(0), (Sh.es), H', ⟨Nat.le_refl _⟩, ⟨by refine Sh.pl ?_; exact BK300.out⟩, ⟨by refine Sh.pl ?_; exact BK301.out⟩, ⟨Sh.bw⟩⟩
    case round =>
     clear H'
     try clear hcz10_0
     try clear hcz10_1
     try clear hcz10_2
     try clear hcz11_0
     try clear hcz11_1
     try clear hcz11_2
     try clear hcz13_0
     try clear hcz13_1
     try clear hcz13_2
     try clear hcz14_0
     try clear hcz14_1
     try clear hcz14_2
     try clear hcz16_0
     try clear hcz16_1
     try clear hcz16_2
     try clear hcz17_0
     try clear hcz17_1
     try clear hcz17_2
     try clear hcz20_0
     try clear hcz20_1
     try clear hcz20_2
     try clear hfz10_0
     try clear hfz10_1
     try clear hfz10_2
     try clear hfz11_0
     try clear hfz11_1
     try clear hfz11_2
     try clear hfz13_0
     try clear hfz13_1
     try clear hfz13_2
     try clear hfz14_0
     try clear hfz14_1
     try clear hfz14_2
     try clear hfz16_0
     try clear hfz16_1
     try clear hfz16_2
     try clear hfz17_0
     try clear hfz17_1
     try clear hfz17_2
     try clear hfz20_0
     try clear hfz20_1
     try clear hfz20_2
     obtain ⟨x31_2, rfl, HA, HK2, BK300, BK301, HB⟩ := hrel
     cases gk with
     | zero => exact absurd HA.out (by simp [laws_sameCircuit.l0])
     | succ k2 =>
      have H := HA.out
      clear HA
      simp only [laws_sameCircuit.l0] at H
      by_cases c21 : x31_2 < (l0_1.length : Int)
      ·rw [if_pos c21] at H
       have c21b0 := decide_eq_true c21
       clear c21
       by_cases c22 : 0 ≤ x31_2
       ·rw [if_pos c22] at H
        have c22b0 := decide_eq_true c22
        clear c22
        by_cases c23 : x31_2 < (l0_1.length : Int)
        ·rw [if_pos c23] at H
         have c23b0 := decide_eq_true c23
         clear c23
         by_cases c24 : x31_2 < (l1_1.length : Int)
         ·rw [if_pos c24] at H
          have c24b0 := decide_eq_true c24
          clear c24
          by_cases c25 : (!(((rd_T66 l0_1 x31_2).f0) == ((rd_T66 l1_1 x31_2).f0)) || (!(((rd_T66 l0_1 x31_2).f1) == ((rd_T66 l1_1 x31_2).f1)) || (!(((rd_T66 l0_1 x31_2).f2) == ((rd_T66 l1_1 x31_2).f2))))) = true
          ·rw [if_pos c25] at H
           have c25b0 : (!(((rd_T66 l0_1 x31_2).f0) == ((rd_T66 l1_1 x31_2).f0)) || (!(((rd_T66 l0_1 x31_2).f1) == ((rd_T66 l1_1 x31_2).f1)) || (!(((rd_T66 l0_1 x31_2).f2) == ((rd_T66 l1_1 x31_2).f2))))) = true := c25
           clear c25
           obtain rfl := Option.some.inj H
           have hnb26 := NB300_301.out
           have hnc26 := NB301_300.out
           have hcz27_0 := Sh.bc BK300.out 0
           have hcz27_1 := Sh.bc BK300.out 1
           have hcz27_2 := Sh.bc BK300.out 2
           have hfz27_0 := blk_frozen BK300.out 0
           have hfz27_1 := blk_frozen BK300.out 1
           have hfz27_2 := blk_frozen BK300.out 2
           have p303 : 0 ≤ (x31_2 : Int) := Sh.od
           have q303 : x31_2 < (l0_1.length : Int) := Sh.od
           obtain ⟨ad303, e303, hx303_0, hx303_1, hx303_2⟩ := at_T66 HR0_1.out x31_2 p303 q303
           cases e303
           try replace hx303_0 := Sh.cw hx303_0
           try replace hx303_1 := Sh.cw hx303_1
           try replace hx303_2 := Sh.cw hx303_2
           replace p303 := eq_true p303
           replace q303 := eq_true q303
           have hcz28_0 := Sh.bc BK301.out 0
           have hcz28_1 := Sh.bc BK301.out 1
           have hcz28_2 := Sh.bc BK301.out 2
           have hfz28_0 := blk_frozen BK301.out 0
           have hfz28_1 := blk_frozen BK301.out 1
           have hfz28_2 := blk_frozen BK301.out 2
           have p304 : 0 ≤ (x31_2 : Int) := Sh.od
           have q304 : x31_2 < (l1_1.length : Int) := Sh.od
           obtain ⟨ad304, e304, hx304_0, hx304_1, hx304_2⟩ := at_T66 HR1_1.out x31_2 p304 q304
           cases e304
           try replace hx304_0 := Sh.cw hx304_0
           try replace hx304_1 := Sh.cw hx304_1
           try replace hx304_2 := Sh.cw hx304_2
           replace p304 := eq_true p304
           replace q304 := eq_true q304
           go_wp2
           repeat (go_quiet (fail); try go_wp2)
           go_ret
           exact ⟨Sh.eR, Sh.bw⟩
          ·rw [if_neg c25] at H
           have c25b0 : (!(((rd_T66 l0_1 x31_2).f0) == ((rd_T66 l1_1 x31_2).f0)) || (!(((rd_T66 l0_1 x31_2).f1) == ((rd_T66 l1_1 x31_2).f1)) || (!(((rd_T66 l0_1 x31_2).f2) == ((rd_T66 l1_1 x31_2).f2))))) = false := by simpa using c25
           clear c25
           have H' := am_ H
           clear H
           have hnb29 := NB300_301.out
           have hnc29 := NB301_300.out
           have hcz30_0 := Sh.bc BK300.out 0
           have hcz30_1 := Sh.bc BK300.out 1
           have hcz30_2 := Sh.bc BK300.out 2
           have hfz30_0 := blk_frozen BK300.out 0
           have hfz30_1 := blk_frozen BK300.out 1
           have hfz30_2 := blk_frozen BK300.out 2
           have p303 : 0 ≤ (x31_2 : Int) := Sh.od
           have q303 : x31_2 < (l0_1.length : Int) := Sh.od
           obtain ⟨ad303, e303, hx303_0, hx303_1, hx303_2⟩ := at_T66 HR0_1.out x31_2 p303 q303
           cases e303
           try replace hx303_0 := Sh.cw hx303_0
           try replace hx303_1 := Sh.cw hx303_1
           try replace hx303_2 := Sh.cw hx303_2
           replace p303 := eq_true p303
           replace q303 := eq_true q303
           have hcz31_0 := Sh.bc BK301.out 0
           have hcz31_1 := Sh.bc BK301.out 1
           have hcz31_2 := Sh.bc BK301.out 2
           have hfz31_0 := blk_frozen BK301.out 0
           have hfz31_1 := blk_frozen BK301.out 1
           have hfz31_2 := blk_frozen BK301.out 2
           have p304 : 0 ≤ (x31_2 : Int) := Sh.od
           have q304 : x31_2 < (l1_1.length : Int) := Sh.od
           obtain ⟨ad304, e304, hx304_0, hx304_1, hx304_2⟩ := at_T66 HR1_1.out x31_2 p304 q304
           cases e304
           try replace hx304_0 := Sh.cw hx304_0
           try replace hx304_1 := Sh.cw hx304_1
           try replace hx304_2 := Sh.cw hx304_2
           replace p304 := eq_true p304
           replace q304 := eq_true q304
           go_wp2
           repeat (go_quiet (fail); try go_wp2)
           go_roundg k2
           case measure => have := HJ2.out; have := HK2.out; omega
           case rel => exact ⟨(wrap64 (x31_2 + 1)), (Sh.es), H', ⟨by have := HJ2.out; have := HK2.out; omega⟩, ⟨by refine Sh.pl ?_; exact BK300.out⟩, ⟨by refine Sh.pl ?_; exact BK301.out⟩, ⟨Sh.bw⟩⟩
         ·rw [if_neg c24] at H
          exact absurd H (by simp)
        ·rw [if_neg c23] at H
         exact absurd H (by simp)
       ·rw [if_neg c22] at H
        exact absurd H (by simp)
      ·rw [if_neg c21] at H
       have c21b0 := decide_eq_false c21
       clear c21
       obtain rfl := Option.some.inj H
       go_wp2
       repeat (go_quiet (fail); try go_wp2)
       go_ret
       exact ⟨Sh.eR, Sh.bw⟩
def laws_numberOf.l0 : Nat → Int → List Int → Int → Int → Option (Int)
 | 0, _, _, _, _ => none
 | k + 1, x3, x6, x7, x8 => if x8 < x7 then (if 0 ≤ x8 then (if x8 < (x6.length : Int) then (laws_numberOf.l0 k (Int.tmod (wrap64 ((wrap64 (31 * x3)) + (wrap64 (rd x6 x8)))) 1000003) x6 x7 (wrap64 (x8 + 1))) else (none)) else (none)) else (some x3)
def laws_numberOf.f (k : Nat) (l0 : List Int) : Option (Int) := laws_numberOf.l0 k 0 l0 (l0.length : Int) 0
theorem laws_numberOf.mono_l : ∀ k, (∀ y0 y1 y2 y3, LeO (laws_numberOf.l0 k y0 y1 y2 y3) (laws_numberOf.l0 (k + 1) y0 y1 y2 y3))
 | 0 => fun _ _ _ _ r h => by simp [laws_numberOf.l0] at h
 | k + 1 => by
  have ih0 := laws_numberOf.mono_l k
  ·intro y0 y1 y2 y3
   unfold laws_numberOf.l0
   repeat' with_reducible first | apply ih0 | exact LeO.refl _ | exact LeO.none _ | apply LeO.ite | refine LeO.bind ?_ fun _ => ?_
theorem laws_numberOf.mono : ∀ a0 k, LeO (laws_numberOf.f k a0) (laws_numberOf.f (k + 1) a0) := by
 intro a0 k
 have ih0 := laws_numberOf.mono_l k
 unfold laws_numberOf.f
 repeat' with_reducible first | apply ih0 | exact LeO.refl _ | exact LeO.none _ | apply LeO.ite | refine LeO.bind ?_ fun _ => ?_
theorem laws_numberOf.calls (k : Nat) (A0 : Option Addr) (c0 : Nat) (l0 : List Int) (r : Int) (w : World) (hr0 : Kd.C (Kd.int .u8) w A0 l0.length l0) (hc0 : l0.length ≤ c0) (h : laws_numberOf.f k l0 = some r) :
  Calls Try.prog 13 #[.slice A0 l0.length c0] w fun e w' => e = .returned (.int .i64 r) ∧ Drawn0 w w' := by
 have HR0 := am_ hr0
 have HC0 := am_ hc0
 clear hr0 hc0
 have H := h
 clear h
 unfold laws_numberOf.f at H
 have H' := am_ H
 clear H
 go_enter Try.func13, Try.ntmps13
 go_wp2
 go_loopg [3, 8] k (fun kq v3 v8 w' => ∃ (x3_1 : Int) (x8_1 : Int), v3 = .int .i64 x3_1 ∧ v8 = .int .i64 x8_1 ∧ Aside0 (laws_numberOf.l0 kq x3_1 l0 (l0.length : Int) x8_1 = some r) ∧ Aside0 (kq ≤ k) ∧ Drawn0 w w')
 case atStart => exact ⟨(0), (0), (Sh.es), (Sh.es), H', ⟨Nat.le_refl _⟩, Sh.dr⟩
 case round =>
  clear H'
  obtain ⟨x3_1, x8_1, rfl, rfl, HA, HK1, ⟨m1, rfl⟩⟩ := hrel
  cases gk with
  | zero => exact absurd HA.out (by simp [laws_numberOf.l0])
  | succ k1 =>
   have H := HA.out
   clear HA
   simp only [laws_numberOf.l0] at H
   by_cases c2 : x8_1 < (l0.length : Int)
   ·rw [if_pos c2] at H
    have c2b0 := decide_eq_true c2
    clear c2
    by_cases c3 : 0 ≤ x8_1
    ·rw [if_pos c3] at H
     have c3b0 := decide_eq_true c3
     clear c3
     by_cases c4 : x8_1 < (l0.length : Int)
     ·rw [if_pos c4] at H
      have c4b0 := decide_eq_true c4
      clear c4
      have H' := am_ H
      clear H
      have p305 : 0 ≤ (x8_1 : Int) := Sh.od
      have q305 : x8_1 < (l0.length : Int) := Sh.od
      obtain ⟨ad305, e305, hx305_0⟩ := Kd.at_int HR0.out x8_1 p305 q305
      cases e305
      replace p305 := eq_true p305
      replace q305 := eq_true q305
      go_wp2
      go_roundg k1
      case measure => have := HK1.out; omega
      case rel => exact ⟨(Int.tmod (wrap64 ((wrap64 (31 * x3_1)) + (wrap64 (rd l0 x8_1)))) 1000003), (wrap64 (x8_1 + 1)), (Sh.es), (Sh.es), H', ⟨by have := HK1.out; omega⟩, Sh.dr⟩
     ·rw [if_neg c4] at H
      exact absurd H (by simp)
    ·rw [if_neg c3] at H
     exact absurd H (by simp)
   ·rw [if_neg c2] at H
    have c2b0 := decide_eq_false c2
    clear c2
    obtain rfl := Option.some.inj H
    go_wp2
    go_ret
    exact ⟨Sh.es, Sh.dr⟩
def slices_Clone_bool_bool.f (l0 : List (Bool)) : Option (List (Bool)) := if l0.length < 140737488355328 then some l0 else none
theorem slices_Clone_bool_bool.calls (A0 : Option Addr) (c0 : Nat) (l0 : List (Bool)) (r : List (Bool)) (w : World) (hr0 : Kd.C Kd.bool w A0 l0.length l0) (hc0 : l0.length ≤ c0) (h : slices_Clone_bool_bool.f l0 = some r) :
  Calls Try.prog 59 #[.slice A0 l0.length c0] w fun e w' => ∃ v0_ : Value, e = .returned (v0_) ∧ Kd.R Kd.bool 4 w' w.heap.size (fun _ => True) v0_ r ∧ Below w.heap.size w w' := by
 have hlim : l0.length < 140737488355328 := by
  rcases Nat.lt_or_ge l0.length 140737488355328 with h1 | h1
  ·exact h1
  ·rw [slices_Clone_bool_bool.f, if_neg (by omega)] at h; cases h
 rw [slices_Clone_bool_bool.f, if_pos hlim] at h
 obtain rfl := Option.some.inj h
 clear h
 cases A0 with
 | none =>
  have hl : l0 = [] := by
   rcases l0 with _ | ⟨x, t⟩
   ·rfl
   ·obtain ⟨ad, e, _⟩ := hr0.2.2 (by simp)
    cases e
  subst hl
  have he : ∀ (w : World) (n c : Nat), (binOp .eql 35 (.slice none n c) (.slice none 0 0)).run Try.prog w = .ok (.bool true) w := fun _ _ _ => rfl
  go_enter Try.func59, Try.ntmps59
  go_wp2
  all_goals (go_ret; exact ⟨_, rfl, Kd.R_nil _ _ _ _ _, Below.refl _ _⟩)
 | some a0 =>
  have HR0 := am_ hr0
  have HC0 := am_ hc0
  clear hr0 hc0
  have HB := am_ (Below.refl w.heap.size w)
  have LM := am_ hlim
  clear hlim
  have he : ∀ (w : World) (n c : Nat), (binOp .eql 35 (.slice (some a0) n c) (.slice none 0 0)).run Try.prog w = .ok (.bool false) w := fun _ _ _ => rfl
  go_enter Try.func59, Try.ntmps59
  go_wp2_with (first | ((with_reducible refine Sh.d 5 ?_); refine Kd.R_lit Kd.bool _ 4 ?hg (N := 5) ?hd (xs := ([] : List (Bool))) (inner := []) (ok := fun _ => True) (okp := fun _ => True) ?hr ?hp (fun _ hk => hk) trivial (Below.refl _ _) (Nat.le_refl _) (by simp) ?_; (case hd => rfl); (case hg => rfl); (case hr => first | (go_simp; done) | (go_simp; rfl)); (case hp => exact (Reps.none _ _)); intro v359 w3 ho4 hb hg_ hnew_; clear hg_ hnew_; have HO360 := am_ (Kd.R_lower ho4 (below_size Sh.bw)); replace HB := Sh.hb hb; clear hb ho4) | ((with_reducible refine gate_builtin (b := .append) (xs := #[.tmp 5, .tmp 6]) rfl ?_); at_builtin; refine Kd.R_append_rows Kd.bool (w0 := w) w.heap.size rfl (.tmp 5) (.tmp 6) 35 4 (.bool false) 1 rfl Try.underlying35 info4 rfl (by decide) (by omega) v359 [] l0 _ _ _ (fun _ => True) (fun _ => False) rfl rfl ?aO ?aR (fun _ _ h => h) (fun _ h => h.elim) ?aF ?aB ?aS ?aL ?_; (case aR => repeat (first | exact (Kd.C_below HR0.out HB.out) | (with_reducible first | refine Kd.C_alloc ?_ _ | refine Kd.C_drewN ?_ _ | refine Kd.C_drew ?_))); (case aB => exact Sh.bw); (case aF => exact (fun _ _ => trivial)); (case aO => exact (Sh.rl HO360.out)); (case aS => exact (below_size Sh.bw)); (case aL => have := LM.out; simp only [List.length_nil]; omega); intro v362 w5 ho hb hg hat; rw [List.nil_append] at ho; have n0_ := am_ hb; have n1_ := am_ ho; clear HB; clear HO360; have HB := n0_; have HO363 := n1_; clear n0_ n1_; clear ho hb hg hat))
  go_ret
  exact ⟨_, rfl, HO363.out, HB.out⟩
def impl_Circuit_allWires.l0 : Nat → List Bool → List (S66) → Int → Int → Option (List Bool)
 | 0, _, _, _, _ => none
 | k + 1, x5, x12, x13, x14 => if x14 < x13 then (if 0 ≤ x14 then (if x14 < (x12.length : Int) then (if ((rd_T66 x12 x14).f0) = 2 then (if 0 ≤ ((rd_T66 x12 x14).f1) then (if ((rd_T66 x12 x14).f1) < (x5.length : Int) then (if x5.length < 140737488355328 then (impl_Circuit_allWires.l0 k (x5 ++ [!(rdOf false x5 ((rd_T66 x12 x14).f1))]) x12 x13 (wrap64 (x14 + 1))) else (none)) else (none)) else (none)) else (if ((rd_T66 x12 x14).f0) = 3 then (if 0 ≤ ((rd_T66 x12 x14).f1) then (if ((rd_T66 x12 x14).f1) < (x5.length : Int) then (if rdOf false x5 ((rd_T66 x12 x14).f1) = true then (if 0 ≤ ((rd_T66 x12 x14).f2) then (if ((rd_T66 x12 x14).f2) < (x5.length : Int) then (if x5.length < 140737488355328 then (impl_Circuit_allWires.l0 k (x5 ++ [rdOf false x5 ((rd_T66 x12 x14).f2)]) x12 x13 (wrap64 (x14 + 1))) else (none)) else (none)) else (none)) else (if x5.length < 140737488355328 then (impl_Circuit_allWires.l0 k (x5 ++ [false]) x12 x13 (wrap64 (x14 + 1))) else (none))) else (none)) else (none)) else (if ((rd_T66 x12 x14).f0) = 4 then (if 0 ≤ ((rd_T66 x12 x14).f1) then (if ((rd_T66 x12 x14).f1) < (x5.length : Int) then (if rdOf false x5 ((rd_T66 x12 x14).f1) = true then (if x5.length < 140737488355328 then (impl_Circuit_allWires.l0 k (x5 ++ [true]) x12 x13 (wrap64 (x14 + 1))) else (none)) else (if 0 ≤ ((rd_T66 x12 x14).f2) then (if ((rd_T66 x12 x14).f2) < (x5.length : Int) then (if x5.length < 140737488355328 then (impl_Circuit_allWires.l0 k (x5 ++ [rdOf false x5 ((rd_T66 x12 x14).f2)]) x12 x13 (wrap64 (x14 + 1))) else (none)) else (none)) else (none))) else (none)) else (none)) else (if ((rd_T66 x12 x14).f0) = 5 then (if 0 ≤ ((rd_T66 x12 x14).f1) then (if ((rd_T66 x12 x14).f1) < (x5.length : Int) then (if 0 ≤ ((rd_T66 x12 x14).f2) then (if ((rd_T66 x12 x14).f2) < (x5.length : Int) then (if x5.length < 140737488355328 then (impl_Circuit_allWires.l0 k (x5 ++ [((rdOf false x5 ((rd_T66 x12 x14).f1)) != (rdOf false x5 ((rd_T66 x12 x14).f2)))]) x12 x13 (wrap64 (x14 + 1))) else (none)) else (none)) else (none)) else (none)) else (none)) else (if x5.length < 140737488355328 then (impl_Circuit_allWires.l0 k (x5 ++ [(((rd_T66 x12 x14).f1) == 1)]) x12 x13 (wrap64 (x14 + 1))) else (none)))))) else (none)) else (none)) else (some x5)
def impl_Circuit_allWires.f (k : Nat) (a0_0 : Int) (l0_1 : List (S66)) (l0_2 : List Int) (l1 : List Bool) : Option (List Bool) := (slices_Clone_bool_bool.f l1).bind fun t307 => (impl_Circuit_allWires.l0 k t307 l0_1 (l0_1.length : Int) 0)
theorem impl_Circuit_allWires.mono_l : ∀ k, (∀ y0 y1 y2 y3, LeO (impl_Circuit_allWires.l0 k y0 y1 y2 y3) (impl_Circuit_allWires.l0 (k + 1) y0 y1 y2 y3))
 | 0 => fun _ _ _ _ r h => by simp [impl_Circuit_allWires.l0] at h
 | k + 1 => by
  have ih0 := impl_Circuit_allWires.mono_l k
  ·intro y0 y1 y2 y3
   unfold impl_Circuit_allWires.l0
   repeat' with_reducible first | apply ih0 | exact LeO.refl _ | exact LeO.none _ | apply LeO.ite | refine LeO.bind ?_ fun _ => ?_
theorem impl_Circuit_allWires.mono : ∀ a0 a1 a2 a3 k, LeO (impl_Circuit_allWires.f k a0 a1 a2 a3) (impl_Circuit_allWires.f (k + 1) a0 a1 a2 a3) := by
 intro a0 a1 a2 a3 k
 have ih0 := impl_Circuit_allWires.mono_l k
 unfold impl_Circuit_allWires.f
 repeat' with_reducible first | apply ih0 | exact LeO.refl _ | exact LeO.none _ | apply LeO.ite | refine LeO.bind ?_ fun _ => ?_
theorem impl_Circuit_allWires.calls (k : Nat) (a0_0 : Int) (A0_1 : Option Addr) (c0_1 : Nat) (l0_1 : List (S66)) (A0_2 : Option Addr) (c0_2 : Nat) (l0_2 : List Int) (A1 : Option Addr) (c1 : Nat) (l1 : List Bool) (r : List Bool) (w : World) (hr0_1 : Kd.C k66 w A0_1 l0_1.length l0_1) (hc0_1 : l0_1.length ≤ c0_1) (hr0_2 : Kd.C (Kd.int .i64) w A0_2 l0_2.length l0_2) (hc0_2 : l0_2.length ≤ c0_2) (hr1 : Kd.C Kd.bool w A1 l1.length l1) (hc1 : l1.length ≤ c1) (h : impl_Circuit_allWires.f k a0_0 l0_1 l0_2 l1 = some r) :
  Calls Try.prog 41 #[.agg #[.int .i64 a0_0, .slice A0_1 l0_1.length c0_1, .slice A0_2 l0_2.length c0_2], .slice A1 l1.length c1] w fun e w' => ∃ v0_ : Value, e = .returned (v0_) ∧ Kd.R Kd.bool 4 w' w.heap.size (fun _ => True) v0_ r ∧ Below w.heap.size w w' := by
 have hu27 := Try.underlying27
 have hu66 := Try.underlying66
 have HR0_1 := am_ hr0_1
 have HC0_1 := am_ hc0_1
 clear hr0_1 hc0_1
 have HR0_2 := am_ hr0_2
 have HC0_2 := am_ hc0_2
 clear hr0_2 hc0_2
 have HR1 := am_ hr1
 have HC1 := am_ hc1
 clear hr1 hc1
 have HB := am_ (Below.refl w.heap.size w)
 have H := h
 clear h
 unfold impl_Circuit_allWires.f at H
 obtain ⟨t307, A3, H⟩ := Sh.ba H
 have H' := am_ H
 clear H
 go_enter Try.func41, Try.ntmps41
 go_wp2_with (first | ((with_reducible refine Sh.d 2 ?_); refine Sh.bz w (N := 2) (cs := #[.int .i64 a0_0, .slice A0_1 l0_1.length c0_1, .slice A0_2 l0_2.length c0_2]) (t := 27) (h := ?_); clear HB; intro gb306 w4 BK306 GE306 HB) | (go_at_call 59; (with_reducible refine (slices_Clone_bool_bool.calls _ _ l1 t307 _ (Sh.cB HR1.out) HC1.out A3.out).mono ?_); rintro e w5 ⟨v308, rfl, ho0, hb⟩; have HO309 := am_ (Kd.R_lower ho0 (below_size Sh.bw)); replace BK306 := Sh.ab BK306 hb; replace HB := Sh.hb hb; (try clear hb); (try clear hb2); (try clear hk); (try clear hi); (try clear ho0); obtain ⟨hcz6_0, hcz6_1, hcz6_2, hfz6_0, hfz6_1, hfz6_2⟩ := Sh.b3 BK306.out))
 repeat (go_quiet (first | ((with_reducible refine Sh.d 2 ?_); refine Sh.bz w (N := 2) (cs := #[.int .i64 a0_0, .slice A0_1 l0_1.length c0_1, .slice A0_2 l0_2.length c0_2]) (t := 27) (h := ?_); clear HB; intro gb306 w4 BK306 GE306 HB) | (go_at_call 59; (with_reducible refine (slices_Clone_bool_bool.calls _ _ l1 t307 _ (Sh.cB HR1.out) HC1.out A3.out).mono ?_); rintro e w5 ⟨v308, rfl, ho0, hb⟩; have HO309 := am_ (Kd.R_lower ho0 (below_size Sh.bw)); replace BK306 := Sh.ab BK306 hb; replace HB := Sh.hb hb; (try clear hb); (try clear hb2); (try clear hk); (try clear hi); (try clear ho0); obtain ⟨hcz6_0, hcz6_1, hcz6_2, hfz6_0, hfz6_1, hfz6_2⟩ := Sh.b3 BK306.out)); try go_wp2_with (first | ((with_reducible refine Sh.d 2 ?_); refine Sh.bz w (N := 2) (cs := #[.int .i64 a0_0, .slice A0_1 l0_1.length c0_1, .slice A0_2 l0_2.length c0_2]) (t := 27) (h := ?_); clear HB; intro gb306 w4 BK306 GE306 HB) | (go_at_call 59; (with_reducible refine (slices_Clone_bool_bool.calls _ _ l1 t307 _ (Sh.cB HR1.out) HC1.out A3.out).mono ?_); rintro e w5 ⟨v308, rfl, ho0, hb⟩; have HO309 := am_ (Kd.R_lower ho0 (below_size Sh.bw)); replace BK306 := Sh.ab BK306 hb; replace HB := Sh.hb hb; (try clear hb); (try clear hb2); (try clear hk); (try clear hi); (try clear ho0); obtain ⟨hcz6_0, hcz6_1, hcz6_2, hfz6_0, hfz6_1, hfz6_2⟩ := Sh.b3 BK306.out)))
 go_loopg [5, 14] k (fun kq v5 v14 w' => ∃ (x5_1 : List Bool) (x14_1 : Int), v14 = .int .i64 x14_1 ∧ Aside0 (impl_Circuit_allWires.l0 kq x5_1 l0_1 (l0_1.length : Int) x14_1 = some r) ∧ Aside0 (kq ≤ k) ∧ Aside0 (Kd.R Kd.bool 4 w' w.heap.size (fun _ => True) v5 x5_1) ∧ Aside0 (w'.heap[gb306]? = some (.cells #[.int .i64 a0_0, (.slice A0_1 l0_1.length c0_1), (.slice A0_2 l0_2.length c0_2)] 27 (0, 0))) ∧ Aside0 (Below w.heap.size w w'))
 case atStart => exact ⟨(t307), (0), (Sh.es), H', ⟨Nat.le_refl _⟩, ⟨Sh.rl HO309.out⟩, ⟨by refine Sh.pl ?_; exact BK306.out⟩, ⟨Sh.bw⟩⟩
 case round =>
  clear H'
  try clear hcz6_0
  try clear hcz6_1
  try clear hcz6_2
  try clear hfz6_0
  try clear hfz6_1
  try clear hfz6_2
  obtain ⟨x5_1, x14_1, rfl, HA, HK1, HO_5, BK306, HB⟩ := hrel
  cases gk with
  | zero => exact absurd HA.out (by simp [impl_Circuit_allWires.l0])
  | succ k1 =>
   have H := HA.out
   clear HA
   simp only [impl_Circuit_allWires.l0] at H
   by_cases c7 : x14_1 < (l0_1.length : Int)
   ·rw [if_pos c7] at H
    have c7b0 := decide_eq_true c7
    clear c7
    by_cases c8 : 0 ≤ x14_1
    ·rw [if_pos c8] at H
     have c8b0 := decide_eq_true c8
     clear c8
     by_cases c9 : x14_1 < (l0_1.length : Int)
     ·rw [if_pos c9] at H
      have c9b0 := decide_eq_true c9
      clear c9
      by_cases c10 : ((rd_T66 l0_1 x14_1).f0) = 2
      ·rw [if_pos c10] at H
       have c10b0 : (((rd_T66 l0_1 x14_1).f0) == 2) = true := beq_iff_eq.mpr c10
       have c10b1 : (((rd_T66 l0_1 x14_1).f0) != 2) = false := bne_eq_false_iff_eq.mpr c10
       clear c10
       by_cases c11 : 0 ≤ ((rd_T66 l0_1 x14_1).f1)
       ·rw [if_pos c11] at H
        have c11b0 := decide_eq_true c11
        clear c11
        by_cases c12 : ((rd_T66 l0_1 x14_1).f1) < (x5_1.length : Int)
        ·rw [if_pos c12] at H
         have c12b0 := decide_eq_true c12
         clear c12
         by_cases c13 : x5_1.length < 140737488355328
         ·rw [if_pos c13] at H
          have LMc13 := am_ c13
          clear c13
          obtain ⟨y313, hy313⟩ : ∃ y_ : List Bool, y_ = (x5_1 ++ [!(rdOf false x5_1 ((rd_T66 l0_1 x14_1).f1))]) := ⟨_, rfl⟩
          replace H : (impl_Circuit_allWires.l0 k1 y313 l0_1 (l0_1.length : Int) (wrap64 (x14_1 + 1))) = some r := by first | (rw [hy313]; with_reducible exact H) | (have H2_ := (Option.bind_some _ _).symm.trans H; rw [hy313]; with_reducible exact H2_) | (have H2_ := (Option.bind_some _ _).symm.trans H; with_reducible exact H2_) | with_reducible exact H | (rw [hy313]; exact H) | exact H
          have Ny313 := am_ hy313
          clear hy313
          have H' := am_ H
          clear H
          have p310 : 0 ≤ (x14_1 : Int) := Sh.od
          have q310 : x14_1 < (l0_1.length : Int) := Sh.od
          obtain ⟨ad310, e310, hx310_0, hx310_1, hx310_2⟩ := at_T66 HR0_1.out x14_1 p310 q310
          cases e310
          try replace hx310_0 := Sh.cw hx310_0
          try replace hx310_1 := Sh.cw hx310_1
          try replace hx310_2 := Sh.cw hx310_2
          replace p310 := eq_true p310
          replace q310 := eq_true q310
          go_wp2_with (first | ((with_reducible refine Sh.d 7 ?_); refine Sh.bx (N := 7) (cs := #[.int .i64 0, .int .i64 0, .int .i64 0]) (t := 66) (h := ?_); intro gb311 hg w14 hbox hb; replace HO_5 := am_ (Kd.R_below (Sh.rl HO_5.out) hb); have BK311 := am_ hbox; have GE311 := Sh.ag w hg; replace HB := Sh.hb hb; have NB306_311 := am_ (Sh.nl hg BK306.out); have NB311_306 := am_ (Sh.ng hg BK306.out); replace BK306 := Sh.ab BK306 hb; clear hb hbox hg; have hnb15 := NB311_306.out; have hnc15 := NB306_311.out; obtain ⟨hcz16_0, hcz16_1, hcz16_2, hfz16_0, hfz16_1, hfz16_2⟩ := Sh.b3 BK311.out; obtain ⟨Ao17, co17, eo17⟩ := Kd.R_slice HO_5.out; subst eo17; have p312 : 0 ≤ (((rd_T66 l0_1 x14_1).f1) : Int) := Sh.od; have q312 : ((rd_T66 l0_1 x14_1).f1) < (x5_1.length : Int) := Sh.od; obtain ⟨ad312, e312, hx312_0⟩ := Kd.at_bool (Kd.R_reads' HO_5.out).2.2 ((rd_T66 l0_1 x14_1).f1) p312 q312; cases e312; have hn312_0 : ad312.block ≠ gb311 := Kd.own_blk (Kd.R_ne HO_5.out BK311.out (by decide)); have hn312_1 : ad312.block ≠ gb311 := Kd.own_blk (Kd.R_ne HO_5.out BK311.out (by decide)); have hn312_2 : ad312.block ≠ gb311 := Kd.own_blk (Kd.R_ne HO_5.out BK311.out (by decide)); replace hx312_0 := (cell_far (p := ⟨gb311, 0, none⟩) (by first | (rw [add_block]; exact hn312_0) | (show (Addr.add _ _).block ≠ _; rw [add_block]; exact hn312_0) | exact hn312_0) (.int .i64 ((rd_T66 l0_1 x14_1).f0))).trans hx312_0; replace hx312_0 := (cell_far (p := ⟨gb311, 1, none⟩) (by first | (rw [add_block]; exact hn312_1) | (show (Addr.add _ _).block ≠ _; rw [add_block]; exact hn312_1) | exact hn312_1) (.int .i64 ((rd_T66 l0_1 x14_1).f1))).trans hx312_0; replace hx312_0 := (cell_far (p := ⟨gb311, 2, none⟩) (by first | (rw [add_block]; exact hn312_2) | (show (Addr.add _ _).block ≠ _; rw [add_block]; exact hn312_2) | exact hn312_2) (.int .i64 ((rd_T66 l0_1 x14_1).f2))).trans hx312_0; (try have hy312_0 := fun (n_ : Nat) => (show (((((w14.drewN n_).setCell ⟨gb311, 0, none⟩ (.int .i64 ((rd_T66 l0_1 x14_1).f0))).setCell ⟨gb311, 1, none⟩ (.int .i64 ((rd_T66 l0_1 x14_1).f1))).setCell ⟨gb311, 2, none⟩ (.int .i64 ((rd_T66 l0_1 x14_1).f2)))).cell? _ = some _ from hx312_0)); clear hn312_0; clear hn312_1; clear hn312_2; replace p312 := eq_true p312; replace q312 := eq_true q312) | ((with_reducible refine gate_builtin (b := .append) (xs := #[.tmp 72, .tmp 74]) rfl ?_); at_builtin; refine Kd.R_append Kd.bool (w0 := w) w.heap.size rfl (.tmp 72) (.tmp 74) 35 4 (.bool false) 1 rfl Try.underlying35 info4 rfl (by decide) (by omega) (.slice (some ad312) x5_1.length co17) x5_1 (!(rdOf false x5_1 ((rd_T66 l0_1 x14_1).f1))) [.bool (!(rdOf false x5_1 ((rd_T66 l0_1 x14_1).f1)))] (fun _ => True) (fun _ => False) rfl (by first | (go_simp; done) | (go_simp; rfl) | (refine Eq.trans (b := Value.slice (some ⟨_, 0, none⟩) 1 1) rfl ?_; simp [World.setCell])) ?aP (fun _ hk => hk.elim) ?aF ?aO ?aB ?aS ?aL ?_; (case aP => exact rfl); (case aB => exact Sh.bw); (case aF => exact (fun _ _ => trivial)); (case aO => exact (Sh.rl (Kd.R_mono (Kd.R_far (p := ⟨gb311, 2, none⟩) (Kd.R_far (p := ⟨gb311, 1, none⟩) (Kd.R_far (p := ⟨gb311, 0, none⟩) (Kd.R_types HO_5.out BK311.out (by decide)) (fun _ hk => hk.2) (.int .i64 ((rd_T66 l0_1 x14_1).f0))) (fun _ hk => hk.2) (.int .i64 ((rd_T66 l0_1 x14_1).f1))) (fun _ hk => hk.2) (.int .i64 ((rd_T66 l0_1 x14_1).f2))) (fun _ hk => trivial)))); (case aS => exact (below_size Sh.bw)); (case aL => have := LMc13.out; omega); intro v314 w18 ho hb hg hat; rw [← Ny313.out] at ho; have n0_ := am_ (blk_grown (g := gb306) (o := .cells #[.int .i64 a0_0, .slice (some ad310) l0_1.length c0_1, .slice A0_2 l0_2.length c0_2] 27 (0, 0)) (by refine Sh.pl ?_; refine blk_far ?_ NB306_311.out _; refine Sh.pl ?_; refine blk_far ?_ NB306_311.out _; refine Sh.pl ?_; refine blk_far ?_ NB306_311.out _; refine Sh.pl ?_; exact BK306.out) hg (Kd.R_ne HO_5.out BK306.out (by decide))); have n1_ := am_ (blk_grown (g := gb311) (o := .cells #[.int .i64 ((rd_T66 l0_1 x14_1).f0), .int .i64 ((rd_T66 l0_1 x14_1).f1), .int .i64 ((rd_T66 l0_1 x14_1).f2)] 66 (0, 0)) (by refine Sh.pl ?_; refine blk_put (cs := #[.int .i64 ((rd_T66 l0_1 x14_1).f0), .int .i64 ((rd_T66 l0_1 x14_1).f1), .int .i64 0]) ?_ 2 _ rfl; refine Sh.pl ?_; refine blk_put (cs := #[.int .i64 ((rd_T66 l0_1 x14_1).f0), .int .i64 0, .int .i64 0]) ?_ 1 _ rfl; refine Sh.pl ?_; refine blk_put (cs := #[.int .i64 0, .int .i64 0, .int .i64 0]) ?_ 0 _ rfl; refine Sh.pl ?_; exact BK311.out) hg (Kd.R_ne HO_5.out BK311.out (by decide))); have n2_ := am_ hb; have n3_ := am_ ho; clear BK306; clear BK311; clear HB; clear HO_5; have BK306 := n0_; have BK311 := n1_; have HB := n2_; have HO315 := n3_; clear n0_ n1_ n2_ n3_; clear ho hb hg hat))
          repeat (go_quiet (first | ((with_reducible refine Sh.d 7 ?_); refine Sh.bx (N := 7) (cs := #[.int .i64 0, .int .i64 0, .int .i64 0]) (t := 66) (h := ?_); intro gb311 hg w14 hbox hb; replace HO_5 := am_ (Kd.R_below (Sh.rl HO_5.out) hb); have BK311 := am_ hbox; have GE311 := Sh.ag w hg; replace HB := Sh.hb hb; have NB306_311 := am_ (Sh.nl hg BK306.out); have NB311_306 := am_ (Sh.ng hg BK306.out); replace BK306 := Sh.ab BK306 hb; clear hb hbox hg; have hnb15 := NB311_306.out; have hnc15 := NB306_311.out; obtain ⟨hcz16_0, hcz16_1, hcz16_2, hfz16_0, hfz16_1, hfz16_2⟩ := Sh.b3 BK311.out; obtain ⟨Ao17, co17, eo17⟩ := Kd.R_slice HO_5.out; subst eo17; have p312 : 0 ≤ (((rd_T66 l0_1 x14_1).f1) : Int) := Sh.od; have q312 : ((rd_T66 l0_1 x14_1).f1) < (x5_1.length : Int) := Sh.od; obtain ⟨ad312, e312, hx312_0⟩ := Kd.at_bool (Kd.R_reads' HO_5.out).2.2 ((rd_T66 l0_1 x14_1).f1) p312 q312; cases e312; have hn312_0 : ad312.block ≠ gb311 := Kd.own_blk (Kd.R_ne HO_5.out BK311.out (by decide)); have hn312_1 : ad312.block ≠ gb311 := Kd.own_blk (Kd.R_ne HO_5.out BK311.out (by decide)); have hn312_2 : ad312.block ≠ gb311 := Kd.own_blk (Kd.R_ne HO_5.out BK311.out (by decide)); replace hx312_0 := (cell_far (p := ⟨gb311, 0, none⟩) (by first | (rw [add_block]; exact hn312_0) | (show (Addr.add _ _).block ≠ _; rw [add_block]; exact hn312_0) | exact hn312_0) (.int .i64 ((rd_T66 l0_1 x14_1).f0))).trans hx312_0; replace hx312_0 := (cell_far (p := ⟨gb311, 1, none⟩) (by first | (rw [add_block]; exact hn312_1) | (show (Addr.add _ _).block ≠ _; rw [add_block]; exact hn312_1) | exact hn312_1) (.int .i64 ((rd_T66 l0_1 x14_1).f1))).trans hx312_0; replace hx312_0 := (cell_far (p := ⟨gb311, 2, none⟩) (by first | (rw [add_block]; exact hn312_2) | (show (Addr.add _ _).block ≠ _; rw [add_block]; exact hn312_2) | exact hn312_2) (.int .i64 ((rd_T66 l0_1 x14_1).f2))).trans hx312_0; (try have hy312_0 := fun (n_ : Nat) => (show (((((w14.drewN n_).setCell ⟨gb311, 0, none⟩ (.int .i64 ((rd_T66 l0_1 x14_1).f0))).setCell ⟨gb311, 1, none⟩ (.int .i64 ((rd_T66 l0_1 x14_1).f1))).setCell ⟨gb311, 2, none⟩ (.int .i64 ((rd_T66 l0_1 x14_1).f2)))).cell? _ = some _ from hx312_0)); clear hn312_0; clear hn312_1; clear hn312_2; replace p312 := eq_true p312; replace q312 := eq_true q312) | ((with_reducible refine gate_builtin (b := .append) (xs := #[.tmp 72, .tmp 74]) rfl ?_); at_builtin; refine Kd.R_append Kd.bool (w0 := w) w.heap.size rfl (.tmp 72) (.tmp 74) 35 4 (.bool false) 1 rfl Try.underlying35 info4 rfl (by decide) (by omega) (.slice (some ad312) x5_1.length co17) x5_1 (!(rdOf false x5_1 ((rd_T66 l0_1 x14_1).f1))) [.bool (!(rdOf false x5_1 ((rd_T66 l0_1 x14_1).f1)))] (fun _ => True) (fun _ => False) rfl (by first | (go_simp; done) | (go_simp; rfl) | (refine Eq.trans (b := Value.slice (some ⟨_, 0, none⟩) 1 1) rfl ?_; simp [World.setCell])) ?aP (fun _ hk => hk.elim) ?aF ?aO ?aB ?aS ?aL ?_; (case aP => exact rfl); (case aB => exact Sh.bw); (case aF => exact (fun _ _ => trivial)); (case aO => exact (Sh.rl (Kd.R_mono (Kd.R_far (p := ⟨gb311, 2, none⟩) (Kd.R_far (p := ⟨gb311, 1, none⟩) (Kd.R_far (p := ⟨gb311, 0, none⟩) (Kd.R_types HO_5.out BK311.out (by decide)) (fun _ hk => hk.2) (.int .i64 ((rd_T66 l0_1 x14_1).f0))) (fun _ hk => hk.2) (.int .i64 ((rd_T66 l0_1 x14_1).f1))) (fun _ hk => hk.2) (.int .i64 ((rd_T66 l0_1 x14_1).f2))) (fun _ hk => trivial)))); (case aS => exact (below_size Sh.bw)); (case aL => have := LMc13.out; omega); intro v314 w18 ho hb hg hat; rw [← Ny313.out] at ho; have n0_ := am_ (blk_grown (g := gb306) (o := .cells #[.int .i64 a0_0, .slice (some ad310) l0_1.length c0_1, .slice A0_2 l0_2.length c0_2] 27 (0, 0)) (by refine Sh.pl ?_; refine blk_far ?_ NB306_311.out _; refine Sh.pl ?_; refine blk_far ?_ NB306_311.out _; refine Sh.pl ?_; refine blk_far ?_ NB306_311.out _; refine Sh.pl ?_; exact BK306.out) hg (Kd.R_ne HO_5.out BK306.out (by decide))); have n1_ := am_ (blk_grown (g := gb311) (o := .cells #[.int .i64 ((rd_T66 l0_1 x14_1).f0), .int .i64 ((rd_T66 l0_1 x14_1).f1), .int .i64 ((rd_T66 l0_1 x14_1).f2)] 66 (0, 0)) (by refine Sh.pl ?_; refine blk_put (cs := #[.int .i64 ((rd_T66 l0_1 x14_1).f0), .int .i64 ((rd_T66 l0_1 x14_1).f1), .int .i64 0]) ?_ 2 _ rfl; refine Sh.pl ?_; refine blk_put (cs := #[.int .i64 ((rd_T66 l0_1 x14_1).f0), .int .i64 0, .int .i64 0]) ?_ 1 _ rfl; refine Sh.pl ?_; refine blk_put (cs := #[.int .i64 0, .int .i64 0, .int .i64 0]) ?_ 0 _ rfl; refine Sh.pl ?_; exact BK311.out) hg (Kd.R_ne HO_5.out BK311.out (by decide))); have n2_ := am_ hb; have n3_ := am_ ho; clear BK306; clear BK311; clear HB; clear HO_5; have BK306 := n0_; have BK311 := n1_; have HB := n2_; have HO315 := n3_; clear n0_ n1_ n2_ n3_; clear ho hb hg hat)); try go_wp2_with (first | ((with_reducible refine Sh.d 7 ?_); refine Sh.bx (N := 7) (cs := #[.int .i64 0, .int .i64 0, .int .i64 0]) (t := 66) (h := ?_); intro gb311 hg w14 hbox hb; replace HO_5 := am_ (Kd.R_below (Sh.rl HO_5.out) hb); have BK311 := am_ hbox; have GE311 := Sh.ag w hg; replace HB := Sh.hb hb; have NB306_311 := am_ (Sh.nl hg BK306.out); have NB311_306 := am_ (Sh.ng hg BK306.out); replace BK306 := Sh.ab BK306 hb; clear hb hbox hg; have hnb15 := NB311_306.out; have hnc15 := NB306_311.out; obtain ⟨hcz16_0, hcz16_1, hcz16_2, hfz16_0, hfz16_1, hfz16_2⟩ := Sh.b3 BK311.out; obtain ⟨Ao17, co17, eo17⟩ := Kd.R_slice HO_5.out; subst eo17; have p312 : 0 ≤ (((rd_T66 l0_1 x14_1).f1) : Int) := Sh.od; have q312 : ((rd_T66 l0_1 x14_1).f1) < (x5_1.length : Int) := Sh.od; obtain ⟨ad312, e312, hx312_0⟩ := Kd.at_bool (Kd.R_reads' HO_5.out).2.2 ((rd_T66 l0_1 x14_1).f1) p312 q312; cases e312; have hn312_0 : ad312.block ≠ gb311 := Kd.own_blk (Kd.R_ne HO_5.out BK311.out (by decide)); have hn312_1 : ad312.block ≠ gb311 := Kd.own_blk (Kd.R_ne HO_5.out BK311.out (by decide)); have hn312_2 : ad312.block ≠ gb311 := Kd.own_blk (Kd.R_ne HO_5.out BK311.out (by decide)); replace hx312_0 := (cell_far (p := ⟨gb311, 0, none⟩) (by first | (rw [add_block]; exact hn312_0) | (show (Addr.add _ _).block ≠ _; rw [add_block]; exact hn312_0) | exact hn312_0) (.int .i64 ((rd_T66 l0_1 x14_1).f0))).trans hx312_0; replace hx312_0 := (cell_far (p := ⟨gb311, 1, none⟩) (by first | (rw [add_block]; exact hn312_1) | (show (Addr.add _ _).block ≠ _; rw [add_block]; exact hn312_1) | exact hn312_1) (.int .i64 ((rd_T66 l0_1 x14_1).f1))).trans hx312_0; replace hx312_0 := (cell_far (p := ⟨gb311, 2, none⟩) (by first | (rw [add_block]; exact hn312_2) | (show (Addr.add _ _).block ≠ _; rw [add_block]; exact hn312_2) | exact hn312_2) (.int .i64 ((rd_T66 l0_1 x14_1).f2))).trans hx312_0; (try have hy312_0 := fun (n_ : Nat) => (show (((((w14.drewN n_).setCell ⟨gb311, 0, none⟩ (.int .i64 ((rd_T66 l0_1 x14_1).f0))).setCell ⟨gb311, 1, none⟩ (.int .i64 ((rd_T66 l0_1 x14_1).f1))).setCell ⟨gb311, 2, none⟩ (.int .i64 ((rd_T66 l0_1 x14_1).f2)))).cell? _ = some _ from hx312_0)); clear hn312_0; clear hn312_1; clear hn312_2; replace p312 := eq_true p312; replace q312 := eq_true q312) | ((with_reducible refine gate_builtin (b := .append) (xs := #[.tmp 72, .tmp 74]) rfl ?_); at_builtin; refine Kd.R_append Kd.bool (w0 := w) w.heap.size rfl (.tmp 72) (.tmp 74) 35 4 (.bool false) 1 rfl Try.underlying35 info4 rfl (by decide) (by omega) (.slice (some ad312) x5_1.length co17) x5_1 (!(rdOf false x5_1 ((rd_T66 l0_1 x14_1).f1))) [.bool (!(rdOf false x5_1 ((rd_T66 l0_1 x14_1).f1)))] (fun _ => True) (fun _ => False) rfl (by first | (go_simp; done) | (go_simp; rfl) | (refine Eq.trans (b := Value.slice (some ⟨_, 0, none⟩) 1 1) rfl ?_; simp [World.setCell])) ?aP (fun _ hk => hk.elim) ?aF ?aO ?aB ?aS ?aL ?_; (case aP => exact rfl); (case aB => exact Sh.bw); (case aF => exact (fun _ _ => trivial)); (case aO => exact (Sh.rl (Kd.R_mono (Kd.R_far (p := ⟨gb311, 2, none⟩) (Kd.R_far (p := ⟨gb311, 1, none⟩) (Kd.R_far (p := ⟨gb311, 0, none⟩) (Kd.R_types HO_5.out BK311.out (by decide)) (fun _ hk => hk.2) (.int .i64 ((rd_T66 l0_1 x14_1).f0))) (fun _ hk => hk.2) (.int .i64 ((rd_T66 l0_1 x14_1).f1))) (fun _ hk => hk.2) (.int .i64 ((rd_T66 l0_1 x14_1).f2))) (fun _ hk => trivial)))); (case aS => exact (below_size Sh.bw)); (case aL => have := LMc13.out; omega); intro v314 w18 ho hb hg hat; rw [← Ny313.out] at ho; have n0_ := am_ (blk_grown (g := gb306) (o := .cells #[.int .i64 a0_0, .slice (some ad310) l0_1.length c0_1, .slice A0_2 l0_2.length c0_2] 27 (0, 0)) (by refine Sh.pl ?_; refine blk_far ?_ NB306_311.out _; refine Sh.pl ?_; refine blk_far ?_ NB306_311.out _; refine Sh.pl ?_; refine blk_far ?_ NB306_311.out _; refine Sh.pl ?_; exact BK306.out) hg (Kd.R_ne HO_5.out BK306.out (by decide))); have n1_ := am_ (blk_grown (g := gb311) (o := .cells #[.int .i64 ((rd_T66 l0_1 x14_1).f0), .int .i64 ((rd_T66 l0_1 x14_1).f1), .int .i64 ((rd_T66 l0_1 x14_1).f2)] 66 (0, 0)) (by refine Sh.pl ?_; refine blk_put (cs := #[.int .i64 ((rd_T66 l0_1 x14_1).f0), .int .i64 ((rd_T66 l0_1 x14_1).f1), .int .i64 0]) ?_ 2 _ rfl; refine Sh.pl ?_; refine blk_put (cs := #[.int .i64 ((rd_T66 l0_1 x14_1).f0), .int .i64 0, .int .i64 0]) ?_ 1 _ rfl; refine Sh.pl ?_; refine blk_put (cs := #[.int .i64 0, .int .i64 0, .int .i64 0]) ?_ 0 _ rfl; refine Sh.pl ?_; exact BK311.out) hg (Kd.R_ne HO_5.out BK311.out (by decide))); have n2_ := am_ hb; have n3_ := am_ ho; clear BK306; clear BK311; clear HB; clear HO_5; have BK306 := n0_; have BK311 := n1_; have HB := n2_; have HO315 := n3_; clear n0_ n1_ n2_ n3_; clear ho hb hg hat)))
          go_roundg k1
          case measure => have := HK1.out; omega
          case rel => exact ⟨(y313), (wrap64 (x14_1 + 1)), (Sh.es), H', ⟨by have := HK1.out; omega⟩, ⟨Sh.rl HO315.out⟩, ⟨by refine Sh.pl ?_; exact BK306.out⟩, ⟨Sh.bw⟩⟩
         ·rw [if_neg c13] at H
          exact absurd H (by simp)
        ·rw [if_neg c12] at H
         exact absurd H (by simp)
       ·rw [if_neg c11] at H
        exact absurd H (by simp)
      ·rw [if_neg c10] at H
       have c10b0 : (((rd_T66 l0_1 x14_1).f0) == 2) = false := beq_eq_false_iff_ne.mpr c10
       have c10b1 : (((rd_T66 l0_1 x14_1).f0) != 2) = true := bne_iff_ne.mpr c10
       by_cases c19 : ((rd_T66 l0_1 x14_1).f0) = 3
       ·rw [if_pos c19] at H
        have c19b0 : (((rd_T66 l0_1 x14_1).f0) == 3) = true := beq_iff_eq.mpr c19
        have c19b1 : (((rd_T66 l0_1 x14_1).f0) != 3) = false := bne_eq_false_iff_eq.mpr c19
        clear c19
        by_cases c20 : 0 ≤ ((rd_T66 l0_1 x14_1).f1)
        ·rw [if_pos c20] at H
         have c20b0 := decide_eq_true c20
         clear c20
         by_cases c21 : ((rd_T66 l0_1 x14_1).f1) < (x5_1.length : Int)
         ·rw [if_pos c21] at H
          have c21b0 := decide_eq_true c21
          clear c21
          obtain ⟨bq22, hbq22⟩ : ∃ b_ : Bool, b_ = (rdOf false x5_1 ((rd_T66 l0_1 x14_1).f1)) := ⟨_, rfl⟩
          replace H : (if bq22 = true then (if 0 ≤ ((rd_T66 l0_1 x14_1).f2) then (if ((rd_T66 l0_1 x14_1).f2) < (x5_1.length : Int) then (if x5_1.length < 140737488355328 then (impl_Circuit_allWires.l0 k1 (x5_1 ++ [rdOf false x5_1 ((rd_T66 l0_1 x14_1).f2)]) l0_1 (l0_1.length : Int) (wrap64 (x14_1 + 1))) else (none)) else (none)) else (none)) else (if x5_1.length < 140737488355328 then (impl_Circuit_allWires.l0 k1 (x5_1 ++ [false]) l0_1 (l0_1.length : Int) (wrap64 (x14_1 + 1))) else (none))) = some r := by rw [← hbq22] at H; exact H
          have Nbq22 := am_ hbq22
          clear hbq22
          by_cases c23 : bq22 = true
          ·subst c23
           rw [if_pos rfl] at H
           by_cases c24 : 0 ≤ ((rd_T66 l0_1 x14_1).f2)
           ·rw [if_pos c24] at H
            have c24b0 := decide_eq_true c24
            clear c24
            by_cases c25 : ((rd_T66 l0_1 x14_1).f2) < (x5_1.length : Int)
            ·rw [if_pos c25] at H
             have c25b0 := decide_eq_true c25
             clear c25
             by_cases c26 : x5_1.length < 140737488355328
             ·rw [if_pos c26] at H
              have LMc26 := am_ c26
              clear c26
              obtain ⟨y318, hy318⟩ : ∃ y_ : List Bool, y_ = (x5_1 ++ [rdOf false x5_1 ((rd_T66 l0_1 x14_1).f2)]) := ⟨_, rfl⟩
              replace H : (impl_Circuit_allWires.l0 k1 y318 l0_1 (l0_1.length : Int) (wrap64 (x14_1 + 1))) = some r := by first | (rw [hy318]; with_reducible exact H) | (have H2_ := (Option.bind_some _ _).symm.trans H; rw [hy318]; with_reducible exact H2_) | (have H2_ := (Option.bind_some _ _).symm.trans H; with_reducible exact H2_) | with_reducible exact H | (rw [hy318]; exact H) | exact H
              have Ny318 := am_ hy318
              clear hy318
              have H' := am_ H
              clear H
              have p310 : 0 ≤ (x14_1 : Int) := Sh.od
              have q310 : x14_1 < (l0_1.length : Int) := Sh.od
              obtain ⟨ad310, e310, hx310_0, hx310_1, hx310_2⟩ := at_T66 HR0_1.out x14_1 p310 q310
              cases e310
              try replace hx310_0 := Sh.cw hx310_0
              try replace hx310_1 := Sh.cw hx310_1
              try replace hx310_2 := Sh.cw hx310_2
              replace p310 := eq_true p310
              replace q310 := eq_true q310
              go_wp2_with (first | ((with_reducible refine Sh.d 7 ?_); refine Sh.bx (N := 7) (cs := #[.int .i64 0, .int .i64 0, .int .i64 0]) (t := 66) (h := ?_); intro gb311 hg w27 hbox hb; replace HO_5 := am_ (Kd.R_below (Sh.rl HO_5.out) hb); have BK311 := am_ hbox; have GE311 := Sh.ag w hg; replace HB := Sh.hb hb; have NB306_311 := am_ (Sh.nl hg BK306.out); have NB311_306 := am_ (Sh.ng hg BK306.out); replace BK306 := Sh.ab BK306 hb; clear hb hbox hg; have hnb28 := NB311_306.out; have hnc28 := NB306_311.out; obtain ⟨hcz29_0, hcz29_1, hcz29_2, hfz29_0, hfz29_1, hfz29_2⟩ := Sh.b3 BK311.out; obtain ⟨Ao30, co30, eo30⟩ := Kd.R_slice HO_5.out; subst eo30; have p316 : 0 ≤ (((rd_T66 l0_1 x14_1).f1) : Int) := Sh.od; have q316 : ((rd_T66 l0_1 x14_1).f1) < (x5_1.length : Int) := Sh.od; obtain ⟨ad316, e316, hx316_0⟩ := Kd.at_bool (Kd.R_reads' HO_5.out).2.2 ((rd_T66 l0_1 x14_1).f1) p316 q316; (try rw [← Nbq22.out] at hx316_0); cases e316; have hn316_0 : ad316.block ≠ gb311 := Kd.own_blk (Kd.R_ne HO_5.out BK311.out (by decide)); have hn316_1 : ad316.block ≠ gb311 := Kd.own_blk (Kd.R_ne HO_5.out BK311.out (by decide)); have hn316_2 : ad316.block ≠ gb311 := Kd.own_blk (Kd.R_ne HO_5.out BK311.out (by decide)); replace hx316_0 := (cell_far (p := ⟨gb311, 0, none⟩) (by first | (rw [add_block]; exact hn316_0) | (show (Addr.add _ _).block ≠ _; rw [add_block]; exact hn316_0) | exact hn316_0) (.int .i64 ((rd_T66 l0_1 x14_1).f0))).trans hx316_0; replace hx316_0 := (cell_far (p := ⟨gb311, 1, none⟩) (by first | (rw [add_block]; exact hn316_1) | (show (Addr.add _ _).block ≠ _; rw [add_block]; exact hn316_1) | exact hn316_1) (.int .i64 ((rd_T66 l0_1 x14_1).f1))).trans hx316_0; replace hx316_0 := (cell_far (p := ⟨gb311, 2, none⟩) (by first | (rw [add_block]; exact hn316_2) | (show (Addr.add _ _).block ≠ _; rw [add_block]; exact hn316_2) | exact hn316_2) (.int .i64 ((rd_T66 l0_1 x14_1).f2))).trans hx316_0; (try have hy316_0 := fun (n_ : Nat) => (show (((((w27.drewN n_).setCell ⟨gb311, 0, none⟩ (.int .i64 ((rd_T66 l0_1 x14_1).f0))).setCell ⟨gb311, 1, none⟩ (.int .i64 ((rd_T66 l0_1 x14_1).f1))).setCell ⟨gb311, 2, none⟩ (.int .i64 ((rd_T66 l0_1 x14_1).f2)))).cell? _ = some _ from hx316_0)); clear hn316_0; clear hn316_1; clear hn316_2; replace p316 := eq_true p316; replace q316 := eq_true q316; have p317 : 0 ≤ (((rd_T66 l0_1 x14_1).f2) : Int) := Sh.od; have q317 : ((rd_T66 l0_1 x14_1).f2) < (x5_1.length : Int) := Sh.od; obtain ⟨ad317, e317, hx317_0⟩ := Kd.at_bool (Kd.R_reads' HO_5.out).2.2 ((rd_T66 l0_1 x14_1).f2) p317 q317; (try rw [← Nbq22.out] at hx317_0); obtain rfl : ad316 = ad317 := (by injection e317); have hn317_0 : ad316.block ≠ gb311 := Kd.own_blk (Kd.R_ne HO_5.out BK311.out (by decide)); have hn317_1 : ad316.block ≠ gb311 := Kd.own_blk (Kd.R_ne HO_5.out BK311.out (by decide)); have hn317_2 : ad316.block ≠ gb311 := Kd.own_blk (Kd.R_ne HO_5.out BK311.out (by decide)); replace hx317_0 := (cell_far (p := ⟨gb311, 0, none⟩) (by first | (rw [add_block]; exact hn317_0) | (show (Addr.add _ _).block ≠ _; rw [add_block]; exact hn317_0) | exact hn317_0) (.int .i64 ((rd_T66 l0_1 x14_1).f0))).trans hx317_0; replace hx317_0 := (cell_far (p := ⟨gb311, 1, none⟩) (by first | (rw [add_block]; exact hn317_1) | (show (Addr.add _ _).block ≠ _; rw [add_block]; exact hn317_1) | exact hn317_1) (.int .i64 ((rd_T66 l0_1 x14_1).f1))).trans hx317_0; replace hx317_0 := (cell_far (p := ⟨gb311, 2, none⟩) (by first | (rw [add_block]; exact hn317_2) | (show (Addr.add _ _).block ≠ _; rw [add_block]; exact hn317_2) | exact hn317_2) (.int .i64 ((rd_T66 l0_1 x14_1).f2))).trans hx317_0; (try have hy317_0 := fun (n_ : Nat) => (show (((((w27.drewN n_).setCell ⟨gb311, 0, none⟩ (.int .i64 ((rd_T66 l0_1 x14_1).f0))).setCell ⟨gb311, 1, none⟩ (.int .i64 ((rd_T66 l0_1 x14_1).f1))).setCell ⟨gb311, 2, none⟩ (.int .i64 ((rd_T66 l0_1 x14_1).f2)))).cell? _ = some _ from hx317_0)); clear hn317_0; clear hn317_1; clear hn317_2; replace p317 := eq_true p317; replace q317 := eq_true q317) | ((with_reducible refine gate_builtin (b := .append) (xs := #[.tmp 72, .tmp 74]) rfl ?_); at_builtin; refine Kd.R_append Kd.bool (w0 := w) w.heap.size rfl (.tmp 72) (.tmp 74) 35 4 (.bool false) 1 rfl Try.underlying35 info4 rfl (by decide) (by omega) (.slice (some ad316) x5_1.length co30) x5_1 (rdOf false x5_1 ((rd_T66 l0_1 x14_1).f2)) [.bool (rdOf false x5_1 ((rd_T66 l0_1 x14_1).f2))] (fun _ => True) (fun _ => False) rfl (by first | (go_simp; done) | (go_simp; rfl) | (refine Eq.trans (b := Value.slice (some ⟨_, 0, none⟩) 1 1) rfl ?_; simp [World.setCell])) ?aP (fun _ hk => hk.elim) ?aF ?aO ?aB ?aS ?aL ?_; (case aP => exact rfl); (case aB => exact Sh.bw); (case aF => exact (fun _ _ => trivial)); (case aO => exact (Sh.rl (Kd.R_mono (Kd.R_far (p := ⟨gb311, 2, none⟩) (Kd.R_far (p := ⟨gb311, 1, none⟩) (Kd.R_far (p := ⟨gb311, 0, none⟩) (Kd.R_types HO_5.out BK311.out (by decide)) (fun _ hk => hk.2) (.int .i64 ((rd_T66 l0_1 x14_1).f0))) (fun _ hk => hk.2) (.int .i64 ((rd_T66 l0_1 x14_1).f1))) (fun _ hk => hk.2) (.int .i64 ((rd_T66 l0_1 x14_1).f2))) (fun _ hk => trivial)))); (case aS => exact (below_size Sh.bw)); (case aL => have := LMc26.out; omega); intro v319 w31 ho hb hg hat; rw [← Ny318.out] at ho; have n0_ := am_ (blk_grown (g := gb306) (o := .cells #[.int .i64 a0_0, .slice (some ad310) l0_1.length c0_1, .slice A0_2 l0_2.length c0_2] 27 (0, 0)) (by refine Sh.pl ?_; refine blk_far ?_ NB306_311.out _; refine Sh.pl ?_; refine blk_far ?_ NB306_311.out _; refine Sh.pl ?_; refine blk_far ?_ NB306_311.out _; refine Sh.pl ?_; exact BK306.out) hg (Kd.R_ne HO_5.out BK306.out (by decide))); have n1_ := am_ (blk_grown (g := gb311) (o := .cells #[.int .i64 ((rd_T66 l0_1 x14_1).f0), .int .i64 ((rd_T66 l0_1 x14_1).f1), .int .i64 ((rd_T66 l0_1 x14_1).f2)] 66 (0, 0)) (by refine Sh.pl ?_; refine blk_put (cs := #[.int .i64 ((rd_T66 l0_1 x14_1).f0), .int .i64 ((rd_T66 l0_1 x14_1).f1), .int .i64 0]) ?_ 2 _ rfl; refine Sh.pl ?_; refine blk_put (cs := #[.int .i64 ((rd_T66 l0_1 x14_1).f0), .int .i64 0, .int .i64 0]) ?_ 1 _ rfl; refine Sh.pl ?_; refine blk_put (cs := #[.int .i64 0, .int .i64 0, .int .i64 0]) ?_ 0 _ rfl; refine Sh.pl ?_; exact BK311.out) hg (Kd.R_ne HO_5.out BK311.out (by decide))); have n2_ := am_ hb; have n3_ := am_ ho; clear BK306; clear BK311; clear HB; clear HO_5; have BK306 := n0_; have BK311 := n1_; have HB := n2_; have HO320 := n3_; clear n0_ n1_ n2_ n3_; clear ho hb hg hat))
              repeat (go_quiet (first | ((with_reducible refine Sh.d 7 ?_); refine Sh.bx (N := 7) (cs := #[.int .i64 0, .int .i64 0, .int .i64 0]) (t := 66) (h := ?_); intro gb311 hg w27 hbox hb; replace HO_5 := am_ (Kd.R_below (Sh.rl HO_5.out) hb); have BK311 := am_ hbox; have GE311 := Sh.ag w hg; replace HB := Sh.hb hb; have NB306_311 := am_ (Sh.nl hg BK306.out); have NB311_306 := am_ (Sh.ng hg BK306.out); replace BK306 := Sh.ab BK306 hb; clear hb hbox hg; have hnb28 := NB311_306.out; have hnc28 := NB306_311.out; obtain ⟨hcz29_0, hcz29_1, hcz29_2, hfz29_0, hfz29_1, hfz29_2⟩ := Sh.b3 BK311.out; obtain ⟨Ao30, co30, eo30⟩ := Kd.R_slice HO_5.out; subst eo30; have p316 : 0 ≤ (((rd_T66 l0_1 x14_1).f1) : Int) := Sh.od; have q316 : ((rd_T66 l0_1 x14_1).f1) < (x5_1.length : Int) := Sh.od; obtain ⟨ad316, e316, hx316_0⟩ := Kd.at_bool (Kd.R_reads' HO_5.out).2.2 ((rd_T66 l0_1 x14_1).f1) p316 q316; (try rw [← Nbq22.out] at hx316_0); cases e316; have hn316_0 : ad316.block ≠ gb311 := Kd.own_blk (Kd.R_ne HO_5.out BK311.out (by decide)); have hn316_1 : ad316.block ≠ gb311 := Kd.own_blk (Kd.R_ne HO_5.out BK311.out (by decide)); have hn316_2 : ad316.block ≠ gb311 := Kd.own_blk (Kd.R_ne HO_5.out BK311.out (by decide)); replace hx316_0 := (cell_far (p := ⟨gb311, 0, none⟩) (by first | (rw [add_block]; exact hn316_0) | (show (Addr.add _ _).block ≠ _; rw [add_block]; exact hn316_0) | exact hn316_0) (.int .i64 ((rd_T66 l0_1 x14_1).f0))).trans hx316_0; replace hx316_0 := (cell_far (p := ⟨gb311, 1, none⟩) (by first | (rw [add_block]; exact hn316_1) | (show (Addr.add _ _).block ≠ _; rw [add_block]; exact hn316_1) | exact hn316_1) (.int .i64 ((rd_T66 l0_1 x14_1).f1))).trans hx316_0; replace hx316_0 := (cell_far (p := ⟨gb311, 2, none⟩) (by first | (rw [add_block]; exact hn316_2) | (show (Addr.add _ _).block ≠ _; rw [add_block]; exact hn316_2) | exact hn316_2) (.int .i64 ((rd_T66 l0_1 x14_1).f2))).trans hx316_0; (try have hy316_0 := fun (n_ : Nat) => (show (((((w27.drewN n_).setCell ⟨gb311, 0, none⟩ (.int .i64 ((rd_T66 l0_1 x14_1).f0))).setCell ⟨gb311, 1, none⟩ (.int .i64 ((rd_T66 l0_1 x14_1).f1))).setCell ⟨gb311, 2, none⟩ (.int .i64 ((rd_T66 l0_1 x14_1).f2)))).cell? _ = some _ from hx316_0)); clear hn316_0; clear hn316_1; clear hn316_2; replace p316 := eq_true p316; replace q316 := eq_true q316; have p317 : 0 ≤ (((rd_T66 l0_1 x14_1).f2) : Int) := Sh.od; have q317 : ((rd_T66 l0_1 x14_1).f2) < (x5_1.length : Int) := Sh.od; obtain ⟨ad317, e317, hx317_0⟩ := Kd.at_bool (Kd.R_reads' HO_5.out).2.2 ((rd_T66 l0_1 x14_1).f2) p317 q317; (try rw [← Nbq22.out] at hx317_0); obtain rfl : ad316 = ad317 := (by injection e317); have hn317_0 : ad316.block ≠ gb311 := Kd.own_blk (Kd.R_ne HO_5.out BK311.out (by decide)); have hn317_1 : ad316.block ≠ gb311 := Kd.own_blk (Kd.R_ne HO_5.out BK311.out (by decide)); have hn317_2 : ad316.block ≠ gb311 := Kd.own_blk (Kd.R_ne HO_5.out BK311.out (by decide)); replace hx317_0 := (cell_far (p := ⟨gb311, 0, none⟩) (by first | (rw [add_block]; exact hn317_0) | (show (Addr.add _ _).block ≠ _; rw [add_block]; exact hn317_0) | exact hn317_0) (.int .i64 ((rd_T66 l0_1 x14_1).f0))).trans hx317_0; replace hx317_0 := (cell_far (p := ⟨gb311, 1, none⟩) (by first | (rw [add_block]; exact hn317_1) | (show (Addr.add _ _).block ≠ _; rw [add_block]; exact hn317_1) | exact hn317_1) (.int .i64 ((rd_T66 l0_1 x14_1).f1))).trans hx317_0; replace hx317_0 := (cell_far (p := ⟨gb311, 2, none⟩) (by first | (rw [add_block]; exact hn317_2) | (show (Addr.add _ _).block ≠ _; rw [add_block]; exact hn317_2) | exact hn317_2) (.int .i64 ((rd_T66 l0_1 x14_1).f2))).trans hx317_0; (try have hy317_0 := fun (n_ : Nat) => (show (((((w27.drewN n_).setCell ⟨gb311, 0, none⟩ (.int .i64 ((rd_T66 l0_1 x14_1).f0))).setCell ⟨gb311, 1, none⟩ (.int .i64 ((rd_T66 l0_1 x14_1).f1))).setCell ⟨gb311, 2, none⟩ (.int .i64 ((rd_T66 l0_1 x14_1).f2)))).cell? _ = some _ from hx317_0)); clear hn317_0; clear hn317_1; clear hn317_2; replace p317 := eq_true p317; replace q317 := eq_true q317) | ((with_reducible refine gate_builtin (b := .append) (xs := #[.tmp 72, .tmp 74]) rfl ?_); at_builtin; refine Kd.R_append Kd.bool (w0 := w) w.heap.size rfl (.tmp 72) (.tmp 74) 35 4 (.bool false) 1 rfl Try.underlying35 info4 rfl (by decide) (by omega) (.slice (some ad316) x5_1.length co30) x5_1 (rdOf false x5_1 ((rd_T66 l0_1 x14_1).f2)) [.bool (rdOf false x5_1 ((rd_T66 l0_1 x14_1).f2))] (fun _ => True) (fun _ => False) rfl (by first | (go_simp; done) | (go_simp; rfl) | (refine Eq.trans (b := Value.slice (some ⟨_, 0, none⟩) 1 1) rfl ?_; simp [World.setCell])) ?aP (fun _ hk => hk.elim) ?aF ?aO ?aB ?aS ?aL ?_; (case aP => exact rfl); (case aB => exact Sh.bw); (case aF => exact (fun _ _ => trivial)); (case aO => exact (Sh.rl (Kd.R_mono (Kd.R_far (p := ⟨gb311, 2, none⟩) (Kd.R_far (p := ⟨gb311, 1, none⟩) (Kd.R_far (p := ⟨gb311, 0, none⟩) (Kd.R_types HO_5.out BK311.out (by decide)) (fun _ hk => hk.2) (.int .i64 ((rd_T66 l0_1 x14_1).f0))) (fun _ hk => hk.2) (.int .i64 ((rd_T66 l0_1 x14_1).f1))) (fun _ hk => hk.2) (.int .i64 ((rd_T66 l0_1 x14_1).f2))) (fun _ hk => trivial)))); (case aS => exact (below_size Sh.bw)); (case aL => have := LMc26.out; omega); intro v319 w31 ho hb hg hat; rw [← Ny318.out] at ho; have n0_ := am_ (blk_grown (g := gb306) (o := .cells #[.int .i64 a0_0, .slice (some ad310) l0_1.length c0_1, .slice A0_2 l0_2.length c0_2] 27 (0, 0)) (by refine Sh.pl ?_; refine blk_far ?_ NB306_311.out _; refine Sh.pl ?_; refine blk_far ?_ NB306_311.out _; refine Sh.pl ?_; refine blk_far ?_ NB306_311.out _; refine Sh.pl ?_; exact BK306.out) hg (Kd.R_ne HO_5.out BK306.out (by decide))); have n1_ := am_ (blk_grown (g := gb311) (o := .cells #[.int .i64 ((rd_T66 l0_1 x14_1).f0), .int .i64 ((rd_T66 l0_1 x14_1).f1), .int .i64 ((rd_T66 l0_1 x14_1).f2)] 66 (0, 0)) (by refine Sh.pl ?_; refine blk_put (cs := #[.int .i64 ((rd_T66 l0_1 x14_1).f0), .int .i64 ((rd_T66 l0_1 x14_1).f1), .int .i64 0]) ?_ 2 _ rfl; refine Sh.pl ?_; refine blk_put (cs := #[.int .i64 ((rd_T66 l0_1 x14_1).f0), .int .i64 0, .int .i64 0]) ?_ 1 _ rfl; refine Sh.pl ?_; refine blk_put (cs := #[.int .i64 0, .int .i64 0, .int .i64 0]) ?_ 0 _ rfl; refine Sh.pl ?_; exact BK311.out) hg (Kd.R_ne HO_5.out BK311.out (by decide))); have n2_ := am_ hb; have n3_ := am_ ho; clear BK306; clear BK311; clear HB; clear HO_5; have BK306 := n0_; have BK311 := n1_; have HB := n2_; have HO320 := n3_; clear n0_ n1_ n2_ n3_; clear ho hb hg hat)); try go_wp2_with (first | ((with_reducible refine Sh.d 7 ?_); refine Sh.bx (N := 7) (cs := #[.int .i64 0, .int .i64 0, .int .i64 0]) (t := 66) (h := ?_); intro gb311 hg w27 hbox hb; replace HO_5 := am_ (Kd.R_below (Sh.rl HO_5.out) hb); have BK311 := am_ hbox; have GE311 := Sh.ag w hg; replace HB := Sh.hb hb; have NB306_311 := am_ (Sh.nl hg BK306.out); have NB311_306 := am_ (Sh.ng hg BK306.out); replace BK306 := Sh.ab BK306 hb; clear hb hbox hg; have hnb28 := NB311_306.out; have hnc28 := NB306_311.out; obtain ⟨hcz29_0, hcz29_1, hcz29_2, hfz29_0, hfz29_1, hfz29_2⟩ := Sh.b3 BK311.out; obtain ⟨Ao30, co30, eo30⟩ := Kd.R_slice HO_5.out; subst eo30; have p316 : 0 ≤ (((rd_T66 l0_1 x14_1).f1) : Int) := Sh.od; have q316 : ((rd_T66 l0_1 x14_1).f1) < (x5_1.length : Int) := Sh.od; obtain ⟨ad316, e316, hx316_0⟩ := Kd.at_bool (Kd.R_reads' HO_5.out).2.2 ((rd_T66 l0_1 x14_1).f1) p316 q316; (try rw [← Nbq22.out] at hx316_0); cases e316; have hn316_0 : ad316.block ≠ gb311 := Kd.own_blk (Kd.R_ne HO_5.out BK311.out (by decide)); have hn316_1 : ad316.block ≠ gb311 := Kd.own_blk (Kd.R_ne HO_5.out BK311.out (by decide)); have hn316_2 : ad316.block ≠ gb311 := Kd.own_blk (Kd.R_ne HO_5.out BK311.out (by decide)); replace hx316_0 := (cell_far (p := ⟨gb311, 0, none⟩) (by first | (rw [add_block]; exact hn316_0) | (show (Addr.add _ _).block ≠ _; rw [add_block]; exact hn316_0) | exact hn316_0) (.int .i64 ((rd_T66 l0_1 x14_1).f0))).trans hx316_0; replace hx316_0 := (cell_far (p := ⟨gb311, 1, none⟩) (by first | (rw [add_block]; exact hn316_1) | (show (Addr.add _ _).block ≠ _; rw [add_block]; exact hn316_1) | exact hn316_1) (.int .i64 ((rd_T66 l0_1 x14_1).f1))).trans hx316_0; replace hx316_0 := (cell_far (p := ⟨gb311, 2, none⟩) (by first | (rw [add_block]; exact hn316_2) | (show (Addr.add _ _).block ≠ _; rw [add_block]; exact hn316_2) | exact hn316_2) (.int .i64 ((rd_T66 l0_1 x14_1).f2))).trans hx316_0; (try have hy316_0 := fun (n_ : Nat) => (show (((((w27.drewN n_).setCell ⟨gb311, 0, none⟩ (.int .i64 ((rd_T66 l0_1 x14_1).f0))).setCell ⟨gb311, 1, none⟩ (.int .i64 ((rd_T66 l0_1 x14_1).f1))).setCell ⟨gb311, 2, none⟩ (.int .i64 ((rd_T66 l0_1 x14_1).f2)))).cell? _ = some _ from hx316_0)); clear hn316_0; clear hn316_1; clear hn316_2; replace p316 := eq_true p316; replace q316 := eq_true q316; have p317 : 0 ≤ (((rd_T66 l0_1 x14_1).f2) : Int) := Sh.od; have q317 : ((rd_T66 l0_1 x14_1).f2) < (x5_1.length : Int) := Sh.od; obtain ⟨ad317, e317, hx317_0⟩ := Kd.at_bool (Kd.R_reads' HO_5.out).2.2 ((rd_T66 l0_1 x14_1).f2) p317 q317; (try rw [← Nbq22.out] at hx317_0); obtain rfl : ad316 = ad317 := (by injection e317); have hn317_0 : ad316.block ≠ gb311 := Kd.own_blk (Kd.R_ne HO_5.out BK311.out (by decide)); have hn317_1 : ad316.block ≠ gb311 := Kd.own_blk (Kd.R_ne HO_5.out BK311.out (by decide)); have hn317_2 : ad316.block ≠ gb311 := Kd.own_blk (Kd.R_ne HO_5.out BK311.out (by decide)); replace hx317_0 := (cell_far (p := ⟨gb311, 0, none⟩) (by first | (rw [add_block]; exact hn317_0) | (show (Addr.add _ _).block ≠ _; rw [add_block]; exact hn317_0) | exact hn317_0) (.int .i64 ((rd_T66 l0_1 x14_1).f0))).trans hx317_0; replace hx317_0 := (cell_far (p := ⟨gb311, 1, none⟩) (by first | (rw [add_block]; exact hn317_1) | (show (Addr.add _ _).block ≠ _; rw [add_block]; exact hn317_1) | exact hn317_1) (.int .i64 ((rd_T66 l0_1 x14_1).f1))).trans hx317_0; replace hx317_0 := (cell_far (p := ⟨gb311, 2, none⟩) (by first | (rw [add_block]; exact hn317_2) | (show (Addr.add _ _).block ≠ _; rw [add_block]; exact hn317_2) | exact hn317_2) (.int .i64 ((rd_T66 l0_1 x14_1).f2))).trans hx317_0; (try have hy317_0 := fun (n_ : Nat) => (show (((((w27.drewN n_).setCell ⟨gb311, 0, none⟩ (.int .i64 ((rd_T66 l0_1 x14_1).f0))).setCell ⟨gb311, 1, none⟩ (.int .i64 ((rd_T66 l0_1 x14_1).f1))).setCell ⟨gb311, 2, none⟩ (.int .i64 ((rd_T66 l0_1 x14_1).f2)))).cell? _ = some _ from hx317_0)); clear hn317_0; clear hn317_1; clear hn317_2; replace p317 := eq_true p317; replace q317 := eq_true q317) | ((with_reducible refine gate_builtin (b := .append) (xs := #[.tmp 72, .tmp 74]) rfl ?_); at_builtin; refine Kd.R_append Kd.bool (w0 := w) w.heap.size rfl (.tmp 72) (.tmp 74) 35 4 (.bool false) 1 rfl Try.underlying35 info4 rfl (by decide) (by omega) (.slice (some ad316) x5_1.length co30) x5_1 (rdOf false x5_1 ((rd_T66 l0_1 x14_1).f2)) [.bool (rdOf false x5_1 ((rd_T66 l0_1 x14_1).f2))] (fun _ => True) (fun _ => False) rfl (by first | (go_simp; done) | (go_simp; rfl) | (refine Eq.trans (b := Value.slice (some ⟨_, 0, none⟩) 1 1) rfl ?_; simp [World.setCell])) ?aP (fun _ hk => hk.elim) ?aF ?aO ?aB ?aS ?aL ?_; (case aP => exact rfl); (case aB => exact Sh.bw); (case aF => exact (fun _ _ => trivial)); (case aO => exact (Sh.rl (Kd.R_mono (Kd.R_far (p := ⟨gb311, 2, none⟩) (Kd.R_far (p := ⟨gb311, 1, none⟩) (Kd.R_far (p := ⟨gb311, 0, none⟩) (Kd.R_types HO_5.out BK311.out (by decide)) (fun _ hk => hk.2) (.int .i64 ((rd_T66 l0_1 x14_1).f0))) (fun _ hk => hk.2) (.int .i64 ((rd_T66 l0_1 x14_1).f1))) (fun _ hk => hk.2) (.int .i64 ((rd_T66 l0_1 x14_1).f2))) (fun _ hk => trivial)))); (case aS => exact (below_size Sh.bw)); (case aL => have := LMc26.out; omega); intro v319 w31 ho hb hg hat; rw [← Ny318.out] at ho; have n0_ := am_ (blk_grown (g := gb306) (o := .cells #[.int .i64 a0_0, .slice (some ad310) l0_1.length c0_1, .slice A0_2 l0_2.length c0_2] 27 (0, 0)) (by refine Sh.pl ?_; refine blk_far ?_ NB306_311.out _; refine Sh.pl ?_; refine blk_far ?_ NB306_311.out _; refine Sh.pl ?_; refine blk_far ?_ NB306_311.out _; refine Sh.pl ?_; exact BK306.out) hg (Kd.R_ne HO_5.out BK306.out (by decide))); have n1_ := am_ (blk_grown (g := gb311) (o := .cells #[.int .i64 ((rd_T66 l0_1 x14_1).f0), .int .i64 ((rd_T66 l0_1 x14_1).f1), .int .i64 ((rd_T66 l0_1 x14_1).f2)] 66 (0, 0)) (by refine Sh.pl ?_; refine blk_put (cs := #[.int .i64 ((rd_T66 l0_1 x14_1).f0), .int .i64 ((rd_T66 l0_1 x14_1).f1), .int .i64 0]) ?_ 2 _ rfl; refine Sh.pl ?_; refine blk_put (cs := #[.int .i64 ((rd_T66 l0_1 x14_1).f0), .int .i64 0, .int .i64 0]) ?_ 1 _ rfl; refine Sh.pl ?_; refine blk_put (cs := #[.int .i64 0, .int .i64 0, .int .i64 0]) ?_ 0 _ rfl; refine Sh.pl ?_; exact BK311.out) hg (Kd.R_ne HO_5.out BK311.out (by decide))); have n2_ := am_ hb; have n3_ := am_ ho; clear BK306; clear BK311; clear HB; clear HO_5; have BK306 := n0_; have BK311 := n1_; have HB := n2_; have HO320 := n3_; clear n0_ n1_ n2_ n3_; clear ho hb hg hat)))
              go_roundg k1
              case measure => have := HK1.out; omega
              case rel => exact ⟨(y318), (wrap64 (x14_1 + 1)), (Sh.es), H', ⟨by have := HK1.out; omega⟩, ⟨Sh.rl HO320.out⟩, ⟨by refine Sh.pl ?_; exact BK306.out⟩, ⟨Sh.bw⟩⟩
             ·rw [if_neg c26] at H
              exact absurd H (by simp)
            ·rw [if_neg c25] at H
             exact absurd H (by simp)
           ·rw [if_neg c24] at H
            exact absurd H (by simp)
          ·replace c23 := Bool.eq_false_iff.mpr c23
           subst c23
           rw [Sh.nf] at H
           by_cases c32 : x5_1.length < 140737488355328
           ·rw [if_pos c32] at H
            have LMc32 := am_ c32
            clear c32
            obtain ⟨y321, hy321⟩ : ∃ y_ : List Bool, y_ = (x5_1 ++ [false]) := ⟨_, rfl⟩
            replace H : (impl_Circuit_allWires.l0 k1 y321 l0_1 (l0_1.length : Int) (wrap64 (x14_1 + 1))) = some r := by first | (rw [hy321]; with_reducible exact H) | (have H2_ := (Option.bind_some _ _).symm.trans H; rw [hy321]; with_reducible exact H2_) | (have H2_ := (Option.bind_some _ _).symm.trans H; with_reducible exact H2_) | with_reducible exact H | (rw [hy321]; exact H) | exact H
            have Ny321 := am_ hy321
            clear hy321
            have H' := am_ H
            clear H
            have p310 : 0 ≤ (x14_1 : Int) := Sh.od
            have q310 : x14_1 < (l0_1.length : Int) := Sh.od
            obtain ⟨ad310, e310, hx310_0, hx310_1, hx310_2⟩ := at_T66 HR0_1.out x14_1 p310 q310
            cases e310
            try replace hx310_0 := Sh.cw hx310_0
            try replace hx310_1 := Sh.cw hx310_1
            try replace hx310_2 := Sh.cw hx310_2
            replace p310 := eq_true p310
            replace q310 := eq_true q310
            go_wp2_with (first | ((with_reducible refine Sh.d 7 ?_); refine Sh.bx (N := 7) (cs := #[.int .i64 0, .int .i64 0, .int .i64 0]) (t := 66) (h := ?_); intro gb311 hg w33 hbox hb; replace HO_5 := am_ (Kd.R_below (Sh.rl HO_5.out) hb); have BK311 := am_ hbox; have GE311 := Sh.ag w hg; replace HB := Sh.hb hb; have NB306_311 := am_ (Sh.nl hg BK306.out); have NB311_306 := am_ (Sh.ng hg BK306.out); replace BK306 := Sh.ab BK306 hb; clear hb hbox hg; have hnb34 := NB311_306.out; have hnc34 := NB306_311.out; obtain ⟨hcz35_0, hcz35_1, hcz35_2, hfz35_0, hfz35_1, hfz35_2⟩ := Sh.b3 BK311.out; obtain ⟨Ao36, co36, eo36⟩ := Kd.R_slice HO_5.out; subst eo36; have p316 : 0 ≤ (((rd_T66 l0_1 x14_1).f1) : Int) := Sh.od; have q316 : ((rd_T66 l0_1 x14_1).f1) < (x5_1.length : Int) := Sh.od; obtain ⟨ad316, e316, hx316_0⟩ := Kd.at_bool (Kd.R_reads' HO_5.out).2.2 ((rd_T66 l0_1 x14_1).f1) p316 q316; (try rw [← Nbq22.out] at hx316_0); cases e316; have hn316_0 : ad316.block ≠ gb311 := Kd.own_blk (Kd.R_ne HO_5.out BK311.out (by decide)); have hn316_1 : ad316.block ≠ gb311 := Kd.own_blk (Kd.R_ne HO_5.out BK311.out (by decide)); have hn316_2 : ad316.block ≠ gb311 := Kd.own_blk (Kd.R_ne HO_5.out BK311.out (by decide)); replace hx316_0 := (cell_far (p := ⟨gb311, 0, none⟩) (by first | (rw [add_block]; exact hn316_0) | (show (Addr.add _ _).block ≠ _; rw [add_block]; exact hn316_0) | exact hn316_0) (.int .i64 ((rd_T66 l0_1 x14_1).f0))).trans hx316_0; replace hx316_0 := (cell_far (p := ⟨gb311, 1, none⟩) (by first | (rw [add_block]; exact hn316_1) | (show (Addr.add _ _).block ≠ _; rw [add_block]; exact hn316_1) | exact hn316_1) (.int .i64 ((rd_T66 l0_1 x14_1).f1))).trans hx316_0; replace hx316_0 := (cell_far (p := ⟨gb311, 2, none⟩) (by first | (rw [add_block]; exact hn316_2) | (show (Addr.add _ _).block ≠ _; rw [add_block]; exact hn316_2) | exact hn316_2) (.int .i64 ((rd_T66 l0_1 x14_1).f2))).trans hx316_0; (try have hy316_0 := fun (n_ : Nat) => (show (((((w33.drewN n_).setCell ⟨gb311, 0, none⟩ (.int .i64 ((rd_T66 l0_1 x14_1).f0))).setCell ⟨gb311, 1, none⟩ (.int .i64 ((rd_T66 l0_1 x14_1).f1))).setCell ⟨gb311, 2, none⟩ (.int .i64 ((rd_T66 l0_1 x14_1).f2)))).cell? _ = some _ from hx316_0)); clear hn316_0; clear hn316_1; clear hn316_2; replace p316 := eq_true p316; replace q316 := eq_true q316) | ((with_reducible refine gate_builtin (b := .append) (xs := #[.tmp 72, .tmp 74]) rfl ?_); at_builtin; refine Kd.R_append Kd.bool (w0 := w) w.heap.size rfl (.tmp 72) (.tmp 74) 35 4 (.bool false) 1 rfl Try.underlying35 info4 rfl (by decide) (by omega) (.slice (some ad316) x5_1.length co36) x5_1 false [.bool false] (fun _ => True) (fun _ => False) rfl (by first | (go_simp; done) | (go_simp; rfl) | (refine Eq.trans (b := Value.slice (some ⟨_, 0, none⟩) 1 1) rfl ?_; simp [World.setCell])) ?aP (fun _ hk => hk.elim) ?aF ?aO ?aB ?aS ?aL ?_; (case aP => exact rfl); (case aB => exact Sh.bw); (case aF => exact (fun _ _ => trivial)); (case aO => exact (Sh.rl (Kd.R_mono (Kd.R_far (p := ⟨gb311, 2, none⟩) (Kd.R_far (p := ⟨gb311, 1, none⟩) (Kd.R_far (p := ⟨gb311, 0, none⟩) (Kd.R_types HO_5.out BK311.out (by decide)) (fun _ hk => hk.2) (.int .i64 ((rd_T66 l0_1 x14_1).f0))) (fun _ hk => hk.2) (.int .i64 ((rd_T66 l0_1 x14_1).f1))) (fun _ hk => hk.2) (.int .i64 ((rd_T66 l0_1 x14_1).f2))) (fun _ hk => trivial)))); (case aS => exact (below_size Sh.bw)); (case aL => have := LMc32.out; omega); intro v322 w37 ho hb hg hat; rw [← Ny321.out] at ho; have n0_ := am_ (blk_grown (g := gb306) (o := .cells #[.int .i64 a0_0, .slice (some ad310) l0_1.length c0_1, .slice A0_2 l0_2.length c0_2] 27 (0, 0)) (by refine Sh.pl ?_; refine blk_far ?_ NB306_311.out _; refine Sh.pl ?_; refine blk_far ?_ NB306_311.out _; refine Sh.pl ?_; refine blk_far ?_ NB306_311.out _; refine Sh.pl ?_; exact BK306.out) hg (Kd.R_ne HO_5.out BK306.out (by decide))); have n1_ := am_ (blk_grown (g := gb311) (o := .cells #[.int .i64 ((rd_T66 l0_1 x14_1).f0), .int .i64 ((rd_T66 l0_1 x14_1).f1), .int .i64 ((rd_T66 l0_1 x14_1).f2)] 66 (0, 0)) (by refine Sh.pl ?_; refine blk_put (cs := #[.int .i64 ((rd_T66 l0_1 x14_1).f0), .int .i64 ((rd_T66 l0_1 x14_1).f1), .int .i64 0]) ?_ 2 _ rfl; refine Sh.pl ?_; refine blk_put (cs := #[.int .i64 ((rd_T66 l0_1 x14_1).f0), .int .i64 0, .int .i64 0]) ?_ 1 _ rfl; refine Sh.pl ?_; refine blk_put (cs := #[.int .i64 0, .int .i64 0, .int .i64 0]) ?_ 0 _ rfl; refine Sh.pl ?_; exact BK311.out) hg (Kd.R_ne HO_5.out BK311.out (by decide))); have n2_ := am_ hb; have n3_ := am_ ho; clear BK306; clear BK311; clear HB; clear HO_5; have BK306 := n0_; have BK311 := n1_; have HB := n2_; have HO323 := n3_; clear n0_ n1_ n2_ n3_; clear ho hb hg hat))
            repeat (go_quiet (first | ((with_reducible refine Sh.d 7 ?_); refine Sh.bx (N := 7) (cs := #[.int .i64 0, .int .i64 0, .int .i64 0]) (t := 66) (h := ?_); intro gb311 hg w33 hbox hb; replace HO_5 := am_ (Kd.R_below (Sh.rl HO_5.out) hb); have BK311 := am_ hbox; have GE311 := Sh.ag w hg; replace HB := Sh.hb hb; have NB306_311 := am_ (Sh.nl hg BK306.out); have NB311_306 := am_ (Sh.ng hg BK306.out); replace BK306 := Sh.ab BK306 hb; clear hb hbox hg; have hnb34 := NB311_306.out; have hnc34 := NB306_311.out; obtain ⟨hcz35_0, hcz35_1, hcz35_2, hfz35_0, hfz35_1, hfz35_2⟩ := Sh.b3 BK311.out; obtain ⟨Ao36, co36, eo36⟩ := Kd.R_slice HO_5.out; subst eo36; have p316 : 0 ≤ (((rd_T66 l0_1 x14_1).f1) : Int) := Sh.od; have q316 : ((rd_T66 l0_1 x14_1).f1) < (x5_1.length : Int) := Sh.od; obtain ⟨ad316, e316, hx316_0⟩ := Kd.at_bool (Kd.R_reads' HO_5.out).2.2 ((rd_T66 l0_1 x14_1).f1) p316 q316; (try rw [← Nbq22.out] at hx316_0); cases e316; have hn316_0 : ad316.block ≠ gb311 := Kd.own_blk (Kd.R_ne HO_5.out BK311.out (by decide)); have hn316_1 : ad316.block ≠ gb311 := Kd.own_blk (Kd.R_ne HO_5.out BK311.out (by decide)); have hn316_2 : ad316.block ≠ gb311 := Kd.own_blk (Kd.R_ne HO_5.out BK311.out (by decide)); replace hx316_0 := (cell_far (p := ⟨gb311, 0, none⟩) (by first | (rw [add_block]; exact hn316_0) | (show (Addr.add _ _).block ≠ _; rw [add_block]; exact hn316_0) | exact hn316_0) (.int .i64 ((rd_T66 l0_1 x14_1).f0))).trans hx316_0; replace hx316_0 := (cell_far (p := ⟨gb311, 1, none⟩) (by first | (rw [add_block]; exact hn316_1) | (show (Addr.add _ _).block ≠ _; rw [add_block]; exact hn316_1) | exact hn316_1) (.int .i64 ((rd_T66 l0_1 x14_1).f1))).trans hx316_0; replace hx316_0 := (cell_far (p := ⟨gb311, 2, none⟩) (by first | (rw [add_block]; exact hn316_2) | (show (Addr.add _ _).block ≠ _; rw [add_block]; exact hn316_2) | exact hn316_2) (.int .i64 ((rd_T66 l0_1 x14_1).f2))).trans hx316_0; (try have hy316_0 := fun (n_ : Nat) => (show (((((w33.drewN n_).setCell ⟨gb311, 0, none⟩ (.int .i64 ((rd_T66 l0_1 x14_1).f0))).setCell ⟨gb311, 1, none⟩ (.int .i64 ((rd_T66 l0_1 x14_1).f1))).setCell ⟨gb311, 2, none⟩ (.int .i64 ((rd_T66 l0_1 x14_1).f2)))).cell? _ = some _ from hx316_0)); clear hn316_0; clear hn316_1; clear hn316_2; replace p316 := eq_true p316; replace q316 := eq_true q316) | ((with_reducible refine gate_builtin (b := .append) (xs := #[.tmp 72, .tmp 74]) rfl ?_); at_builtin; refine Kd.R_append Kd.bool (w0 := w) w.heap.size rfl (.tmp 72) (.tmp 74) 35 4 (.bool false) 1 rfl Try.underlying35 info4 rfl (by decide) (by omega) (.slice (some ad316) x5_1.length co36) x5_1 false [.bool false] (fun _ => True) (fun _ => False) rfl (by first | (go_simp; done) | (go_simp; rfl) | (refine Eq.trans (b := Value.slice (some ⟨_, 0, none⟩) 1 1) rfl ?_; simp [World.setCell])) ?aP (fun _ hk => hk.elim) ?aF ?aO ?aB ?aS ?aL ?_; (case aP => exact rfl); (case aB => exact Sh.bw); (case aF => exact (fun _ _ => trivial)); (case aO => exact (Sh.rl (Kd.R_mono (Kd.R_far (p := ⟨gb311, 2, none⟩) (Kd.R_far (p := ⟨gb311, 1, none⟩) (Kd.R_far (p := ⟨gb311, 0, none⟩) (Kd.R_types HO_5.out BK311.out (by decide)) (fun _ hk => hk.2) (.int .i64 ((rd_T66 l0_1 x14_1).f0))) (fun _ hk => hk.2) (.int .i64 ((rd_T66 l0_1 x14_1).f1))) (fun _ hk => hk.2) (.int .i64 ((rd_T66 l0_1 x14_1).f2))) (fun _ hk => trivial)))); (case aS => exact (below_size Sh.bw)); (case aL => have := LMc32.out; omega); intro v322 w37 ho hb hg hat; rw [← Ny321.out] at ho; have n0_ := am_ (blk_grown (g := gb306) (o := .cells #[.int .i64 a0_0, .slice (some ad310) l0_1.length c0_1, .slice A0_2 l0_2.length c0_2] 27 (0, 0)) (by refine Sh.pl ?_; refine blk_far ?_ NB306_311.out _; refine Sh.pl ?_; refine blk_far ?_ NB306_311.out _; refine Sh.pl ?_; refine blk_far ?_ NB306_311.out _; refine Sh.pl ?_; exact BK306.out) hg (Kd.R_ne HO_5.out BK306.out (by decide))); have n1_ := am_ (blk_grown (g := gb311) (o := .cells #[.int .i64 ((rd_T66 l0_1 x14_1).f0), .int .i64 ((rd_T66 l0_1 x14_1).f1), .int .i64 ((rd_T66 l0_1 x14_1).f2)] 66 (0, 0)) (by refine Sh.pl ?_; refine blk_put (cs := #[.int .i64 ((rd_T66 l0_1 x14_1).f0), .int .i64 ((rd_T66 l0_1 x14_1).f1), .int .i64 0]) ?_ 2 _ rfl; refine Sh.pl ?_; refine blk_put (cs := #[.int .i64 ((rd_T66 l0_1 x14_1).f0), .int .i64 0, .int .i64 0]) ?_ 1 _ rfl; refine Sh.pl ?_; refine blk_put (cs := #[.int .i64 0, .int .i64 0, .int .i64 0]) ?_ 0 _ rfl; refine Sh.pl ?_; exact BK311.out) hg (Kd.R_ne HO_5.out BK311.out (by decide))); have n2_ := am_ hb; have n3_ := am_ ho; clear BK306; clear BK311; clear HB; clear HO_5; have BK306 := n0_; have BK311 := n1_; have HB := n2_; have HO323 := n3_; clear n0_ n1_ n2_ n3_; clear ho hb hg hat)); try go_wp2_with (first | ((with_reducible refine Sh.d 7 ?_); refine Sh.bx (N := 7) (cs := #[.int .i64 0, .int .i64 0, .int .i64 0]) (t := 66) (h := ?_); intro gb311 hg w33 hbox hb; replace HO_5 := am_ (Kd.R_below (Sh.rl HO_5.out) hb); have BK311 := am_ hbox; have GE311 := Sh.ag w hg; replace HB := Sh.hb hb; have NB306_311 := am_ (Sh.nl hg BK306.out); have NB311_306 := am_ (Sh.ng hg BK306.out); replace BK306 := Sh.ab BK306 hb; clear hb hbox hg; have hnb34 := NB311_306.out; have hnc34 := NB306_311.out; obtain ⟨hcz35_0, hcz35_1, hcz35_2, hfz35_0, hfz35_1, hfz35_2⟩ := Sh.b3 BK311.out; obtain ⟨Ao36, co36, eo36⟩ := Kd.R_slice HO_5.out; subst eo36; have p316 : 0 ≤ (((rd_T66 l0_1 x14_1).f1) : Int) := Sh.od; have q316 : ((rd_T66 l0_1 x14_1).f1) < (x5_1.length : Int) := Sh.od; obtain ⟨ad316, e316, hx316_0⟩ := Kd.at_bool (Kd.R_reads' HO_5.out).2.2 ((rd_T66 l0_1 x14_1).f1) p316 q316; (try rw [← Nbq22.out] at hx316_0); cases e316; have hn316_0 : ad316.block ≠ gb311 := Kd.own_blk (Kd.R_ne HO_5.out BK311.out (by decide)); have hn316_1 : ad316.block ≠ gb311 := Kd.own_blk (Kd.R_ne HO_5.out BK311.out (by decide)); have hn316_2 : ad316.block ≠ gb311 := Kd.own_blk (Kd.R_ne HO_5.out BK311.out (by decide)); replace hx316_0 := (cell_far (p := ⟨gb311, 0, none⟩) (by first | (rw [add_block]; exact hn316_0) | (show (Addr.add _ _).block ≠ _; rw [add_block]; exact hn316_0) | exact hn316_0) (.int .i64 ((rd_T66 l0_1 x14_1).f0))).trans hx316_0; replace hx316_0 := (cell_far (p := ⟨gb311, 1, none⟩) (by first | (rw [add_block]; exact hn316_1) | (show (Addr.add _ _).block ≠ _; rw [add_block]; exact hn316_1) | exact hn316_1) (.int .i64 ((rd_T66 l0_1 x14_1).f1))).trans hx316_0; replace hx316_0 := (cell_far (p := ⟨gb311, 2, none⟩) (by first | (rw [add_block]; exact hn316_2) | (show (Addr.add _ _).block ≠ _; rw [add_block]; exact hn316_2) | exact hn316_2) (.int .i64 ((rd_T66 l0_1 x14_1).f2))).trans hx316_0; (try have hy316_0 := fun (n_ : Nat) => (show (((((w33.drewN n_).setCell ⟨gb311, 0, none⟩ (.int .i64 ((rd_T66 l0_1 x14_1).f0))).setCell ⟨gb311, 1, none⟩ (.int .i64 ((rd_T66 l0_1 x14_1).f1))).setCell ⟨gb311, 2, none⟩ (.int .i64 ((rd_T66 l0_1 x14_1).f2)))).cell? _ = some _ from hx316_0)); clear hn316_0; clear hn316_1; clear hn316_2; replace p316 := eq_true p316; replace q316 := eq_true q316) | ((with_reducible refine gate_builtin (b := .append) (xs := #[.tmp 72, .tmp 74]) rfl ?_); at_builtin; refine Kd.R_append Kd.bool (w0 := w) w.heap.size rfl (.tmp 72) (.tmp 74) 35 4 (.bool false) 1 rfl Try.underlying35 info4 rfl (by decide) (by omega) (.slice (some ad316) x5_1.length co36) x5_1 false [.bool false] (fun _ => True) (fun _ => False) rfl (by first | (go_simp; done) | (go_simp; rfl) | (refine Eq.trans (b := Value.slice (some ⟨_, 0, none⟩) 1 1) rfl ?_; simp [World.setCell])) ?aP (fun _ hk => hk.elim) ?aF ?aO ?aB ?aS ?aL ?_; (case aP => exact rfl); (case aB => exact Sh.bw); (case aF => exact (fun _ _ => trivial)); (case aO => exact (Sh.rl (Kd.R_mono (Kd.R_far (p := ⟨gb311, 2, none⟩) (Kd.R_far (p := ⟨gb311, 1, none⟩) (Kd.R_far (p := ⟨gb311, 0, none⟩) (Kd.R_types HO_5.out BK311.out (by decide)) (fun _ hk => hk.2) (.int .i64 ((rd_T66 l0_1 x14_1).f0))) (fun _ hk => hk.2) (.int .i64 ((rd_T66 l0_1 x14_1).f1))) (fun _ hk => hk.2) (.int .i64 ((rd_T66 l0_1 x14_1).f2))) (fun _ hk => trivial)))); (case aS => exact (below_size Sh.bw)); (case aL => have := LMc32.out; omega); intro v322 w37 ho hb hg hat; rw [← Ny321.out] at ho; have n0_ := am_ (blk_grown (g := gb306) (o := .cells #[.int .i64 a0_0, .slice (some ad310) l0_1.length c0_1, .slice A0_2 l0_2.length c0_2] 27 (0, 0)) (by refine Sh.pl ?_; refine blk_far ?_ NB306_311.out _; refine Sh.pl ?_; refine blk_far ?_ NB306_311.out _; refine Sh.pl ?_; refine blk_far ?_ NB306_311.out _; refine Sh.pl ?_; exact BK306.out) hg (Kd.R_ne HO_5.out BK306.out (by decide))); have n1_ := am_ (blk_grown (g := gb311) (o := .cells #[.int .i64 ((rd_T66 l0_1 x14_1).f0), .int .i64 ((rd_T66 l0_1 x14_1).f1), .int .i64 ((rd_T66 l0_1 x14_1).f2)] 66 (0, 0)) (by refine Sh.pl ?_; refine blk_put (cs := #[.int .i64 ((rd_T66 l0_1 x14_1).f0), .int .i64 ((rd_T66 l0_1 x14_1).f1), .int .i64 0]) ?_ 2 _ rfl; refine Sh.pl ?_; refine blk_put (cs := #[.int .i64 ((rd_T66 l0_1 x14_1).f0), .int .i64 0, .int .i64 0]) ?_ 1 _ rfl; refine Sh.pl ?_; refine blk_put (cs := #[.int .i64 0, .int .i64 0, .int .i64 0]) ?_ 0 _ rfl; refine Sh.pl ?_; exact BK311.out) hg (Kd.R_ne HO_5.out BK311.out (by decide))); have n2_ := am_ hb; have n3_ := am_ ho; clear BK306; clear BK311; clear HB; clear HO_5; have BK306 := n0_; have BK311 := n1_; have HB := n2_; have HO323 := n3_; clear n0_ n1_ n2_ n3_; clear ho hb hg hat)))
            go_roundg k1
            case measure => have := HK1.out; omega
            case rel => exact ⟨(y321), (wrap64 (x14_1 + 1)), (Sh.es), H', ⟨by have := HK1.out; omega⟩, ⟨Sh.rl HO323.out⟩, ⟨by refine Sh.pl ?_; exact BK306.out⟩, ⟨Sh.bw⟩⟩
           ·rw [if_neg c32] at H
            exact absurd H (by simp)
         ·rw [if_neg c21] at H
          exact absurd H (by simp)
        ·rw [if_neg c20] at H
         exact absurd H (by simp)
       ·rw [if_neg c19] at H
        have c19b0 : (((rd_T66 l0_1 x14_1).f0) == 3) = false := beq_eq_false_iff_ne.mpr c19
        have c19b1 : (((rd_T66 l0_1 x14_1).f0) != 3) = true := bne_iff_ne.mpr c19
        by_cases c38 : ((rd_T66 l0_1 x14_1).f0) = 4
        ·rw [if_pos c38] at H
         have c38b0 : (((rd_T66 l0_1 x14_1).f0) == 4) = true := beq_iff_eq.mpr c38
         have c38b1 : (((rd_T66 l0_1 x14_1).f0) != 4) = false := bne_eq_false_iff_eq.mpr c38
         clear c38
         by_cases c39 : 0 ≤ ((rd_T66 l0_1 x14_1).f1)
         ·rw [if_pos c39] at H
          have c39b0 := decide_eq_true c39
          clear c39
          by_cases c40 : ((rd_T66 l0_1 x14_1).f1) < (x5_1.length : Int)
          ·rw [if_pos c40] at H
           have c40b0 := decide_eq_true c40
           clear c40
           obtain ⟨bq41, hbq41⟩ : ∃ b_ : Bool, b_ = (rdOf false x5_1 ((rd_T66 l0_1 x14_1).f1)) := ⟨_, rfl⟩
           replace H : (if bq41 = true then (if x5_1.length < 140737488355328 then (impl_Circuit_allWires.l0 k1 (x5_1 ++ [true]) l0_1 (l0_1.length : Int) (wrap64 (x14_1 + 1))) else (none)) else (if 0 ≤ ((rd_T66 l0_1 x14_1).f2) then (if ((rd_T66 l0_1 x14_1).f2) < (x5_1.length : Int) then (if x5_1.length < 140737488355328 then (impl_Circuit_allWires.l0 k1 (x5_1 ++ [rdOf false x5_1 ((rd_T66 l0_1 x14_1).f2)]) l0_1 (l0_1.length : Int) (wrap64 (x14_1 + 1))) else (none)) else (none)) else (none))) = some r := by rw [← hbq41] at H; exact H
           have Nbq41 := am_ hbq41
           clear hbq41
           by_cases c42 : bq41 = true
           ·subst c42
            rw [if_pos rfl] at H
            by_cases c43 : x5_1.length < 140737488355328
            ·rw [if_pos c43] at H
             have LMc43 := am_ c43
             clear c43
             obtain ⟨y325, hy325⟩ : ∃ y_ : List Bool, y_ = (x5_1 ++ [true]) := ⟨_, rfl⟩
             replace H : (impl_Circuit_allWires.l0 k1 y325 l0_1 (l0_1.length : Int) (wrap64 (x14_1 + 1))) = some r := by first | (rw [hy325]; with_reducible exact H) | (have H2_ := (Option.bind_some _ _).symm.trans H; rw [hy325]; with_reducible exact H2_) | (have H2_ := (Option.bind_some _ _).symm.trans H; with_reducible exact H2_) | with_reducible exact H | (rw [hy325]; exact H) | exact H
             have Ny325 := am_ hy325
             clear hy325
             have H' := am_ H
             clear H
             have p310 : 0 ≤ (x14_1 : Int) := Sh.od
             have q310 : x14_1 < (l0_1.length : Int) := Sh.od
             obtain ⟨ad310, e310, hx310_0, hx310_1, hx310_2⟩ := at_T66 HR0_1.out x14_1 p310 q310
             cases e310
             try replace hx310_0 := Sh.cw hx310_0
             try replace hx310_1 := Sh.cw hx310_1
             try replace hx310_2 := Sh.cw hx310_2
             replace p310 := eq_true p310
             replace q310 := eq_true q310
             go_wp2_with (first | ((with_reducible refine Sh.d 7 ?_); refine Sh.bx (N := 7) (cs := #[.int .i64 0, .int .i64 0, .int .i64 0]) (t := 66) (h := ?_); intro gb311 hg w44 hbox hb; replace HO_5 := am_ (Kd.R_below (Sh.rl HO_5.out) hb); have BK311 := am_ hbox; have GE311 := Sh.ag w hg; replace HB := Sh.hb hb; have NB306_311 := am_ (Sh.nl hg BK306.out); have NB311_306 := am_ (Sh.ng hg BK306.out); replace BK306 := Sh.ab BK306 hb; clear hb hbox hg; have hnb45 := NB311_306.out; have hnc45 := NB306_311.out; obtain ⟨hcz46_0, hcz46_1, hcz46_2, hfz46_0, hfz46_1, hfz46_2⟩ := Sh.b3 BK311.out; obtain ⟨Ao47, co47, eo47⟩ := Kd.R_slice HO_5.out; subst eo47; have p324 : 0 ≤ (((rd_T66 l0_1 x14_1).f1) : Int) := Sh.od; have q324 : ((rd_T66 l0_1 x14_1).f1) < (x5_1.length : Int) := Sh.od; obtain ⟨ad324, e324, hx324_0⟩ := Kd.at_bool (Kd.R_reads' HO_5.out).2.2 ((rd_T66 l0_1 x14_1).f1) p324 q324; (try rw [← Nbq41.out] at hx324_0); cases e324; have hn324_0 : ad324.block ≠ gb311 := Kd.own_blk (Kd.R_ne HO_5.out BK311.out (by decide)); have hn324_1 : ad324.block ≠ gb311 := Kd.own_blk (Kd.R_ne HO_5.out BK311.out (by decide)); have hn324_2 : ad324.block ≠ gb311 := Kd.own_blk (Kd.R_ne HO_5.out BK311.out (by decide)); replace hx324_0 := (cell_far (p := ⟨gb311, 0, none⟩) (by first | (rw [add_block]; exact hn324_0) | (show (Addr.add _ _).block ≠ _; rw [add_block]; exact hn324_0) | exact hn324_0) (.int .i64 ((rd_T66 l0_1 x14_1).f0))).trans hx324_0; replace hx324_0 := (cell_far (p := ⟨gb311, 1, none⟩) (by first | (rw [add_block]; exact hn324_1) | (show (Addr.add _ _).block ≠ _; rw [add_block]; exact hn324_1) | exact hn324_1) (.int .i64 ((rd_T66 l0_1 x14_1).f1))).trans hx324_0; replace hx324_0 := (cell_far (p := ⟨gb311, 2, none⟩) (by first | (rw [add_block]; exact hn324_2) | (show (Addr.add _ _).block ≠ _; rw [add_block]; exact hn324_2) | exact hn324_2) (.int .i64 ((rd_T66 l0_1 x14_1).f2))).trans hx324_0; (try have hy324_0 := fun (n_ : Nat) => (show (((((w44.drewN n_).setCell ⟨gb311, 0, none⟩ (.int .i64 ((rd_T66 l0_1 x14_1).f0))).setCell ⟨gb311, 1, none⟩ (.int .i64 ((rd_T66 l0_1 x14_1).f1))).setCell ⟨gb311, 2, none⟩ (.int .i64 ((rd_T66 l0_1 x14_1).f2)))).cell? _ = some _ from hx324_0)); clear hn324_0; clear hn324_1; clear hn324_2; replace p324 := eq_true p324; replace q324 := eq_true q324) | ((with_reducible refine gate_builtin (b := .append) (xs := #[.tmp 72, .tmp 74]) rfl ?_); at_builtin; refine Kd.R_append Kd.bool (w0 := w) w.heap.size rfl (.tmp 72) (.tmp 74) 35 4 (.bool false) 1 rfl Try.underlying35 info4 rfl (by decide) (by omega) (.slice (some ad324) x5_1.length co47) x5_1 true [.bool true] (fun _ => True) (fun _ => False) rfl (by first | (go_simp; done) | (go_simp; rfl) | (refine Eq.trans (b := Value.slice (some ⟨_, 0, none⟩) 1 1) rfl ?_; simp [World.setCell])) ?aP (fun _ hk => hk.elim) ?aF ?aO ?aB ?aS ?aL ?_; (case aP => exact rfl); (case aB => exact Sh.bw); (case aF => exact (fun _ _ => trivial)); (case aO => exact (Sh.rl (Kd.R_mono (Kd.R_far (p := ⟨gb311, 2, none⟩) (Kd.R_far (p := ⟨gb311, 1, none⟩) (Kd.R_far (p := ⟨gb311, 0, none⟩) (Kd.R_types HO_5.out BK311.out (by decide)) (fun _ hk => hk.2) (.int .i64 ((rd_T66 l0_1 x14_1).f0))) (fun _ hk => hk.2) (.int .i64 ((rd_T66 l0_1 x14_1).f1))) (fun _ hk => hk.2) (.int .i64 ((rd_T66 l0_1 x14_1).f2))) (fun _ hk => trivial)))); (case aS => exact (below_size Sh.bw)); (case aL => have := LMc43.out; omega); intro v326 w48 ho hb hg hat; rw [← Ny325.out] at ho; have n0_ := am_ (blk_grown (g := gb306) (o := .cells #[.int .i64 a0_0, .slice (some ad310) l0_1.length c0_1, .slice A0_2 l0_2.length c0_2] 27 (0, 0)) (by refine Sh.pl ?_; refine blk_far ?_ NB306_311.out _; refine Sh.pl ?_; refine blk_far ?_ NB306_311.out _; refine Sh.pl ?_; refine blk_far ?_ NB306_311.out _; refine Sh.pl ?_; exact BK306.out) hg (Kd.R_ne HO_5.out BK306.out (by decide))); have n1_ := am_ (blk_grown (g := gb311) (o := .cells #[.int .i64 ((rd_T66 l0_1 x14_1).f0), .int .i64 ((rd_T66 l0_1 x14_1).f1), .int .i64 ((rd_T66 l0_1 x14_1).f2)] 66 (0, 0)) (by refine Sh.pl ?_; refine blk_put (cs := #[.int .i64 ((rd_T66 l0_1 x14_1).f0), .int .i64 ((rd_T66 l0_1 x14_1).f1), .int .i64 0]) ?_ 2 _ rfl; refine Sh.pl ?_; refine blk_put (cs := #[.int .i64 ((rd_T66 l0_1 x14_1).f0), .int .i64 0, .int .i64 0]) ?_ 1 _ rfl; refine Sh.pl ?_; refine blk_put (cs := #[.int .i64 0, .int .i64 0, .int .i64 0]) ?_ 0 _ rfl; refine Sh.pl ?_; exact BK311.out) hg (Kd.R_ne HO_5.out BK311.out (by decide))); have n2_ := am_ hb; have n3_ := am_ ho; clear BK306; clear BK311; clear HB; clear HO_5; have BK306 := n0_; have BK311 := n1_; have HB := n2_; have HO327 := n3_; clear n0_ n1_ n2_ n3_; clear ho hb hg hat))
             repeat (go_quiet (first | ((with_reducible refine Sh.d 7 ?_); refine Sh.bx (N := 7) (cs := #[.int .i64 0, .int .i64 0, .int .i64 0]) (t := 66) (h := ?_); intro gb311 hg w44 hbox hb; replace HO_5 := am_ (Kd.R_below (Sh.rl HO_5.out) hb); have BK311 := am_ hbox; have GE311 := Sh.ag w hg; replace HB := Sh.hb hb; have NB306_311 := am_ (Sh.nl hg BK306.out); have NB311_306 := am_ (Sh.ng hg BK306.out); replace BK306 := Sh.ab BK306 hb; clear hb hbox hg; have hnb45 := NB311_306.out; have hnc45 := NB306_311.out; obtain ⟨hcz46_0, hcz46_1, hcz46_2, hfz46_0, hfz46_1, hfz46_2⟩ := Sh.b3 BK311.out; obtain ⟨Ao47, co47, eo47⟩ := Kd.R_slice HO_5.out; subst eo47; have p324 : 0 ≤ (((rd_T66 l0_1 x14_1).f1) : Int) := Sh.od; have q324 : ((rd_T66 l0_1 x14_1).f1) < (x5_1.length : Int) := Sh.od; obtain ⟨ad324, e324, hx324_0⟩ := Kd.at_bool (Kd.R_reads' HO_5.out).2.2 ((rd_T66 l0_1 x14_1).f1) p324 q324; (try rw [← Nbq41.out] at hx324_0); cases e324; have hn324_0 : ad324.block ≠ gb311 := Kd.own_blk (Kd.R_ne HO_5.out BK311.out (by decide)); have hn324_1 : ad324.block ≠ gb311 := Kd.own_blk (Kd.R_ne HO_5.out BK311.out (by decide)); have hn324_2 : ad324.block ≠ gb311 := Kd.own_blk (Kd.R_ne HO_5.out BK311.out (by decide)); replace hx324_0 := (cell_far (p := ⟨gb311, 0, none⟩) (by first | (rw [add_block]; exact hn324_0) | (show (Addr.add _ _).block ≠ _; rw [add_block]; exact hn324_0) | exact hn324_0) (.int .i64 ((rd_T66 l0_1 x14_1).f0))).trans hx324_0; replace hx324_0 := (cell_far (p := ⟨gb311, 1, none⟩) (by first | (rw [add_block]; exact hn324_1) | (show (Addr.add _ _).block ≠ _; rw [add_block]; exact hn324_1) | exact hn324_1) (.int .i64 ((rd_T66 l0_1 x14_1).f1))).trans hx324_0; replace hx324_0 := (cell_far (p := ⟨gb311, 2, none⟩) (by first | (rw [add_block]; exact hn324_2) | (show (Addr.add _ _).block ≠ _; rw [add_block]; exact hn324_2) | exact hn324_2) (.int .i64 ((rd_T66 l0_1 x14_1).f2))).trans hx324_0; (try have hy324_0 := fun (n_ : Nat) => (show (((((w44.drewN n_).setCell ⟨gb311, 0, none⟩ (.int .i64 ((rd_T66 l0_1 x14_1).f0))).setCell ⟨gb311, 1, none⟩ (.int .i64 ((rd_T66 l0_1 x14_1).f1))).setCell ⟨gb311, 2, none⟩ (.int .i64 ((rd_T66 l0_1 x14_1).f2)))).cell? _ = some _ from hx324_0)); clear hn324_0; clear hn324_1; clear hn324_2; replace p324 := eq_true p324; replace q324 := eq_true q324) | ((with_reducible refine gate_builtin (b := .append) (xs := #[.tmp 72, .tmp 74]) rfl ?_); at_builtin; refine Kd.R_append Kd.bool (w0 := w) w.heap.size rfl (.tmp 72) (.tmp 74) 35 4 (.bool false) 1 rfl Try.underlying35 info4 rfl (by decide) (by omega) (.slice (some ad324) x5_1.length co47) x5_1 true [.bool true] (fun _ => True) (fun _ => False) rfl (by first | (go_simp; done) | (go_simp; rfl) | (refine Eq.trans (b := Value.slice (some ⟨_, 0, none⟩) 1 1) rfl ?_; simp [World.setCell])) ?aP (fun _ hk => hk.elim) ?aF ?aO ?aB ?aS ?aL ?_; (case aP => exact rfl); (case aB => exact Sh.bw); (case aF => exact (fun _ _ => trivial)); (case aO => exact (Sh.rl (Kd.R_mono (Kd.R_far (p := ⟨gb311, 2, none⟩) (Kd.R_far (p := ⟨gb311, 1, none⟩) (Kd.R_far (p := ⟨gb311, 0, none⟩) (Kd.R_types HO_5.out BK311.out (by decide)) (fun _ hk => hk.2) (.int .i64 ((rd_T66 l0_1 x14_1).f0))) (fun _ hk => hk.2) (.int .i64 ((rd_T66 l0_1 x14_1).f1))) (fun _ hk => hk.2) (.int .i64 ((rd_T66 l0_1 x14_1).f2))) (fun _ hk => trivial)))); (case aS => exact (below_size Sh.bw)); (case aL => have := LMc43.out; omega); intro v326 w48 ho hb hg hat; rw [← Ny325.out] at ho; have n0_ := am_ (blk_grown (g := gb306) (o := .cells #[.int .i64 a0_0, .slice (some ad310) l0_1.length c0_1, .slice A0_2 l0_2.length c0_2] 27 (0, 0)) (by refine Sh.pl ?_; refine blk_far ?_ NB306_311.out _; refine Sh.pl ?_; refine blk_far ?_ NB306_311.out _; refine Sh.pl ?_; refine blk_far ?_ NB306_311.out _; refine Sh.pl ?_; exact BK306.out) hg (Kd.R_ne HO_5.out BK306.out (by decide))); have n1_ := am_ (blk_grown (g := gb311) (o := .cells #[.int .i64 ((rd_T66 l0_1 x14_1).f0), .int .i64 ((rd_T66 l0_1 x14_1).f1), .int .i64 ((rd_T66 l0_1 x14_1).f2)] 66 (0, 0)) (by refine Sh.pl ?_; refine blk_put (cs := #[.int .i64 ((rd_T66 l0_1 x14_1).f0), .int .i64 ((rd_T66 l0_1 x14_1).f1), .int .i64 0]) ?_ 2 _ rfl; refine Sh.pl ?_; refine blk_put (cs := #[.int .i64 ((rd_T66 l0_1 x14_1).f0), .int .i64 0, .int .i64 0]) ?_ 1 _ rfl; refine Sh.pl ?_; refine blk_put (cs := #[.int .i64 0, .int .i64 0, .int .i64 0]) ?_ 0 _ rfl; refine Sh.pl ?_; exact BK311.out) hg (Kd.R_ne HO_5.out BK311.out (by decide))); have n2_ := am_ hb; have n3_ := am_ ho; clear BK306; clear BK311; clear HB; clear HO_5; have BK306 := n0_; have BK311 := n1_; have HB := n2_; have HO327 := n3_; clear n0_ n1_ n2_ n3_; clear ho hb hg hat)); try go_wp2_with (first | ((with_reducible refine Sh.d 7 ?_); refine Sh.bx (N := 7) (cs := #[.int .i64 0, .int .i64 0, .int .i64 0]) (t := 66) (h := ?_); intro gb311 hg w44 hbox hb; replace HO_5 := am_ (Kd.R_below (Sh.rl HO_5.out) hb); have BK311 := am_ hbox; have GE311 := Sh.ag w hg; replace HB := Sh.hb hb; have NB306_311 := am_ (Sh.nl hg BK306.out); have NB311_306 := am_ (Sh.ng hg BK306.out); replace BK306 := Sh.ab BK306 hb; clear hb hbox hg; have hnb45 := NB311_306.out; have hnc45 := NB306_311.out; obtain ⟨hcz46_0, hcz46_1, hcz46_2, hfz46_0, hfz46_1, hfz46_2⟩ := Sh.b3 BK311.out; obtain ⟨Ao47, co47, eo47⟩ := Kd.R_slice HO_5.out; subst eo47; have p324 : 0 ≤ (((rd_T66 l0_1 x14_1).f1) : Int) := Sh.od; have q324 : ((rd_T66 l0_1 x14_1).f1) < (x5_1.length : Int) := Sh.od; obtain ⟨ad324, e324, hx324_0⟩ := Kd.at_bool (Kd.R_reads' HO_5.out).2.2 ((rd_T66 l0_1 x14_1).f1) p324 q324; (try rw [← Nbq41.out] at hx324_0); cases e324; have hn324_0 : ad324.block ≠ gb311 := Kd.own_blk (Kd.R_ne HO_5.out BK311.out (by decide)); have hn324_1 : ad324.block ≠ gb311 := Kd.own_blk (Kd.R_ne HO_5.out BK311.out (by decide)); have hn324_2 : ad324.block ≠ gb311 := Kd.own_blk (Kd.R_ne HO_5.out BK311.out (by decide)); replace hx324_0 := (cell_far (p := ⟨gb311, 0, none⟩) (by first | (rw [add_block]; exact hn324_0) | (show (Addr.add _ _).block ≠ _; rw [add_block]; exact hn324_0) | exact hn324_0) (.int .i64 ((rd_T66 l0_1 x14_1).f0))).trans hx324_0; replace hx324_0 := (cell_far (p := ⟨gb311, 1, none⟩) (by first | (rw [add_block]; exact hn324_1) | (show (Addr.add _ _).block ≠ _; rw [add_block]; exact hn324_1) | exact hn324_1) (.int .i64 ((rd_T66 l0_1 x14_1).f1))).trans hx324_0; replace hx324_0 := (cell_far (p := ⟨gb311, 2, none⟩) (by first | (rw [add_block]; exact hn324_2) | (show (Addr.add _ _).block ≠ _; rw [add_block]; exact hn324_2) | exact hn324_2) (.int .i64 ((rd_T66 l0_1 x14_1).f2))).trans hx324_0; (try have hy324_0 := fun (n_ : Nat) => (show (((((w44.drewN n_).setCell ⟨gb311, 0, none⟩ (.int .i64 ((rd_T66 l0_1 x14_1).f0))).setCell ⟨gb311, 1, none⟩ (.int .i64 ((rd_T66 l0_1 x14_1).f1))).setCell ⟨gb311, 2, none⟩ (.int .i64 ((rd_T66 l0_1 x14_1).f2)))).cell? _ = some _ from hx324_0)); clear hn324_0; clear hn324_1; clear hn324_2; replace p324 := eq_true p324; replace q324 := eq_true q324) | ((with_reducible refine gate_builtin (b := .append) (xs := #[.tmp 72, .tmp 74]) rfl ?_); at_builtin; refine Kd.R_append Kd.bool (w0 := w) w.heap.size rfl (.tmp 72) (.tmp 74) 35 4 (.bool false) 1 rfl Try.underlying35 info4 rfl (by decide) (by omega) (.slice (some ad324) x5_1.length co47) x5_1 true [.bool true] (fun _ => True) (fun _ => False) rfl (by first | (go_simp; done) | (go_simp; rfl) | (refine Eq.trans (b := Value.slice (some ⟨_, 0, none⟩) 1 1) rfl ?_; simp [World.setCell])) ?aP (fun _ hk => hk.elim) ?aF ?aO ?aB ?aS ?aL ?_; (case aP => exact rfl); (case aB => exact Sh.bw); (case aF => exact (fun _ _ => trivial)); (case aO => exact (Sh.rl (Kd.R_mono (Kd.R_far (p := ⟨gb311, 2, none⟩) (Kd.R_far (p := ⟨gb311, 1, none⟩) (Kd.R_far (p := ⟨gb311, 0, none⟩) (Kd.R_types HO_5.out BK311.out (by decide)) (fun _ hk => hk.2) (.int .i64 ((rd_T66 l0_1 x14_1).f0))) (fun _ hk => hk.2) (.int .i64 ((rd_T66 l0_1 x14_1).f1))) (fun _ hk => hk.2) (.int .i64 ((rd_T66 l0_1 x14_1).f2))) (fun _ hk => trivial)))); (case aS => exact (below_size Sh.bw)); (case aL => have := LMc43.out; omega); intro v326 w48 ho hb hg hat; rw [← Ny325.out] at ho; have n0_ := am_ (blk_grown (g := gb306) (o := .cells #[.int .i64 a0_0, .slice (some ad310) l0_1.length c0_1, .slice A0_2 l0_2.length c0_2] 27 (0, 0)) (by refine Sh.pl ?_; refine blk_far ?_ NB306_311.out _; refine Sh.pl ?_; refine blk_far ?_ NB306_311.out _; refine Sh.pl ?_; refine blk_far ?_ NB306_311.out _; refine Sh.pl ?_; exact BK306.out) hg (Kd.R_ne HO_5.out BK306.out (by decide))); have n1_ := am_ (blk_grown (g := gb311) (o := .cells #[.int .i64 ((rd_T66 l0_1 x14_1).f0), .int .i64 ((rd_T66 l0_1 x14_1).f1), .int .i64 ((rd_T66 l0_1 x14_1).f2)] 66 (0, 0)) (by refine Sh.pl ?_; refine blk_put (cs := #[.int .i64 ((rd_T66 l0_1 x14_1).f0), .int .i64 ((rd_T66 l0_1 x14_1).f1), .int .i64 0]) ?_ 2 _ rfl; refine Sh.pl ?_; refine blk_put (cs := #[.int .i64 ((rd_T66 l0_1 x14_1).f0), .int .i64 0, .int .i64 0]) ?_ 1 _ rfl; refine Sh.pl ?_; refine blk_put (cs := #[.int .i64 0, .int .i64 0, .int .i64 0]) ?_ 0 _ rfl; refine Sh.pl ?_; exact BK311.out) hg (Kd.R_ne HO_5.out BK311.out (by decide))); have n2_ := am_ hb; have n3_ := am_ ho; clear BK306; clear BK311; clear HB; clear HO_5; have BK306 := n0_; have BK311 := n1_; have HB := n2_; have HO327 := n3_; clear n0_ n1_ n2_ n3_; clear ho hb hg hat)))
             go_roundg k1
             case measure => have := HK1.out; omega
             case rel => exact ⟨(y325), (wrap64 (x14_1 + 1)), (Sh.es), H', ⟨by have := HK1.out; omega⟩, ⟨Sh.rl HO327.out⟩, ⟨by refine Sh.pl ?_; exact BK306.out⟩, ⟨Sh.bw⟩⟩
            ·rw [if_neg c43] at H
             exact absurd H (by simp)
           ·replace c42 := Bool.eq_false_iff.mpr c42
            subst c42
            rw [Sh.nf] at H
            by_cases c49 : 0 ≤ ((rd_T66 l0_1 x14_1).f2)
            ·rw [if_pos c49] at H
             have c49b0 := decide_eq_true c49
             clear c49
             by_cases c50 : ((rd_T66 l0_1 x14_1).f2) < (x5_1.length : Int)
             ·rw [if_pos c50] at H
              have c50b0 := decide_eq_true c50
              clear c50
              by_cases c51 : x5_1.length < 140737488355328
              ·rw [if_pos c51] at H
               have LMc51 := am_ c51
               clear c51
               obtain ⟨y329, hy329⟩ : ∃ y_ : List Bool, y_ = (x5_1 ++ [rdOf false x5_1 ((rd_T66 l0_1 x14_1).f2)]) := ⟨_, rfl⟩
               replace H : (impl_Circuit_allWires.l0 k1 y329 l0_1 (l0_1.length : Int) (wrap64 (x14_1 + 1))) = some r := by first | (rw [hy329]; with_reducible exact H) | (have H2_ := (Option.bind_some _ _).symm.trans H; rw [hy329]; with_reducible exact H2_) | (have H2_ := (Option.bind_some _ _).symm.trans H; with_reducible exact H2_) | with_reducible exact H | (rw [hy329]; exact H) | exact H
               have Ny329 := am_ hy329
               clear hy329
               have H' := am_ H
               clear H
               have p310 : 0 ≤ (x14_1 : Int) := Sh.od
               have q310 : x14_1 < (l0_1.length : Int) := Sh.od
               obtain ⟨ad310, e310, hx310_0, hx310_1, hx310_2⟩ := at_T66 HR0_1.out x14_1 p310 q310
               cases e310
               try replace hx310_0 := Sh.cw hx310_0
               try replace hx310_1 := Sh.cw hx310_1
               try replace hx310_2 := Sh.cw hx310_2
               replace p310 := eq_true p310
               replace q310 := eq_true q310
               go_wp2_with (first | ((with_reducible refine Sh.d 7 ?_); refine Sh.bx (N := 7) (cs := #[.int .i64 0, .int .i64 0, .int .i64 0]) (t := 66) (h := ?_); intro gb311 hg w52 hbox hb; replace HO_5 := am_ (Kd.R_below (Sh.rl HO_5.out) hb); have BK311 := am_ hbox; have GE311 := Sh.ag w hg; replace HB := Sh.hb hb; have NB306_311 := am_ (Sh.nl hg BK306.out); have NB311_306 := am_ (Sh.ng hg BK306.out); replace BK306 := Sh.ab BK306 hb; clear hb hbox hg; have hnb53 := NB311_306.out; have hnc53 := NB306_311.out; obtain ⟨hcz54_0, hcz54_1, hcz54_2, hfz54_0, hfz54_1, hfz54_2⟩ := Sh.b3 BK311.out; obtain ⟨Ao55, co55, eo55⟩ := Kd.R_slice HO_5.out; subst eo55; have p324 : 0 ≤ (((rd_T66 l0_1 x14_1).f1) : Int) := Sh.od; have q324 : ((rd_T66 l0_1 x14_1).f1) < (x5_1.length : Int) := Sh.od; obtain ⟨ad324, e324, hx324_0⟩ := Kd.at_bool (Kd.R_reads' HO_5.out).2.2 ((rd_T66 l0_1 x14_1).f1) p324 q324; (try rw [← Nbq41.out] at hx324_0); cases e324; have hn324_0 : ad324.block ≠ gb311 := Kd.own_blk (Kd.R_ne HO_5.out BK311.out (by decide)); have hn324_1 : ad324.block ≠ gb311 := Kd.own_blk (Kd.R_ne HO_5.out BK311.out (by decide)); have hn324_2 : ad324.block ≠ gb311 := Kd.own_blk (Kd.R_ne HO_5.out BK311.out (by decide)); replace hx324_0 := (cell_far (p := ⟨gb311, 0, none⟩) (by first | (rw [add_block]; exact hn324_0) | (show (Addr.add _ _).block ≠ _; rw [add_block]; exact hn324_0) | exact hn324_0) (.int .i64 ((rd_T66 l0_1 x14_1).f0))).trans hx324_0; replace hx324_0 := (cell_far (p := ⟨gb311, 1, none⟩) (by first | (rw [add_block]; exact hn324_1) | (show (Addr.add _ _).block ≠ _; rw [add_block]; exact hn324_1) | exact hn324_1) (.int .i64 ((rd_T66 l0_1 x14_1).f1))).trans hx324_0; replace hx324_0 := (cell_far (p := ⟨gb311, 2, none⟩) (by first | (rw [add_block]; exact hn324_2) | (show (Addr.add _ _).block ≠ _; rw [add_block]; exact hn324_2) | exact hn324_2) (.int .i64 ((rd_T66 l0_1 x14_1).f2))).trans hx324_0; (try have hy324_0 := fun (n_ : Nat) => (show (((((w52.drewN n_).setCell ⟨gb311, 0, none⟩ (.int .i64 ((rd_T66 l0_1 x14_1).f0))).setCell ⟨gb311, 1, none⟩ (.int .i64 ((rd_T66 l0_1 x14_1).f1))).setCell ⟨gb311, 2, none⟩ (.int .i64 ((rd_T66 l0_1 x14_1).f2)))).cell? _ = some _ from hx324_0)); clear hn324_0; clear hn324_1; clear hn324_2; replace p324 := eq_true p324; replace q324 := eq_true q324; have p328 : 0 ≤ (((rd_T66 l0_1 x14_1).f2) : Int) := Sh.od; have q328 : ((rd_T66 l0_1 x14_1).f2) < (x5_1.length : Int) := Sh.od; obtain ⟨ad328, e328, hx328_0⟩ := Kd.at_bool (Kd.R_reads' HO_5.out).2.2 ((rd_T66 l0_1 x14_1).f2) p328 q328; (try rw [← Nbq41.out] at hx328_0); obtain rfl : ad324 = ad328 := (by injection e328); have hn328_0 : ad324.block ≠ gb311 := Kd.own_blk (Kd.R_ne HO_5.out BK311.out (by decide)); have hn328_1 : ad324.block ≠ gb311 := Kd.own_blk (Kd.R_ne HO_5.out BK311.out (by decide)); have hn328_2 : ad324.block ≠ gb311 := Kd.own_blk (Kd.R_ne HO_5.out BK311.out (by decide)); replace hx328_0 := (cell_far (p := ⟨gb311, 0, none⟩) (by first | (rw [add_block]; exact hn328_0) | (show (Addr.add _ _).block ≠ _; rw [add_block]; exact hn328_0) | exact hn328_0) (.int .i64 ((rd_T66 l0_1 x14_1).f0))).trans hx328_0; replace hx328_0 := (cell_far (p := ⟨gb311, 1, none⟩) (by first | (rw [add_block]; exact hn328_1) | (show (Addr.add _ _).block ≠ _; rw [add_block]; exact hn328_1) | exact hn328_1) (.int .i64 ((rd_T66 l0_1 x14_1).f1))).trans hx328_0; replace hx328_0 := (cell_far (p := ⟨gb311, 2, none⟩) (by first | (rw [add_block]; exact hn328_2) | (show (Addr.add _ _).block ≠ _; rw [add_block]; exact hn328_2) | exact hn328_2) (.int .i64 ((rd_T66 l0_1 x14_1).f2))).trans hx328_0; (try have hy328_0 := fun (n_ : Nat) => (show (((((w52.drewN n_).setCell ⟨gb311, 0, none⟩ (.int .i64 ((rd_T66 l0_1 x14_1).f0))).setCell ⟨gb311, 1, none⟩ (.int .i64 ((rd_T66 l0_1 x14_1).f1))).setCell ⟨gb311, 2, none⟩ (.int .i64 ((rd_T66 l0_1 x14_1).f2)))).cell? _ = some _ from hx328_0)); clear hn328_0; clear hn328_1; clear hn328_2; replace p328 := eq_true p328; replace q328 := eq_true q328) | ((with_reducible refine gate_builtin (b := .append) (xs := #[.tmp 72, .tmp 74]) rfl ?_); at_builtin; refine Kd.R_append Kd.bool (w0 := w) w.heap.size rfl (.tmp 72) (.tmp 74) 35 4 (.bool false) 1 rfl Try.underlying35 info4 rfl (by decide) (by omega) (.slice (some ad324) x5_1.length co55) x5_1 (rdOf false x5_1 ((rd_T66 l0_1 x14_1).f2)) [.bool (rdOf false x5_1 ((rd_T66 l0_1 x14_1).f2))] (fun _ => True) (fun _ => False) rfl (by first | (go_simp; done) | (go_simp; rfl) | (refine Eq.trans (b := Value.slice (some ⟨_, 0, none⟩) 1 1) rfl ?_; simp [World.setCell])) ?aP (fun _ hk => hk.elim) ?aF ?aO ?aB ?aS ?aL ?_; (case aP => exact rfl); (case aB => exact Sh.bw); (case aF => exact (fun _ _ => trivial)); (case aO => exact (Sh.rl (Kd.R_mono (Kd.R_far (p := ⟨gb311, 2, none⟩) (Kd.R_far (p := ⟨gb311, 1, none⟩) (Kd.R_far (p := ⟨gb311, 0, none⟩) (Kd.R_types HO_5.out BK311.out (by decide)) (fun _ hk => hk.2) (.int .i64 ((rd_T66 l0_1 x14_1).f0))) (fun _ hk => hk.2) (.int .i64 ((rd_T66 l0_1 x14_1).f1))) (fun _ hk => hk.2) (.int .i64 ((rd_T66 l0_1 x14_1).f2))) (fun _ hk => trivial)))); (case aS => exact (below_size Sh.bw)); (case aL => have := LMc51.out; omega); intro v330 w56 ho hb hg hat; rw [← Ny329.out] at ho; have n0_ := am_ (blk_grown (g := gb306) (o := .cells #[.int .i64 a0_0, .slice (some ad310) l0_1.length c0_1, .slice A0_2 l0_2.length c0_2] 27 (0, 0)) (by refine Sh.pl ?_; refine blk_far ?_ NB306_311.out _; refine Sh.pl ?_; refine blk_far ?_ NB306_311.out _; refine Sh.pl ?_; refine blk_far ?_ NB306_311.out _; refine Sh.pl ?_; exact BK306.out) hg (Kd.R_ne HO_5.out BK306.out (by decide))); have n1_ := am_ (blk_grown (g := gb311) (o := .cells #[.int .i64 ((rd_T66 l0_1 x14_1).f0), .int .i64 ((rd_T66 l0_1 x14_1).f1), .int .i64 ((rd_T66 l0_1 x14_1).f2)] 66 (0, 0)) (by refine Sh.pl ?_; refine blk_put (cs := #[.int .i64 ((rd_T66 l0_1 x14_1).f0), .int .i64 ((rd_T66 l0_1 x14_1).f1), .int .i64 0]) ?_ 2 _ rfl; refine Sh.pl ?_; refine blk_put (cs := #[.int .i64 ((rd_T66 l0_1 x14_1).f0), .int .i64 0, .int .i64 0]) ?_ 1 _ rfl; refine Sh.pl ?_; refine blk_put (cs := #[.int .i64 0, .int .i64 0, .int .i64 0]) ?_ 0 _ rfl; refine Sh.pl ?_; exact BK311.out) hg (Kd.R_ne HO_5.out BK311.out (by decide))); have n2_ := am_ hb; have n3_ := am_ ho; clear BK306; clear BK311; clear HB; clear HO_5; have BK306 := n0_; have BK311 := n1_; have HB := n2_; have HO331 := n3_; clear n0_ n1_ n2_ n3_; clear ho hb hg hat))
               repeat (go_quiet (first | ((with_reducible refine Sh.d 7 ?_); refine Sh.bx (N := 7) (cs := #[.int .i64 0, .int .i64 0, .int .i64 0]) (t := 66) (h := ?_); intro gb311 hg w52 hbox hb; replace HO_5 := am_ (Kd.R_below (Sh.rl HO_5.out) hb); have BK311 := am_ hbox; have GE311 := Sh.ag w hg; replace HB := Sh.hb hb; have NB306_311 := am_ (Sh.nl hg BK306.out); have NB311_306 := am_ (Sh.ng hg BK306.out); replace BK306 := Sh.ab BK306 hb; clear hb hbox hg; have hnb53 := NB311_306.out; have hnc53 := NB306_311.out; obtain ⟨hcz54_0, hcz54_1, hcz54_2, hfz54_0, hfz54_1, hfz54_2⟩ := Sh.b3 BK311.out; obtain ⟨Ao55, co55, eo55⟩ := Kd.R_slice HO_5.out; subst eo55; have p324 : 0 ≤ (((rd_T66 l0_1 x14_1).f1) : Int) := Sh.od; have q324 : ((rd_T66 l0_1 x14_1).f1) < (x5_1.length : Int) := Sh.od; obtain ⟨ad324, e324, hx324_0⟩ := Kd.at_bool (Kd.R_reads' HO_5.out).2.2 ((rd_T66 l0_1 x14_1).f1) p324 q324; (try rw [← Nbq41.out] at hx324_0); cases e324; have hn324_0 : ad324.block ≠ gb311 := Kd.own_blk (Kd.R_ne HO_5.out BK311.out (by decide)); have hn324_1 : ad324.block ≠ gb311 := Kd.own_blk (Kd.R_ne HO_5.out BK311.out (by decide)); have hn324_2 : ad324.block ≠ gb311 := Kd.own_blk (Kd.R_ne HO_5.out BK311.out (by decide)); replace hx324_0 := (cell_far (p := ⟨gb311, 0, none⟩) (by first | (rw [add_block]; exact hn324_0) | (show (Addr.add _ _).block ≠ _; rw [add_block]; exact hn324_0) | exact hn324_0) (.int .i64 ((rd_T66 l0_1 x14_1).f0))).trans hx324_0; replace hx324_0 := (cell_far (p := ⟨gb311, 1, none⟩) (by first | (rw [add_block]; exact hn324_1) | (show (Addr.add _ _).block ≠ _; rw [add_block]; exact hn324_1) | exact hn324_1) (.int .i64 ((rd_T66 l0_1 x14_1).f1))).trans hx324_0; replace hx324_0 := (cell_far (p := ⟨gb311, 2, none⟩) (by first | (rw [add_block]; exact hn324_2) | (show (Addr.add _ _).block ≠ _; rw [add_block]; exact hn324_2) | exact hn324_2) (.int .i64 ((rd_T66 l0_1 x14_1).f2))).trans hx324_0; (try have hy324_0 := fun (n_ : Nat) => (show (((((w52.drewN n_).setCell ⟨gb311, 0, none⟩ (.int .i64 ((rd_T66 l0_1 x14_1).f0))).setCell ⟨gb311, 1, none⟩ (.int .i64 ((rd_T66 l0_1 x14_1).f1))).setCell ⟨gb311, 2, none⟩ (.int .i64 ((rd_T66 l0_1 x14_1).f2)))).cell? _ = some _ from hx324_0)); clear hn324_0; clear hn324_1; clear hn324_2; replace p324 := eq_true p324; replace q324 := eq_true q324; have p328 : 0 ≤ (((rd_T66 l0_1 x14_1).f2) : Int) := Sh.od; have q328 : ((rd_T66 l0_1 x14_1).f2) < (x5_1.length : Int) := Sh.od; obtain ⟨ad328, e328, hx328_0⟩ := Kd.at_bool (Kd.R_reads' HO_5.out).2.2 ((rd_T66 l0_1 x14_1).f2) p328 q328; (try rw [← Nbq41.out] at hx328_0); obtain rfl : ad324 = ad328 := (by injection e328); have hn328_0 : ad324.block ≠ gb311 := Kd.own_blk (Kd.R_ne HO_5.out BK311.out (by decide)); have hn328_1 : ad324.block ≠ gb311 := Kd.own_blk (Kd.R_ne HO_5.out BK311.out (by decide)); have hn328_2 : ad324.block ≠ gb311 := Kd.own_blk (Kd.R_ne HO_5.out BK311.out (by decide)); replace hx328_0 := (cell_far (p := ⟨gb311, 0, none⟩) (by first | (rw [add_block]; exact hn328_0) | (show (Addr.add _ _).block ≠ _; rw [add_block]; exact hn328_0) | exact hn328_0) (.int .i64 ((rd_T66 l0_1 x14_1).f0))).trans hx328_0; replace hx328_0 := (cell_far (p := ⟨gb311, 1, none⟩) (by first | (rw [add_block]; exact hn328_1) | (show (Addr.add _ _).block ≠ _; rw [add_block]; exact hn328_1) | exact hn328_1) (.int .i64 ((rd_T66 l0_1 x14_1).f1))).trans hx328_0; replace hx328_0 := (cell_far (p := ⟨gb311, 2, none⟩) (by first | (rw [add_block]; exact hn328_2) | (show (Addr.add _ _).block ≠ _; rw [add_block]; exact hn328_2) | exact hn328_2) (.int .i64 ((rd_T66 l0_1 x14_1).f2))).trans hx328_0; (try have hy328_0 := fun (n_ : Nat) => (show (((((w52.drewN n_).setCell ⟨gb311, 0, none⟩ (.int .i64 ((rd_T66 l0_1 x14_1).f0))).setCell ⟨gb311, 1, none⟩ (.int .i64 ((rd_T66 l0_1 x14_1).f1))).setCell ⟨gb311, 2, none⟩ (.int .i64 ((rd_T66 l0_1 x14_1).f2)))).cell? _ = some _ from hx328_0)); clear hn328_0; clear hn328_1; clear hn328_2; replace p328 := eq_true p328; replace q328 := eq_true q328) | ((with_reducible refine gate_builtin (b := .append) (xs := #[.tmp 72, .tmp 74]) rfl ?_); at_builtin; refine Kd.R_append Kd.bool (w0 := w) w.heap.size rfl (.tmp 72) (.tmp 74) 35 4 (.bool false) 1 rfl Try.underlying35 info4 rfl (by decide) (by omega) (.slice (some ad324) x5_1.length co55) x5_1 (rdOf false x5_1 ((rd_T66 l0_1 x14_1).f2)) [.bool (rdOf false x5_1 ((rd_T66 l0_1 x14_1).f2))] (fun _ => True) (fun _ => False) rfl (by first | (go_simp; done) | (go_simp; rfl) | (refine Eq.trans (b := Value.slice (some ⟨_, 0, none⟩) 1 1) rfl ?_; simp [World.setCell])) ?aP (fun _ hk => hk.elim) ?aF ?aO ?aB ?aS ?aL ?_; (case aP => exact rfl); (case aB => exact Sh.bw); (case aF => exact (fun _ _ => trivial)); (case aO => exact (Sh.rl (Kd.R_mono (Kd.R_far (p := ⟨gb311, 2, none⟩) (Kd.R_far (p := ⟨gb311, 1, none⟩) (Kd.R_far (p := ⟨gb311, 0, none⟩) (Kd.R_types HO_5.out BK311.out (by decide)) (fun _ hk => hk.2) (.int .i64 ((rd_T66 l0_1 x14_1).f0))) (fun _ hk => hk.2) (.int .i64 ((rd_T66 l0_1 x14_1).f1))) (fun _ hk => hk.2) (.int .i64 ((rd_T66 l0_1 x14_1).f2))) (fun _ hk => trivial)))); (case aS => exact (below_size Sh.bw)); (case aL => have := LMc51.out; omega); intro v330 w56 ho hb hg hat; rw [← Ny329.out] at ho; have n0_ := am_ (blk_grown (g := gb306) (o := .cells #[.int .i64 a0_0, .slice (some ad310) l0_1.length c0_1, .slice A0_2 l0_2.length c0_2] 27 (0, 0)) (by refine Sh.pl ?_; refine blk_far ?_ NB306_311.out _; refine Sh.pl ?_; refine blk_far ?_ NB306_311.out _; refine Sh.pl ?_; refine blk_far ?_ NB306_311.out _; refine Sh.pl ?_; exact BK306.out) hg (Kd.R_ne HO_5.out BK306.out (by decide))); have n1_ := am_ (blk_grown (g := gb311) (o := .cells #[.int .i64 ((rd_T66 l0_1 x14_1).f0), .int .i64 ((rd_T66 l0_1 x14_1).f1), .int .i64 ((rd_T66 l0_1 x14_1).f2)] 66 (0, 0)) (by refine Sh.pl ?_; refine blk_put (cs := #[.int .i64 ((rd_T66 l0_1 x14_1).f0), .int .i64 ((rd_T66 l0_1 x14_1).f1), .int .i64 0]) ?_ 2 _ rfl; refine Sh.pl ?_; refine blk_put (cs := #[.int .i64 ((rd_T66 l0_1 x14_1).f0), .int .i64 0, .int .i64 0]) ?_ 1 _ rfl; refine Sh.pl ?_; refine blk_put (cs := #[.int .i64 0, .int .i64 0, .int .i64 0]) ?_ 0 _ rfl; refine Sh.pl ?_; exact BK311.out) hg (Kd.R_ne HO_5.out BK311.out (by decide))); have n2_ := am_ hb; have n3_ := am_ ho; clear BK306; clear BK311; clear HB; clear HO_5; have BK306 := n0_; have BK311 := n1_; have HB := n2_; have HO331 := n3_; clear n0_ n1_ n2_ n3_; clear ho hb hg hat)); try go_wp2_with (first | ((with_reducible refine Sh.d 7 ?_); refine Sh.bx (N := 7) (cs := #[.int .i64 0, .int .i64 0, .int .i64 0]) (t := 66) (h := ?_); intro gb311 hg w52 hbox hb; replace HO_5 := am_ (Kd.R_below (Sh.rl HO_5.out) hb); have BK311 := am_ hbox; have GE311 := Sh.ag w hg; replace HB := Sh.hb hb; have NB306_311 := am_ (Sh.nl hg BK306.out); have NB311_306 := am_ (Sh.ng hg BK306.out); replace BK306 := Sh.ab BK306 hb; clear hb hbox hg; have hnb53 := NB311_306.out; have hnc53 := NB306_311.out; obtain ⟨hcz54_0, hcz54_1, hcz54_2, hfz54_0, hfz54_1, hfz54_2⟩ := Sh.b3 BK311.out; obtain ⟨Ao55, co55, eo55⟩ := Kd.R_slice HO_5.out; subst eo55; have p324 : 0 ≤ (((rd_T66 l0_1 x14_1).f1) : Int) := Sh.od; have q324 : ((rd_T66 l0_1 x14_1).f1) < (x5_1.length : Int) := Sh.od; obtain ⟨ad324, e324, hx324_0⟩ := Kd.at_bool (Kd.R_reads' HO_5.out).2.2 ((rd_T66 l0_1 x14_1).f1) p324 q324; (try rw [← Nbq41.out] at hx324_0); cases e324; have hn324_0 : ad324.block ≠ gb311 := Kd.own_blk (Kd.R_ne HO_5.out BK311.out (by decide)); have hn324_1 : ad324.block ≠ gb311 := Kd.own_blk (Kd.R_ne HO_5.out BK311.out (by decide)); have hn324_2 : ad324.block ≠ gb311 := Kd.own_blk (Kd.R_ne HO_5.out BK311.out (by decide)); replace hx324_0 := (cell_far (p := ⟨gb311, 0, none⟩) (by first | (rw [add_block]; exact hn324_0) | (show (Addr.add _ _).block ≠ _; rw [add_block]; exact hn324_0) | exact hn324_0) (.int .i64 ((rd_T66 l0_1 x14_1).f0))).trans hx324_0; replace hx324_0 := (cell_far (p := ⟨gb311, 1, none⟩) (by first | (rw [add_block]; exact hn324_1) | (show (Addr.add _ _).block ≠ _; rw [add_block]; exact hn324_1) | exact hn324_1) (.int .i64 ((rd_T66 l0_1 x14_1).f1))).trans hx324_0; replace hx324_0 := (cell_far (p := ⟨gb311, 2, none⟩) (by first | (rw [add_block]; exact hn324_2) | (show (Addr.add _ _).block ≠ _; rw [add_block]; exact hn324_2) | exact hn324_2) (.int .i64 ((rd_T66 l0_1 x14_1).f2))).trans hx324_0; (try have hy324_0 := fun (n_ : Nat) => (show (((((w52.drewN n_).setCell ⟨gb311, 0, none⟩ (.int .i64 ((rd_T66 l0_1 x14_1).f0))).setCell ⟨gb311, 1, none⟩ (.int .i64 ((rd_T66 l0_1 x14_1).f1))).setCell ⟨gb311, 2, none⟩ (.int .i64 ((rd_T66 l0_1 x14_1).f2)))).cell? _ = some _ from hx324_0)); clear hn324_0; clear hn324_1; clear hn324_2; replace p324 := eq_true p324; replace q324 := eq_true q324; have p328 : 0 ≤ (((rd_T66 l0_1 x14_1).f2) : Int) := Sh.od; have q328 : ((rd_T66 l0_1 x14_1).f2) < (x5_1.length : Int) := Sh.od; obtain ⟨ad328, e328, hx328_0⟩ := Kd.at_bool (Kd.R_reads' HO_5.out).2.2 ((rd_T66 l0_1 x14_1).f2) p328 q328; (try rw [← Nbq41.out] at hx328_0); obtain rfl : ad324 = ad328 := (by injection e328); have hn328_0 : ad324.block ≠ gb311 := Kd.own_blk (Kd.R_ne HO_5.out BK311.out (by decide)); have hn328_1 : ad324.block ≠ gb311 := Kd.own_blk (Kd.R_ne HO_5.out BK311.out (by decide)); have hn328_2 : ad324.block ≠ gb311 := Kd.own_blk (Kd.R_ne HO_5.out BK311.out (by decide)); replace hx328_0 := (cell_far (p := ⟨gb311, 0, none⟩) (by first | (rw [add_block]; exact hn328_0) | (show (Addr.add _ _).block ≠ _; rw [add_block]; exact hn328_0) | exact hn328_0) (.int .i64 ((rd_T66 l0_1 x14_1).f0))).trans hx328_0; replace hx328_0 := (cell_far (p := ⟨gb311, 1, none⟩) (by first | (rw [add_block]; exact hn328_1) | (show (Addr.add _ _).block ≠ _; rw [add_block]; exact hn328_1) | exact hn328_1) (.int .i64 ((rd_T66 l0_1 x14_1).f1))).trans hx328_0; replace hx328_0 := (cell_far (p := ⟨gb311, 2, none⟩) (by first | (rw [add_block]; exact hn328_2) | (show (Addr.add _ _).block ≠ _; rw [add_block]; exact hn328_2) | exact hn328_2) (.int .i64 ((rd_T66 l0_1 x14_1).f2))).trans hx328_0; (try have hy328_0 := fun (n_ : Nat) => (show (((((w52.drewN n_).setCell ⟨gb311, 0, none⟩ (.int .i64 ((rd_T66 l0_1 x14_1).f0))).setCell ⟨gb311, 1, none⟩ (.int .i64 ((rd_T66 l0_1 x14_1).f1))).setCell ⟨gb311, 2, none⟩ (.int .i64 ((rd_T66 l0_1 x14_1).f2)))).cell? _ = some _ from hx328_0)); clear hn328_0; clear hn328_1; clear hn328_2; replace p328 := eq_true p328; replace q328 := eq_true q328) | ((with_reducible refine gate_builtin (b := .append) (xs := #[.tmp 72, .tmp 74]) rfl ?_); at_builtin; refine Kd.R_append Kd.bool (w0 := w) w.heap.size rfl (.tmp 72) (.tmp 74) 35 4 (.bool false) 1 rfl Try.underlying35 info4 rfl (by decide) (by omega) (.slice (some ad324) x5_1.length co55) x5_1 (rdOf false x5_1 ((rd_T66 l0_1 x14_1).f2)) [.bool (rdOf false x5_1 ((rd_T66 l0_1 x14_1).f2))] (fun _ => True) (fun _ => False) rfl (by first | (go_simp; done) | (go_simp; rfl) | (refine Eq.trans (b := Value.slice (some ⟨_, 0, none⟩) 1 1) rfl ?_; simp [World.setCell])) ?aP (fun _ hk => hk.elim) ?aF ?aO ?aB ?aS ?aL ?_; (case aP => exact rfl); (case aB => exact Sh.bw); (case aF => exact (fun _ _ => trivial)); (case aO => exact (Sh.rl (Kd.R_mono (Kd.R_far (p := ⟨gb311, 2, none⟩) (Kd.R_far (p := ⟨gb311, 1, none⟩) (Kd.R_far (p := ⟨gb311, 0, none⟩) (Kd.R_types HO_5.out BK311.out (by decide)) (fun _ hk => hk.2) (.int .i64 ((rd_T66 l0_1 x14_1).f0))) (fun _ hk => hk.2) (.int .i64 ((rd_T66 l0_1 x14_1).f1))) (fun _ hk => hk.2) (.int .i64 ((rd_T66 l0_1 x14_1).f2))) (fun _ hk => trivial)))); (case aS => exact (below_size Sh.bw)); (case aL => have := LMc51.out; omega); intro v330 w56 ho hb hg hat; rw [← Ny329.out] at ho; have n0_ := am_ (blk_grown (g := gb306) (o := .cells #[.int .i64 a0_0, .slice (some ad310) l0_1.length c0_1, .slice A0_2 l0_2.length c0_2] 27 (0, 0)) (by refine Sh.pl ?_; refine blk_far ?_ NB306_311.out _; refine Sh.pl ?_; refine blk_far ?_ NB306_311.out _; refine Sh.pl ?_; refine blk_far ?_ NB306_311.out _; refine Sh.pl ?_; exact BK306.out) hg (Kd.R_ne HO_5.out BK306.out (by decide))); have n1_ := am_ (blk_grown (g := gb311) (o := .cells #[.int .i64 ((rd_T66 l0_1 x14_1).f0), .int .i64 ((rd_T66 l0_1 x14_1).f1), .int .i64 ((rd_T66 l0_1 x14_1).f2)] 66 (0, 0)) (by refine Sh.pl ?_; refine blk_put (cs := #[.int .i64 ((rd_T66 l0_1 x14_1).f0), .int .i64 ((rd_T66 l0_1 x14_1).f1), .int .i64 0]) ?_ 2 _ rfl; refine Sh.pl ?_; refine blk_put (cs := #[.int .i64 ((rd_T66 l0_1 x14_1).f0), .int .i64 0, .int .i64 0]) ?_ 1 _ rfl; refine Sh.pl ?_; refine blk_put (cs := #[.int .i64 0, .int .i64 0, .int .i64 0]) ?_ 0 _ rfl; refine Sh.pl ?_; exact BK311.out) hg (Kd.R_ne HO_5.out BK311.out (by decide))); have n2_ := am_ hb; have n3_ := am_ ho; clear BK306; clear BK311; clear HB; clear HO_5; have BK306 := n0_; have BK311 := n1_; have HB := n2_; have HO331 := n3_; clear n0_ n1_ n2_ n3_; clear ho hb hg hat)))
               go_roundg k1
               case measure => have := HK1.out; omega
               case rel => exact ⟨(y329), (wrap64 (x14_1 + 1)), (Sh.es), H', ⟨by have := HK1.out; omega⟩, ⟨Sh.rl HO331.out⟩, ⟨by refine Sh.pl ?_; exact BK306.out⟩, ⟨Sh.bw⟩⟩
              ·rw [if_neg c51] at H
               exact absurd H (by simp)
             ·rw [if_neg c50] at H
              exact absurd H (by simp)
            ·rw [if_neg c49] at H
             exact absurd H (by simp)
          ·rw [if_neg c40] at H
           exact absurd H (by simp)
         ·rw [if_neg c39] at H
          exact absurd H (by simp)
        ·rw [if_neg c38] at H
         have c38b0 : (((rd_T66 l0_1 x14_1).f0) == 4) = false := beq_eq_false_iff_ne.mpr c38
         have c38b1 : (((rd_T66 l0_1 x14_1).f0) != 4) = true := bne_iff_ne.mpr c38
         by_cases c57 : ((rd_T66 l0_1 x14_1).f0) = 5
         ·rw [if_pos c57] at H
          have c57b0 : (((rd_T66 l0_1 x14_1).f0) == 5) = true := beq_iff_eq.mpr c57
          have c57b1 : (((rd_T66 l0_1 x14_1).f0) != 5) = false := bne_eq_false_iff_eq.mpr c57
          clear c57
          by_cases c58 : 0 ≤ ((rd_T66 l0_1 x14_1).f1)
          ·rw [if_pos c58] at H
           have c58b0 := decide_eq_true c58
           clear c58
           by_cases c59 : ((rd_T66 l0_1 x14_1).f1) < (x5_1.length : Int)
           ·rw [if_pos c59] at H
            have c59b0 := decide_eq_true c59
            clear c59
            by_cases c60 : 0 ≤ ((rd_T66 l0_1 x14_1).f2)
            ·rw [if_pos c60] at H
             have c60b0 := decide_eq_true c60
             clear c60
             by_cases c61 : ((rd_T66 l0_1 x14_1).f2) < (x5_1.length : Int)
             ·rw [if_pos c61] at H
              have c61b0 := decide_eq_true c61
              clear c61
              by_cases c62 : x5_1.length < 140737488355328
              ·rw [if_pos c62] at H
               have LMc62 := am_ c62
               clear c62
               obtain ⟨y334, hy334⟩ : ∃ y_ : List Bool, y_ = (x5_1 ++ [((rdOf false x5_1 ((rd_T66 l0_1 x14_1).f1)) != (rdOf false x5_1 ((rd_T66 l0_1 x14_1).f2)))]) := ⟨_, rfl⟩
               replace H : (impl_Circuit_allWires.l0 k1 y334 l0_1 (l0_1.length : Int) (wrap64 (x14_1 + 1))) = some r := by first | (rw [hy334]; with_reducible exact H) | (have H2_ := (Option.bind_some _ _).symm.trans H; rw [hy334]; with_reducible exact H2_) | (have H2_ := (Option.bind_some _ _).symm.trans H; with_reducible exact H2_) | with_reducible exact H | (rw [hy334]; exact H) | exact H
               have Ny334 := am_ hy334
               clear hy334
               have H' := am_ H
               clear H
               have p310 : 0 ≤ (x14_1 : Int) := Sh.od
               have q310 : x14_1 < (l0_1.length : Int) := Sh.od
               obtain ⟨ad310, e310, hx310_0, hx310_1, hx310_2⟩ := at_T66 HR0_1.out x14_1 p310 q310
               cases e310
               try replace hx310_0 := Sh.cw hx310_0
               try replace hx310_1 := Sh.cw hx310_1
               try replace hx310_2 := Sh.cw hx310_2
               replace p310 := eq_true p310
               replace q310 := eq_true q310
               go_wp2_with (first | ((with_reducible refine Sh.d 7 ?_); refine Sh.bx (N := 7) (cs := #[.int .i64 0, .int .i64 0, .int .i64 0]) (t := 66) (h := ?_); intro gb311 hg w63 hbox hb; replace HO_5 := am_ (Kd.R_below (Sh.rl HO_5.out) hb); have BK311 := am_ hbox; have GE311 := Sh.ag w hg; replace HB := Sh.hb hb; have NB306_311 := am_ (Sh.nl hg BK306.out); have NB311_306 := am_ (Sh.ng hg BK306.out); replace BK306 := Sh.ab BK306 hb; clear hb hbox hg; have hnb64 := NB311_306.out; have hnc64 := NB306_311.out; obtain ⟨hcz65_0, hcz65_1, hcz65_2, hfz65_0, hfz65_1, hfz65_2⟩ := Sh.b3 BK311.out; obtain ⟨Ao66, co66, eo66⟩ := Kd.R_slice HO_5.out; subst eo66; have p332 : 0 ≤ (((rd_T66 l0_1 x14_1).f1) : Int) := Sh.od; have q332 : ((rd_T66 l0_1 x14_1).f1) < (x5_1.length : Int) := Sh.od; obtain ⟨ad332, e332, hx332_0⟩ := Kd.at_bool (Kd.R_reads' HO_5.out).2.2 ((rd_T66 l0_1 x14_1).f1) p332 q332; cases e332; have hn332_0 : ad332.block ≠ gb311 := Kd.own_blk (Kd.R_ne HO_5.out BK311.out (by decide)); have hn332_1 : ad332.block ≠ gb311 := Kd.own_blk (Kd.R_ne HO_5.out BK311.out (by decide)); have hn332_2 : ad332.block ≠ gb311 := Kd.own_blk (Kd.R_ne HO_5.out BK311.out (by decide)); replace hx332_0 := (cell_far (p := ⟨gb311, 0, none⟩) (by first | (rw [add_block]; exact hn332_0) | (show (Addr.add _ _).block ≠ _; rw [add_block]; exact hn332_0) | exact hn332_0) (.int .i64 ((rd_T66 l0_1 x14_1).f0))).trans hx332_0; replace hx332_0 := (cell_far (p := ⟨gb311, 1, none⟩) (by first | (rw [add_block]; exact hn332_1) | (show (Addr.add _ _).block ≠ _; rw [add_block]; exact hn332_1) | exact hn332_1) (.int .i64 ((rd_T66 l0_1 x14_1).f1))).trans hx332_0; replace hx332_0 := (cell_far (p := ⟨gb311, 2, none⟩) (by first | (rw [add_block]; exact hn332_2) | (show (Addr.add _ _).block ≠ _; rw [add_block]; exact hn332_2) | exact hn332_2) (.int .i64 ((rd_T66 l0_1 x14_1).f2))).trans hx332_0; (try have hy332_0 := fun (n_ : Nat) => (show (((((w63.drewN n_).setCell ⟨gb311, 0, none⟩ (.int .i64 ((rd_T66 l0_1 x14_1).f0))).setCell ⟨gb311, 1, none⟩ (.int .i64 ((rd_T66 l0_1 x14_1).f1))).setCell ⟨gb311, 2, none⟩ (.int .i64 ((rd_T66 l0_1 x14_1).f2)))).cell? _ = some _ from hx332_0)); clear hn332_0; clear hn332_1; clear hn332_2; replace p332 := eq_true p332; replace q332 := eq_true q332; have p333 : 0 ≤ (((rd_T66 l0_1 x14_1).f2) : Int) := Sh.od; have q333 : ((rd_T66 l0_1 x14_1).f2) < (x5_1.length : Int) := Sh.od; obtain ⟨ad333, e333, hx333_0⟩ := Kd.at_bool (Kd.R_reads' HO_5.out).2.2 ((rd_T66 l0_1 x14_1).f2) p333 q333; obtain rfl : ad332 = ad333 := (by injection e333); have hn333_0 : ad332.block ≠ gb311 := Kd.own_blk (Kd.R_ne HO_5.out BK311.out (by decide)); have hn333_1 : ad332.block ≠ gb311 := Kd.own_blk (Kd.R_ne HO_5.out BK311.out (by decide)); have hn333_2 : ad332.block ≠ gb311 := Kd.own_blk (Kd.R_ne HO_5.out BK311.out (by decide)); replace hx333_0 := (cell_far (p := ⟨gb311, 0, none⟩) (by first | (rw [add_block]; exact hn333_0) | (show (Addr.add _ _).block ≠ _; rw [add_block]; exact hn333_0) | exact hn333_0) (.int .i64 ((rd_T66 l0_1 x14_1).f0))).trans hx333_0; replace hx333_0 := (cell_far (p := ⟨gb311, 1, none⟩) (by first | (rw [add_block]; exact hn333_1) | (show (Addr.add _ _).block ≠ _; rw [add_block]; exact hn333_1) | exact hn333_1) (.int .i64 ((rd_T66 l0_1 x14_1).f1))).trans hx333_0; replace hx333_0 := (cell_far (p := ⟨gb311, 2, none⟩) (by first | (rw [add_block]; exact hn333_2) | (show (Addr.add _ _).block ≠ _; rw [add_block]; exact hn333_2) | exact hn333_2) (.int .i64 ((rd_T66 l0_1 x14_1).f2))).trans hx333_0; (try have hy333_0 := fun (n_ : Nat) => (show (((((w63.drewN n_).setCell ⟨gb311, 0, none⟩ (.int .i64 ((rd_T66 l0_1 x14_1).f0))).setCell ⟨gb311, 1, none⟩ (.int .i64 ((rd_T66 l0_1 x14_1).f1))).setCell ⟨gb311, 2, none⟩ (.int .i64 ((rd_T66 l0_1 x14_1).f2)))).cell? _ = some _ from hx333_0)); clear hn333_0; clear hn333_1; clear hn333_2; replace p333 := eq_true p333; replace q333 := eq_true q333) | ((with_reducible refine gate_builtin (b := .append) (xs := #[.tmp 72, .tmp 74]) rfl ?_); at_builtin; refine Kd.R_append Kd.bool (w0 := w) w.heap.size rfl (.tmp 72) (.tmp 74) 35 4 (.bool false) 1 rfl Try.underlying35 info4 rfl (by decide) (by omega) (.slice (some ad332) x5_1.length co66) x5_1 ((rdOf false x5_1 ((rd_T66 l0_1 x14_1).f1)) != (rdOf false x5_1 ((rd_T66 l0_1 x14_1).f2))) [.bool ((rdOf false x5_1 ((rd_T66 l0_1 x14_1).f1)) != (rdOf false x5_1 ((rd_T66 l0_1 x14_1).f2)))] (fun _ => True) (fun _ => False) rfl (by first | (go_simp; done) | (go_simp; rfl) | (refine Eq.trans (b := Value.slice (some ⟨_, 0, none⟩) 1 1) rfl ?_; simp [World.setCell])) ?aP (fun _ hk => hk.elim) ?aF ?aO ?aB ?aS ?aL ?_; (case aP => exact rfl); (case aB => exact Sh.bw); (case aF => exact (fun _ _ => trivial)); (case aO => exact (Sh.rl (Kd.R_mono (Kd.R_far (p := ⟨gb311, 2, none⟩) (Kd.R_far (p := ⟨gb311, 1, none⟩) (Kd.R_far (p := ⟨gb311, 0, none⟩) (Kd.R_types HO_5.out BK311.out (by decide)) (fun _ hk => hk.2) (.int .i64 ((rd_T66 l0_1 x14_1).f0))) (fun _ hk => hk.2) (.int .i64 ((rd_T66 l0_1 x14_1).f1))) (fun _ hk => hk.2) (.int .i64 ((rd_T66 l0_1 x14_1).f2))) (fun _ hk => trivial)))); (case aS => exact (below_size Sh.bw)); (case aL => have := LMc62.out; omega); intro v335 w67 ho hb hg hat; rw [← Ny334.out] at ho; have n0_ := am_ (blk_grown (g := gb306) (o := .cells #[.int .i64 a0_0, .slice (some ad310) l0_1.length c0_1, .slice A0_2 l0_2.length c0_2] 27 (0, 0)) (by refine Sh.pl ?_; refine blk_far ?_ NB306_311.out _; refine Sh.pl ?_; refine blk_far ?_ NB306_311.out _; refine Sh.pl ?_; refine blk_far ?_ NB306_311.out _; refine Sh.pl ?_; exact BK306.out) hg (Kd.R_ne HO_5.out BK306.out (by decide))); have n1_ := am_ (blk_grown (g := gb311) (o := .cells #[.int .i64 ((rd_T66 l0_1 x14_1).f0), .int .i64 ((rd_T66 l0_1 x14_1).f1), .int .i64 ((rd_T66 l0_1 x14_1).f2)] 66 (0, 0)) (by refine Sh.pl ?_; refine blk_put (cs := #[.int .i64 ((rd_T66 l0_1 x14_1).f0), .int .i64 ((rd_T66 l0_1 x14_1).f1), .int .i64 0]) ?_ 2 _ rfl; refine Sh.pl ?_; refine blk_put (cs := #[.int .i64 ((rd_T66 l0_1 x14_1).f0), .int .i64 0, .int .i64 0]) ?_ 1 _ rfl; refine Sh.pl ?_; refine blk_put (cs := #[.int .i64 0, .int .i64 0, .int .i64 0]) ?_ 0 _ rfl; refine Sh.pl ?_; exact BK311.out) hg (Kd.R_ne HO_5.out BK311.out (by decide))); have n2_ := am_ hb; have n3_ := am_ ho; clear BK306; clear BK311; clear HB; clear HO_5; have BK306 := n0_; have BK311 := n1_; have HB := n2_; have HO336 := n3_; clear n0_ n1_ n2_ n3_; clear ho hb hg hat))
               repeat (go_quiet (first | ((with_reducible refine Sh.d 7 ?_); refine Sh.bx (N := 7) (cs := #[.int .i64 0, .int .i64 0, .int .i64 0]) (t := 66) (h := ?_); intro gb311 hg w63 hbox hb; replace HO_5 := am_ (Kd.R_below (Sh.rl HO_5.out) hb); have BK311 := am_ hbox; have GE311 := Sh.ag w hg; replace HB := Sh.hb hb; have NB306_311 := am_ (Sh.nl hg BK306.out); have NB311_306 := am_ (Sh.ng hg BK306.out); replace BK306 := Sh.ab BK306 hb; clear hb hbox hg; have hnb64 := NB311_306.out; have hnc64 := NB306_311.out; obtain ⟨hcz65_0, hcz65_1, hcz65_2, hfz65_0, hfz65_1, hfz65_2⟩ := Sh.b3 BK311.out; obtain ⟨Ao66, co66, eo66⟩ := Kd.R_slice HO_5.out; subst eo66; have p332 : 0 ≤ (((rd_T66 l0_1 x14_1).f1) : Int) := Sh.od; have q332 : ((rd_T66 l0_1 x14_1).f1) < (x5_1.length : Int) := Sh.od; obtain ⟨ad332, e332, hx332_0⟩ := Kd.at_bool (Kd.R_reads' HO_5.out).2.2 ((rd_T66 l0_1 x14_1).f1) p332 q332; cases e332; have hn332_0 : ad332.block ≠ gb311 := Kd.own_blk (Kd.R_ne HO_5.out BK311.out (by decide)); have hn332_1 : ad332.block ≠ gb311 := Kd.own_blk (Kd.R_ne HO_5.out BK311.out (by decide)); have hn332_2 : ad332.block ≠ gb311 := Kd.own_blk (Kd.R_ne HO_5.out BK311.out (by decide)); replace hx332_0 := (cell_far (p := ⟨gb311, 0, none⟩) (by first | (rw [add_block]; exact hn332_0) | (show (Addr.add _ _).block ≠ _; rw [add_block]; exact hn332_0) | exact hn332_0) (.int .i64 ((rd_T66 l0_1 x14_1).f0))).trans hx332_0; replace hx332_0 := (cell_far (p := ⟨gb311, 1, none⟩) (by first | (rw [add_block]; exact hn332_1) | (show (Addr.add _ _).block ≠ _; rw [add_block]; exact hn332_1) | exact hn332_1) (.int .i64 ((rd_T66 l0_1 x14_1).f1))).trans hx332_0; replace hx332_0 := (cell_far (p := ⟨gb311, 2, none⟩) (by first | (rw [add_block]; exact hn332_2) | (show (Addr.add _ _).block ≠ _; rw [add_block]; exact hn332_2) | exact hn332_2) (.int .i64 ((rd_T66 l0_1 x14_1).f2))).trans hx332_0; (try have hy332_0 := fun (n_ : Nat) => (show (((((w63.drewN n_).setCell ⟨gb311, 0, none⟩ (.int .i64 ((rd_T66 l0_1 x14_1).f0))).setCell ⟨gb311, 1, none⟩ (.int .i64 ((rd_T66 l0_1 x14_1).f1))).setCell ⟨gb311, 2, none⟩ (.int .i64 ((rd_T66 l0_1 x14_1).f2)))).cell? _ = some _ from hx332_0)); clear hn332_0; clear hn332_1; clear hn332_2; replace p332 := eq_true p332; replace q332 := eq_true q332; have p333 : 0 ≤ (((rd_T66 l0_1 x14_1).f2) : Int) := Sh.od; have q333 : ((rd_T66 l0_1 x14_1).f2) < (x5_1.length : Int) := Sh.od; obtain ⟨ad333, e333, hx333_0⟩ := Kd.at_bool (Kd.R_reads' HO_5.out).2.2 ((rd_T66 l0_1 x14_1).f2) p333 q333; obtain rfl : ad332 = ad333 := (by injection e333); have hn333_0 : ad332.block ≠ gb311 := Kd.own_blk (Kd.R_ne HO_5.out BK311.out (by decide)); have hn333_1 : ad332.block ≠ gb311 := Kd.own_blk (Kd.R_ne HO_5.out BK311.out (by decide)); have hn333_2 : ad332.block ≠ gb311 := Kd.own_blk (Kd.R_ne HO_5.out BK311.out (by decide)); replace hx333_0 := (cell_far (p := ⟨gb311, 0, none⟩) (by first | (rw [add_block]; exact hn333_0) | (show (Addr.add _ _).block ≠ _; rw [add_block]; exact hn333_0) | exact hn333_0) (.int .i64 ((rd_T66 l0_1 x14_1).f0))).trans hx333_0; replace hx333_0 := (cell_far (p := ⟨gb311, 1, none⟩) (by first | (rw [add_block]; exact hn333_1) | (show (Addr.add _ _).block ≠ _; rw [add_block]; exact hn333_1) | exact hn333_1) (.int .i64 ((rd_T66 l0_1 x14_1).f1))).trans hx333_0; replace hx333_0 := (cell_far (p := ⟨gb311, 2, none⟩) (by first | (rw [add_block]; exact hn333_2) | (show (Addr.add _ _).block ≠ _; rw [add_block]; exact hn333_2) | exact hn333_2) (.int .i64 ((rd_T66 l0_1 x14_1).f2))).trans hx333_0; (try have hy333_0 := fun (n_ : Nat) => (show (((((w63.drewN n_).setCell ⟨gb311, 0, none⟩ (.int .i64 ((rd_T66 l0_1 x14_1).f0))).setCell ⟨gb311, 1, none⟩ (.int .i64 ((rd_T66 l0_1 x14_1).f1))).setCell ⟨gb311, 2, none⟩ (.int .i64 ((rd_T66 l0_1 x14_1).f2)))).cell? _ = some _ from hx333_0)); clear hn333_0; clear hn333_1; clear hn333_2; replace p333 := eq_true p333; replace q333 := eq_true q333) | ((with_reducible refine gate_builtin (b := .append) (xs := #[.tmp 72, .tmp 74]) rfl ?_); at_builtin; refine Kd.R_append Kd.bool (w0 := w) w.heap.size rfl (.tmp 72) (.tmp 74) 35 4 (.bool false) 1 rfl Try.underlying35 info4 rfl (by decide) (by omega) (.slice (some ad332) x5_1.length co66) x5_1 ((rdOf false x5_1 ((rd_T66 l0_1 x14_1).f1)) != (rdOf false x5_1 ((rd_T66 l0_1 x14_1).f2))) [.bool ((rdOf false x5_1 ((rd_T66 l0_1 x14_1).f1)) != (rdOf false x5_1 ((rd_T66 l0_1 x14_1).f2)))] (fun _ => True) (fun _ => False) rfl (by first | (go_simp; done) | (go_simp; rfl) | (refine Eq.trans (b := Value.slice (some ⟨_, 0, none⟩) 1 1) rfl ?_; simp [World.setCell])) ?aP (fun _ hk => hk.elim) ?aF ?aO ?aB ?aS ?aL ?_; (case aP => exact rfl); (case aB => exact Sh.bw); (case aF => exact (fun _ _ => trivial)); (case aO => exact (Sh.rl (Kd.R_mono (Kd.R_far (p := ⟨gb311, 2, none⟩) (Kd.R_far (p := ⟨gb311, 1, none⟩) (Kd.R_far (p := ⟨gb311, 0, none⟩) (Kd.R_types HO_5.out BK311.out (by decide)) (fun _ hk => hk.2) (.int .i64 ((rd_T66 l0_1 x14_1).f0))) (fun _ hk => hk.2) (.int .i64 ((rd_T66 l0_1 x14_1).f1))) (fun _ hk => hk.2) (.int .i64 ((rd_T66 l0_1 x14_1).f2))) (fun _ hk => trivial)))); (case aS => exact (below_size Sh.bw)); (case aL => have := LMc62.out; omega); intro v335 w67 ho hb hg hat; rw [← Ny334.out] at ho; have n0_ := am_ (blk_grown (g := gb306) (o := .cells #[.int .i64 a0_0, .slice (some ad310) l0_1.length c0_1, .slice A0_2 l0_2.length c0_2] 27 (0, 0)) (by refine Sh.pl ?_; refine blk_far ?_ NB306_311.out _; refine Sh.pl ?_; refine blk_far ?_ NB306_311.out _; refine Sh.pl ?_; refine blk_far ?_ NB306_311.out _; refine Sh.pl ?_; exact BK306.out) hg (Kd.R_ne HO_5.out BK306.out (by decide))); have n1_ := am_ (blk_grown (g := gb311) (o := .cells #[.int .i64 ((rd_T66 l0_1 x14_1).f0), .int .i64 ((rd_T66 l0_1 x14_1).f1), .int .i64 ((rd_T66 l0_1 x14_1).f2)] 66 (0, 0)) (by refine Sh.pl ?_; refine blk_put (cs := #[.int .i64 ((rd_T66 l0_1 x14_1).f0), .int .i64 ((rd_T66 l0_1 x14_1).f1), .int .i64 0]) ?_ 2 _ rfl; refine Sh.pl ?_; refine blk_put (cs := #[.int .i64 ((rd_T66 l0_1 x14_1).f0), .int .i64 0, .int .i64 0]) ?_ 1 _ rfl; refine Sh.pl ?_; refine blk_put (cs := #[.int .i64 0, .int .i64 0, .int .i64 0]) ?_ 0 _ rfl; refine Sh.pl ?_; exact BK311.out) hg (Kd.R_ne HO_5.out BK311.out (by decide))); have n2_ := am_ hb; have n3_ := am_ ho; clear BK306; clear BK311; clear HB; clear HO_5; have BK306 := n0_; have BK311 := n1_; have HB := n2_; have HO336 := n3_; clear n0_ n1_ n2_ n3_; clear ho hb hg hat)); try go_wp2_with (first | ((with_reducible refine Sh.d 7 ?_); refine Sh.bx (N := 7) (cs := #[.int .i64 0, .int .i64 0, .int .i64 0]) (t := 66) (h := ?_); intro gb311 hg w63 hbox hb; replace HO_5 := am_ (Kd.R_below (Sh.rl HO_5.out) hb); have BK311 := am_ hbox; have GE311 := Sh.ag w hg; replace HB := Sh.hb hb; have NB306_311 := am_ (Sh.nl hg BK306.out); have NB311_306 := am_ (Sh.ng hg BK306.out); replace BK306 := Sh.ab BK306 hb; clear hb hbox hg; have hnb64 := NB311_306.out; have hnc64 := NB306_311.out; obtain ⟨hcz65_0, hcz65_1, hcz65_2, hfz65_0, hfz65_1, hfz65_2⟩ := Sh.b3 BK311.out; obtain ⟨Ao66, co66, eo66⟩ := Kd.R_slice HO_5.out; subst eo66; have p332 : 0 ≤ (((rd_T66 l0_1 x14_1).f1) : Int) := Sh.od; have q332 : ((rd_T66 l0_1 x14_1).f1) < (x5_1.length : Int) := Sh.od; obtain ⟨ad332, e332, hx332_0⟩ := Kd.at_bool (Kd.R_reads' HO_5.out).2.2 ((rd_T66 l0_1 x14_1).f1) p332 q332; cases e332; have hn332_0 : ad332.block ≠ gb311 := Kd.own_blk (Kd.R_ne HO_5.out BK311.out (by decide)); have hn332_1 : ad332.block ≠ gb311 := Kd.own_blk (Kd.R_ne HO_5.out BK311.out (by decide)); have hn332_2 : ad332.block ≠ gb311 := Kd.own_blk (Kd.R_ne HO_5.out BK311.out (by decide)); replace hx332_0 := (cell_far (p := ⟨gb311, 0, none⟩) (by first | (rw [add_block]; exact hn332_0) | (show (Addr.add _ _).block ≠ _; rw [add_block]; exact hn332_0) | exact hn332_0) (.int .i64 ((rd_T66 l0_1 x14_1).f0))).trans hx332_0; replace hx332_0 := (cell_far (p := ⟨gb311, 1, none⟩) (by first | (rw [add_block]; exact hn332_1) | (show (Addr.add _ _).block ≠ _; rw [add_block]; exact hn332_1) | exact hn332_1) (.int .i64 ((rd_T66 l0_1 x14_1).f1))).trans hx332_0; replace hx332_0 := (cell_far (p := ⟨gb311, 2, none⟩) (by first | (rw [add_block]; exact hn332_2) | (show (Addr.add _ _).block ≠ _; rw [add_block]; exact hn332_2) | exact hn332_2) (.int .i64 ((rd_T66 l0_1 x14_1).f2))).trans hx332_0; (try have hy332_0 := fun (n_ : Nat) => (show (((((w63.drewN n_).setCell ⟨gb311, 0, none⟩ (.int .i64 ((rd_T66 l0_1 x14_1).f0))).setCell ⟨gb311, 1, none⟩ (.int .i64 ((rd_T66 l0_1 x14_1).f1))).setCell ⟨gb311, 2, none⟩ (.int .i64 ((rd_T66 l0_1 x14_1).f2)))).cell? _ = some _ from hx332_0)); clear hn332_0; clear hn332_1; clear hn332_2; replace p332 := eq_true p332; replace q332 := eq_true q332; have p333 : 0 ≤ (((rd_T66 l0_1 x14_1).f2) : Int) := Sh.od; have q333 : ((rd_T66 l0_1 x14_1).f2) < (x5_1.length : Int) := Sh.od; obtain ⟨ad333, e333, hx333_0⟩ := Kd.at_bool (Kd.R_reads' HO_5.out).2.2 ((rd_T66 l0_1 x14_1).f2) p333 q333; obtain rfl : ad332 = ad333 := (by injection e333); have hn333_0 : ad332.block ≠ gb311 := Kd.own_blk (Kd.R_ne HO_5.out BK311.out (by decide)); have hn333_1 : ad332.block ≠ gb311 := Kd.own_blk (Kd.R_ne HO_5.out BK311.out (by decide)); have hn333_2 : ad332.block ≠ gb311 := Kd.own_blk (Kd.R_ne HO_5.out BK311.out (by decide)); replace hx333_0 := (cell_far (p := ⟨gb311, 0, none⟩) (by first | (rw [add_block]; exact hn333_0) | (show (Addr.add _ _).block ≠ _; rw [add_block]; exact hn333_0) | exact hn333_0) (.int .i64 ((rd_T66 l0_1 x14_1).f0))).trans hx333_0; replace hx333_0 := (cell_far (p := ⟨gb311, 1, none⟩) (by first | (rw [add_block]; exact hn333_1) | (show (Addr.add _ _).block ≠ _; rw [add_block]; exact hn333_1) | exact hn333_1) (.int .i64 ((rd_T66 l0_1 x14_1).f1))).trans hx333_0; replace hx333_0 := (cell_far (p := ⟨gb311, 2, none⟩) (by first | (rw [add_block]; exact hn333_2) | (show (Addr.add _ _).block ≠ _; rw [add_block]; exact hn333_2) | exact hn333_2) (.int .i64 ((rd_T66 l0_1 x14_1).f2))).trans hx333_0; (try have hy333_0 := fun (n_ : Nat) => (show (((((w63.drewN n_).setCell ⟨gb311, 0, none⟩ (.int .i64 ((rd_T66 l0_1 x14_1).f0))).setCell ⟨gb311, 1, none⟩ (.int .i64 ((rd_T66 l0_1 x14_1).f1))).setCell ⟨gb311, 2, none⟩ (.int .i64 ((rd_T66 l0_1 x14_1).f2)))).cell? _ = some _ from hx333_0)); clear hn333_0; clear hn333_1; clear hn333_2; replace p333 := eq_true p333; replace q333 := eq_true q333) | ((with_reducible refine gate_builtin (b := .append) (xs := #[.tmp 72, .tmp 74]) rfl ?_); at_builtin; refine Kd.R_append Kd.bool (w0 := w) w.heap.size rfl (.tmp 72) (.tmp 74) 35 4 (.bool false) 1 rfl Try.underlying35 info4 rfl (by decide) (by omega) (.slice (some ad332) x5_1.length co66) x5_1 ((rdOf false x5_1 ((rd_T66 l0_1 x14_1).f1)) != (rdOf false x5_1 ((rd_T66 l0_1 x14_1).f2))) [.bool ((rdOf false x5_1 ((rd_T66 l0_1 x14_1).f1)) != (rdOf false x5_1 ((rd_T66 l0_1 x14_1).f2)))] (fun _ => True) (fun _ => False) rfl (by first | (go_simp; done) | (go_simp; rfl) | (refine Eq.trans (b := Value.slice (some ⟨_, 0, none⟩) 1 1) rfl ?_; simp [World.setCell])) ?aP (fun _ hk => hk.elim) ?aF ?aO ?aB ?aS ?aL ?_; (case aP => exact rfl); (case aB => exact Sh.bw); (case aF => exact (fun _ _ => trivial)); (case aO => exact (Sh.rl (Kd.R_mono (Kd.R_far (p := ⟨gb311, 2, none⟩) (Kd.R_far (p := ⟨gb311, 1, none⟩) (Kd.R_far (p := ⟨gb311, 0, none⟩) (Kd.R_types HO_5.out BK311.out (by decide)) (fun _ hk => hk.2) (.int .i64 ((rd_T66 l0_1 x14_1).f0))) (fun _ hk => hk.2) (.int .i64 ((rd_T66 l0_1 x14_1).f1))) (fun _ hk => hk.2) (.int .i64 ((rd_T66 l0_1 x14_1).f2))) (fun _ hk => trivial)))); (case aS => exact (below_size Sh.bw)); (case aL => have := LMc62.out; omega); intro v335 w67 ho hb hg hat; rw [← Ny334.out] at ho; have n0_ := am_ (blk_grown (g := gb306) (o := .cells #[.int .i64 a0_0, .slice (some ad310) l0_1.length c0_1, .slice A0_2 l0_2.length c0_2] 27 (0, 0)) (by refine Sh.pl ?_; refine blk_far ?_ NB306_311.out _; refine Sh.pl ?_; refine blk_far ?_ NB306_311.out _; refine Sh.pl ?_; refine blk_far ?_ NB306_311.out _; refine Sh.pl ?_; exact BK306.out) hg (Kd.R_ne HO_5.out BK306.out (by decide))); have n1_ := am_ (blk_grown (g := gb311) (o := .cells #[.int .i64 ((rd_T66 l0_1 x14_1).f0), .int .i64 ((rd_T66 l0_1 x14_1).f1), .int .i64 ((rd_T66 l0_1 x14_1).f2)] 66 (0, 0)) (by refine Sh.pl ?_; refine blk_put (cs := #[.int .i64 ((rd_T66 l0_1 x14_1).f0), .int .i64 ((rd_T66 l0_1 x14_1).f1), .int .i64 0]) ?_ 2 _ rfl; refine Sh.pl ?_; refine blk_put (cs := #[.int .i64 ((rd_T66 l0_1 x14_1).f0), .int .i64 0, .int .i64 0]) ?_ 1 _ rfl; refine Sh.pl ?_; refine blk_put (cs := #[.int .i64 0, .int .i64 0, .int .i64 0]) ?_ 0 _ rfl; refine Sh.pl ?_; exact BK311.out) hg (Kd.R_ne HO_5.out BK311.out (by decide))); have n2_ := am_ hb; have n3_ := am_ ho; clear BK306; clear BK311; clear HB; clear HO_5; have BK306 := n0_; have BK311 := n1_; have HB := n2_; have HO336 := n3_; clear n0_ n1_ n2_ n3_; clear ho hb hg hat)))
               go_roundg k1
               case measure => have := HK1.out; omega
               case rel => exact ⟨(y334), (wrap64 (x14_1 + 1)), (Sh.es), H', ⟨by have := HK1.out; omega⟩, ⟨Sh.rl HO336.out⟩, ⟨by refine Sh.pl ?_; exact BK306.out⟩, ⟨Sh.bw⟩⟩
              ·rw [if_neg c62] at H
               exact absurd H (by simp)
             ·rw [if_neg c61] at H
              exact absurd H (by simp)
            ·rw [if_neg c60] at H
             exact absurd H (by simp)
           ·rw [if_neg c59] at H
            exact absurd H (by simp)
          ·rw [if_neg c58] at H
           exact absurd H (by simp)
         ·rw [if_neg c57] at H
          have c57b0 : (((rd_T66 l0_1 x14_1).f0) == 5) = false := beq_eq_false_iff_ne.mpr c57
          have c57b1 : (((rd_T66 l0_1 x14_1).f0) != 5) = true := bne_iff_ne.mpr c57
          by_cases c68 : x5_1.length < 140737488355328
          ·rw [if_pos c68] at H
           have LMc68 := am_ c68
           clear c68
           obtain ⟨y337, hy337⟩ : ∃ y_ : List Bool, y_ = (x5_1 ++ [(((rd_T66 l0_1 x14_1).f1) == 1)]) := ⟨_, rfl⟩
           replace H : (impl_Circuit_allWires.l0 k1 y337 l0_1 (l0_1.length : Int) (wrap64 (x14_1 + 1))) = some r := by first | (rw [hy337]; with_reducible exact H) | (have H2_ := (Option.bind_some _ _).symm.trans H; rw [hy337]; with_reducible exact H2_) | (have H2_ := (Option.bind_some _ _).symm.trans H; with_reducible exact H2_) | with_reducible exact H | (rw [hy337]; exact H) | exact H
           have Ny337 := am_ hy337
           clear hy337
           have H' := am_ H
           clear H
           have p310 : 0 ≤ (x14_1 : Int) := Sh.od
           have q310 : x14_1 < (l0_1.length : Int) := Sh.od
           obtain ⟨ad310, e310, hx310_0, hx310_1, hx310_2⟩ := at_T66 HR0_1.out x14_1 p310 q310
           cases e310
           try replace hx310_0 := Sh.cw hx310_0
           try replace hx310_1 := Sh.cw hx310_1
           try replace hx310_2 := Sh.cw hx310_2
           replace p310 := eq_true p310
           replace q310 := eq_true q310
           go_wp2_with (first | ((with_reducible refine Sh.d 7 ?_); refine Sh.bx (N := 7) (cs := #[.int .i64 0, .int .i64 0, .int .i64 0]) (t := 66) (h := ?_); intro gb311 hg w69 hbox hb; replace HO_5 := am_ (Kd.R_below (Sh.rl HO_5.out) hb); have BK311 := am_ hbox; have GE311 := Sh.ag w hg; replace HB := Sh.hb hb; have NB306_311 := am_ (Sh.nl hg BK306.out); have NB311_306 := am_ (Sh.ng hg BK306.out); replace BK306 := Sh.ab BK306 hb; clear hb hbox hg; have hnb70 := NB311_306.out; have hnc70 := NB306_311.out; obtain ⟨hcz71_0, hcz71_1, hcz71_2, hfz71_0, hfz71_1, hfz71_2⟩ := Sh.b3 BK311.out) | ((with_reducible refine gate_builtin (b := .append) (xs := #[.tmp 72, .tmp 74]) rfl ?_); at_builtin; refine Kd.R_append Kd.bool (w0 := w) w.heap.size rfl (.tmp 72) (.tmp 74) 35 4 (.bool false) 1 rfl Try.underlying35 info4 rfl (by decide) (by omega) u5 x5_1 (((rd_T66 l0_1 x14_1).f1) == 1) [.bool (((rd_T66 l0_1 x14_1).f1) == 1)] (fun _ => True) (fun _ => False) rfl (by first | (go_simp; done) | (go_simp; rfl) | (refine Eq.trans (b := Value.slice (some ⟨_, 0, none⟩) 1 1) rfl ?_; simp [World.setCell])) ?aP (fun _ hk => hk.elim) ?aF ?aO ?aB ?aS ?aL ?_; (case aP => exact rfl); (case aB => exact Sh.bw); (case aF => exact (fun _ _ => trivial)); (case aO => exact (Sh.rl (Kd.R_mono (Kd.R_far (p := ⟨gb311, 2, none⟩) (Kd.R_far (p := ⟨gb311, 1, none⟩) (Kd.R_far (p := ⟨gb311, 0, none⟩) (Kd.R_types HO_5.out BK311.out (by decide)) (fun _ hk => hk.2) (.int .i64 ((rd_T66 l0_1 x14_1).f0))) (fun _ hk => hk.2) (.int .i64 ((rd_T66 l0_1 x14_1).f1))) (fun _ hk => hk.2) (.int .i64 ((rd_T66 l0_1 x14_1).f2))) (fun _ hk => trivial)))); (case aS => exact (below_size Sh.bw)); (case aL => have := LMc68.out; omega); intro v338 w72 ho hb hg hat; rw [← Ny337.out] at ho; have n0_ := am_ (blk_grown (g := gb306) (o := .cells #[.int .i64 a0_0, .slice (some ad310) l0_1.length c0_1, .slice A0_2 l0_2.length c0_2] 27 (0, 0)) (by refine Sh.pl ?_; refine blk_far ?_ NB306_311.out _; refine Sh.pl ?_; refine blk_far ?_ NB306_311.out _; refine Sh.pl ?_; refine blk_far ?_ NB306_311.out _; refine Sh.pl ?_; exact BK306.out) hg (Kd.R_ne HO_5.out BK306.out (by decide))); have n1_ := am_ (blk_grown (g := gb311) (o := .cells #[.int .i64 ((rd_T66 l0_1 x14_1).f0), .int .i64 ((rd_T66 l0_1 x14_1).f1), .int .i64 ((rd_T66 l0_1 x14_1).f2)] 66 (0, 0)) (by refine Sh.pl ?_; refine blk_put (cs := #[.int .i64 ((rd_T66 l0_1 x14_1).f0), .int .i64 ((rd_T66 l0_1 x14_1).f1), .int .i64 0]) ?_ 2 _ rfl; refine Sh.pl ?_; refine blk_put (cs := #[.int .i64 ((rd_T66 l0_1 x14_1).f0), .int .i64 0, .int .i64 0]) ?_ 1 _ rfl; refine Sh.pl ?_; refine blk_put (cs := #[.int .i64 0, .int .i64 0, .int .i64 0]) ?_ 0 _ rfl; refine Sh.pl ?_; exact BK311.out) hg (Kd.R_ne HO_5.out BK311.out (by decide))); have n2_ := am_ hb; have n3_ := am_ ho; clear BK306; clear BK311; clear HB; clear HO_5; have BK306 := n0_; have BK311 := n1_; have HB := n2_; have HO339 := n3_; clear n0_ n1_ n2_ n3_; clear ho hb hg hat))
           repeat (go_quiet (first | ((with_reducible refine Sh.d 7 ?_); refine Sh.bx (N := 7) (cs := #[.int .i64 0, .int .i64 0, .int .i64 0]) (t := 66) (h := ?_); intro gb311 hg w69 hbox hb; replace HO_5 := am_ (Kd.R_below (Sh.rl HO_5.out) hb); have BK311 := am_ hbox; have GE311 := Sh.ag w hg; replace HB := Sh.hb hb; have NB306_311 := am_ (Sh.nl hg BK306.out); have NB311_306 := am_ (Sh.ng hg BK306.out); replace BK306 := Sh.ab BK306 hb; clear hb hbox hg; have hnb70 := NB311_306.out; have hnc70 := NB306_311.out; obtain ⟨hcz71_0, hcz71_1, hcz71_2, hfz71_0, hfz71_1, hfz71_2⟩ := Sh.b3 BK311.out) | ((with_reducible refine gate_builtin (b := .append) (xs := #[.tmp 72, .tmp 74]) rfl ?_); at_builtin; refine Kd.R_append Kd.bool (w0 := w) w.heap.size rfl (.tmp 72) (.tmp 74) 35 4 (.bool false) 1 rfl Try.underlying35 info4 rfl (by decide) (by omega) u5 x5_1 (((rd_T66 l0_1 x14_1).f1) == 1) [.bool (((rd_T66 l0_1 x14_1).f1) == 1)] (fun _ => True) (fun _ => False) rfl (by first | (go_simp; done) | (go_simp; rfl) | (refine Eq.trans (b := Value.slice (some ⟨_, 0, none⟩) 1 1) rfl ?_; simp [World.setCell])) ?aP (fun _ hk => hk.elim) ?aF ?aO ?aB ?aS ?aL ?_; (case aP => exact rfl); (case aB => exact Sh.bw); (case aF => exact (fun _ _ => trivial)); (case aO => exact (Sh.rl (Kd.R_mono (Kd.R_far (p := ⟨gb311, 2, none⟩) (Kd.R_far (p := ⟨gb311, 1, none⟩) (Kd.R_far (p := ⟨gb311, 0, none⟩) (Kd.R_types HO_5.out BK311.out (by decide)) (fun _ hk => hk.2) (.int .i64 ((rd_T66 l0_1 x14_1).f0))) (fun _ hk => hk.2) (.int .i64 ((rd_T66 l0_1 x14_1).f1))) (fun _ hk => hk.2) (.int .i64 ((rd_T66 l0_1 x14_1).f2))) (fun _ hk => trivial)))); (case aS => exact (below_size Sh.bw)); (case aL => have := LMc68.out; omega); intro v338 w72 ho hb hg hat; rw [← Ny337.out] at ho; have n0_ := am_ (blk_grown (g := gb306) (o := .cells #[.int .i64 a0_0, .slice (some ad310) l0_1.length c0_1, .slice A0_2 l0_2.length c0_2] 27 (0, 0)) (by refine Sh.pl ?_; refine blk_far ?_ NB306_311.out _; refine Sh.pl ?_; refine blk_far ?_ NB306_311.out _; refine Sh.pl ?_; refine blk_far ?_ NB306_311.out _; refine Sh.pl ?_; exact BK306.out) hg (Kd.R_ne HO_5.out BK306.out (by decide))); have n1_ := am_ (blk_grown (g := gb311) (o := .cells #[.int .i64 ((rd_T66 l0_1 x14_1).f0), .int .i64 ((rd_T66 l0_1 x14_1).f1), .int .i64 ((rd_T66 l0_1 x14_1).f2)] 66 (0, 0)) (by refine Sh.pl ?_; refine blk_put (cs := #[.int .i64 ((rd_T66 l0_1 x14_1).f0), .int .i64 ((rd_T66 l0_1 x14_1).f1), .int .i64 0]) ?_ 2 _ rfl; refine Sh.pl ?_; refine blk_put (cs := #[.int .i64 ((rd_T66 l0_1 x14_1).f0), .int .i64 0, .int .i64 0]) ?_ 1 _ rfl; refine Sh.pl ?_; refine blk_put (cs := #[.int .i64 0, .int .i64 0, .int .i64 0]) ?_ 0 _ rfl; refine Sh.pl ?_; exact BK311.out) hg (Kd.R_ne HO_5.out BK311.out (by decide))); have n2_ := am_ hb; have n3_ := am_ ho; clear BK306; clear BK311; clear HB; clear HO_5; have BK306 := n0_; have BK311 := n1_; have HB := n2_; have HO339 := n3_; clear n0_ n1_ n2_ n3_; clear ho hb hg hat)); try go_wp2_with (first | ((with_reducible refine Sh.d 7 ?_); refine Sh.bx (N := 7) (cs := #[.int .i64 0, .int .i64 0, .int .i64 0]) (t := 66) (h := ?_); intro gb311 hg w69 hbox hb; replace HO_5 := am_ (Kd.R_below (Sh.rl HO_5.out) hb); have BK311 := am_ hbox; have GE311 := Sh.ag w hg; replace HB := Sh.hb hb; have NB306_311 := am_ (Sh.nl hg BK306.out); have NB311_306 := am_ (Sh.ng hg BK306.out); replace BK306 := Sh.ab BK306 hb; clear hb hbox hg; have hnb70 := NB311_306.out; have hnc70 := NB306_311.out; obtain ⟨hcz71_0, hcz71_1, hcz71_2, hfz71_0, hfz71_1, hfz71_2⟩ := Sh.b3 BK311.out) | ((with_reducible refine gate_builtin (b := .append) (xs := #[.tmp 72, .tmp 74]) rfl ?_); at_builtin; refine Kd.R_append Kd.bool (w0 := w) w.heap.size rfl (.tmp 72) (.tmp 74) 35 4 (.bool false) 1 rfl Try.underlying35 info4 rfl (by decide) (by omega) u5 x5_1 (((rd_T66 l0_1 x14_1).f1) == 1) [.bool (((rd_T66 l0_1 x14_1).f1) == 1)] (fun _ => True) (fun _ => False) rfl (by first | (go_simp; done) | (go_simp; rfl) | (refine Eq.trans (b := Value.slice (some ⟨_, 0, none⟩) 1 1) rfl ?_; simp [World.setCell])) ?aP (fun _ hk => hk.elim) ?aF ?aO ?aB ?aS ?aL ?_; (case aP => exact rfl); (case aB => exact Sh.bw); (case aF => exact (fun _ _ => trivial)); (case aO => exact (Sh.rl (Kd.R_mono (Kd.R_far (p := ⟨gb311, 2, none⟩) (Kd.R_far (p := ⟨gb311, 1, none⟩) (Kd.R_far (p := ⟨gb311, 0, none⟩) (Kd.R_types HO_5.out BK311.out (by decide)) (fun _ hk => hk.2) (.int .i64 ((rd_T66 l0_1 x14_1).f0))) (fun _ hk => hk.2) (.int .i64 ((rd_T66 l0_1 x14_1).f1))) (fun _ hk => hk.2) (.int .i64 ((rd_T66 l0_1 x14_1).f2))) (fun _ hk => trivial)))); (case aS => exact (below_size Sh.bw)); (case aL => have := LMc68.out; omega); intro v338 w72 ho hb hg hat; rw [← Ny337.out] at ho; have n0_ := am_ (blk_grown (g := gb306) (o := .cells #[.int .i64 a0_0, .slice (some ad310) l0_1.length c0_1, .slice A0_2 l0_2.length c0_2] 27 (0, 0)) (by refine Sh.pl ?_; refine blk_far ?_ NB306_311.out _; refine Sh.pl ?_; refine blk_far ?_ NB306_311.out _; refine Sh.pl ?_; refine blk_far ?_ NB306_311.out _; refine Sh.pl ?_; exact BK306.out) hg (Kd.R_ne HO_5.out BK306.out (by decide))); have n1_ := am_ (blk_grown (g := gb311) (o := .cells #[.int .i64 ((rd_T66 l0_1 x14_1).f0), .int .i64 ((rd_T66 l0_1 x14_1).f1), .int .i64 ((rd_T66 l0_1 x14_1).f2)] 66 (0, 0)) (by refine Sh.pl ?_; refine blk_put (cs := #[.int .i64 ((rd_T66 l0_1 x14_1).f0), .int .i64 ((rd_T66 l0_1 x14_1).f1), .int .i64 0]) ?_ 2 _ rfl; refine Sh.pl ?_; refine blk_put (cs := #[.int .i64 ((rd_T66 l0_1 x14_1).f0), .int .i64 0, .int .i64 0]) ?_ 1 _ rfl; refine Sh.pl ?_; refine blk_put (cs := #[.int .i64 0, .int .i64 0, .int .i64 0]) ?_ 0 _ rfl; refine Sh.pl ?_; exact BK311.out) hg (Kd.R_ne HO_5.out BK311.out (by decide))); have n2_ := am_ hb; have n3_ := am_ ho; clear BK306; clear BK311; clear HB; clear HO_5; have BK306 := n0_; have BK311 := n1_; have HB := n2_; have HO339 := n3_; clear n0_ n1_ n2_ n3_; clear ho hb hg hat)))
           go_roundg k1
           case measure => have := HK1.out; omega
           case rel => exact ⟨(y337), (wrap64 (x14_1 + 1)), (Sh.es), H', ⟨by have := HK1.out; omega⟩, ⟨Sh.rl HO339.out⟩, ⟨by refine Sh.pl ?_; exact BK306.out⟩, ⟨Sh.bw⟩⟩
          ·rw [if_neg c68] at H
           exact absurd H (by simp)
     ·rw [if_neg c9] at H
      exact absurd H (by simp)
    ·rw [if_neg c8] at H
     exact absurd H (by simp)
   ·rw [if_neg c7] at H
    have c7b0 := decide_eq_false c7
    clear c7
    obtain rfl := Option.some.inj H
    go_wp2
    repeat (go_quiet (fail); try go_wp2)
    go_ret
    exact ⟨_, Sh.eR, Sh.rl HO_5.out, Sh.bw⟩
def impl_AllWires.f (k : Nat) (a0_0 : Int) (l0_1 : List (S66)) (l0_2 : List Int) (l1 : List Bool) : Option (List Bool × Bool) := (impl_GoodCircuit.f k a0_0 l0_1 l0_2).bind fun t341 => (if t341 = true then (if (l1.length : Int) = a0_0 then ((impl_Circuit_allWires.f k a0_0 l0_1 l0_2 l1).bind fun t342 => (some (t342, true))) else (some (([] : List Bool), false))) else (some (([] : List Bool), false)))
theorem impl_AllWires.mono : ∀ a0 a1 a2 a3 k, LeO (impl_AllWires.f k a0 a1 a2 a3) (impl_AllWires.f (k + 1) a0 a1 a2 a3) := by
 intro a0 a1 a2 a3 k
 unfold impl_AllWires.f
 repeat' with_reducible first | apply impl_Circuit_allWires.mono | apply impl_GoodCircuit.mono | exact LeO.refl _ | exact LeO.none _ | apply LeO.ite | refine LeO.bind ?_ fun _ => ?_
theorem impl_AllWires.calls (k : Nat) (a0_0 : Int) (A0_1 : Option Addr) (c0_1 : Nat) (l0_1 : List (S66)) (A0_2 : Option Addr) (c0_2 : Nat) (l0_2 : List Int) (A1 : Option Addr) (c1 : Nat) (l1 : List Bool) (r1 : List Bool) (r2 : Bool) (w : World) (hr0_1 : Kd.C k66 w A0_1 l0_1.length l0_1) (hc0_1 : l0_1.length ≤ c0_1) (hr0_2 : Kd.C (Kd.int .i64) w A0_2 l0_2.length l0_2) (hc0_2 : l0_2.length ≤ c0_2) (hr1 : Kd.C Kd.bool w A1 l1.length l1) (hc1 : l1.length ≤ c1) (h : impl_AllWires.f k a0_0 l0_1 l0_2 l1 = some (r1, r2)) :
  Calls Try.prog 14 #[.agg #[.int .i64 a0_0, .slice A0_1 l0_1.length c0_1, .slice A0_2 l0_2.length c0_2], .slice A1 l1.length c1] w fun e w' => ∃ v0_ : Value, e = .returned (.tuple #[v0_, .bool r2]) ∧ Kd.R Kd.bool 4 w' w.heap.size (fun _ => True) v0_ r1 ∧ Below w.heap.size w w' := by
 have hu27 := Try.underlying27
 have HR0_1 := am_ hr0_1
 have HC0_1 := am_ hc0_1
 clear hr0_1 hc0_1
 have HR0_2 := am_ hr0_2
 have HC0_2 := am_ hc0_2
 clear hr0_2 hc0_2
 have HR1 := am_ hr1
 have HC1 := am_ hc1
 clear hr1 hc1
 have HB := am_ (Below.refl w.heap.size w)
 have H := h
 clear h
 unfold impl_AllWires.f at H
 obtain ⟨t341, A3, H⟩ := Sh.ba H
 by_cases c4 : t341 = true
 ·subst c4
  rw [if_pos rfl] at H
  by_cases c5 : (l1.length : Int) = a0_0
  ·rw [if_pos c5] at H
   have c5b0 : ((l1.length : Int) == a0_0) = true := beq_iff_eq.mpr c5
   have c5b1 : ((l1.length : Int) != a0_0) = false := bne_eq_false_iff_eq.mpr c5
   clear c5
   obtain ⟨t342, A6, H⟩ := Sh.ba H
   simp only [Option.some.injEq, Prod.mk.injEq] at H
   obtain ⟨rfl, rfl⟩ := H
   go_enter Try.func14, Try.ntmps14
   go_wp2_with (first | ((with_reducible refine Sh.d 2 ?_); (try (refine gate_guard (by rfl) ?_; dsimp only)); refine Sh.bz w (N := 2) (cs := #[.int .i64 a0_0, .slice A0_1 l0_1.length c0_1, .slice A0_2 l0_2.length c0_2]) (t := 27) (h := ?_); clear HB; intro gb340 w7 BK340 GE340 HB; obtain ⟨hcz8_0, hcz8_1, hcz8_2, hfz8_0, hfz8_1, hfz8_2⟩ := Sh.b3 BK340.out) | ((with_reducible refine Sh.k 11 ?_); refine Sh.gB (some 7) Try.func11 #[.agg #[.int .i64 a0_0, .slice A0_1 l0_1.length c0_1, .slice A0_2 l0_2.length c0_2]] (impl_GoodCircuit.calls k a0_0 _ _ l0_1 _ _ l0_2 true _ (Sh.cB HR0_1.out) HC0_1.out (Sh.cB HR0_2.out) HC0_2.out A3.out) fun w9 hb => ?_; replace BK340 := Sh.ab BK340 hb; replace HB := Sh.hb hb; (try clear hb); (try clear hb2); (try clear hk); (try clear hi); obtain ⟨hcz10_0, hcz10_1, hcz10_2, hfz10_0, hfz10_1, hfz10_2⟩ := Sh.b3 BK340.out) | ((with_reducible refine Sh.k 41 ?_); refine Sh.gL (some 18) Try.func41 #[.agg #[.int .i64 a0_0, .slice A0_1 l0_1.length c0_1, .slice A0_2 l0_2.length c0_2], .slice A1 l1.length c1] (h := ?_); (with_reducible refine (impl_Circuit_allWires.calls k a0_0 _ _ l0_1 _ _ l0_2 _ _ l1 t342 _ (Sh.cB HR0_1.out) HC0_1.out (Sh.cB HR0_2.out) HC0_2.out (Sh.cB HR1.out) HC1.out A6.out).mono ?_); rintro e w11 ⟨v343, rfl, ho0, hb⟩; refine ⟨_, rfl, ?_⟩; have HO344 := am_ (Kd.R_lower ho0 (below_size Sh.bw)); replace BK340 := Sh.ab BK340 hb; replace HB := Sh.hb hb; (try clear hb); (try clear hb2); (try clear hk); (try clear hi); (try clear ho0)))
   go_ret2
   exact ⟨_, Sh.eR, Sh.rl HO344.out, Sh.bw⟩
  ·rw [if_neg c5] at H
   have c5b0 : ((l1.length : Int) == a0_0) = false := beq_eq_false_iff_ne.mpr c5
   have c5b1 : ((l1.length : Int) != a0_0) = true := bne_iff_ne.mpr c5
   simp only [Option.some.injEq, Prod.mk.injEq] at H
   obtain ⟨rfl, rfl⟩ := H
   go_enter Try.func14, Try.ntmps14
   go_wp2_with (first | ((with_reducible refine Sh.d 2 ?_); (try (refine gate_guard (by rfl) ?_; dsimp only)); refine Sh.bz w (N := 2) (cs := #[.int .i64 a0_0, .slice A0_1 l0_1.length c0_1, .slice A0_2 l0_2.length c0_2]) (t := 27) (h := ?_); clear HB; intro gb340 w12 BK340 GE340 HB; obtain ⟨hcz13_0, hcz13_1, hcz13_2, hfz13_0, hfz13_1, hfz13_2⟩ := Sh.b3 BK340.out) | ((with_reducible refine Sh.k 11 ?_); refine Sh.gB (some 7) Try.func11 #[.agg #[.int .i64 a0_0, .slice A0_1 l0_1.length c0_1, .slice A0_2 l0_2.length c0_2]] (impl_GoodCircuit.calls k a0_0 _ _ l0_1 _ _ l0_2 true _ (Sh.cB HR0_1.out) HC0_1.out (Sh.cB HR0_2.out) HC0_2.out A3.out) fun w14 hb => ?_; replace BK340 := Sh.ab BK340 hb; replace HB := Sh.hb hb; (try clear hb); (try clear hb2); (try clear hk); (try clear hi); obtain ⟨hcz15_0, hcz15_1, hcz15_2, hfz15_0, hfz15_1, hfz15_2⟩ := Sh.b3 BK340.out))
   go_ret2
   exact ⟨_, Sh.eR, by first | exact Kd.R_nil _ _ _ _ _ | exact Kd.N_nil _ _ _ _ _ | exact Kd.V_nil _ _ _ _ _ | exact Kd.Q_nil _ _ _ _ _ | exact Kd.S_nil _ _ _ _ _, Sh.bw⟩
 ·replace c4 := Bool.eq_false_iff.mpr c4
  subst c4
  rw [Sh.nf] at H
  simp only [Option.some.injEq, Prod.mk.injEq] at H
  obtain ⟨rfl, rfl⟩ := H
  go_enter Try.func14, Try.ntmps14
  go_wp2_with (first | ((with_reducible refine Sh.d 2 ?_); (try (refine gate_guard (by rfl) ?_; dsimp only)); refine Sh.bz w (N := 2) (cs := #[.int .i64 a0_0, .slice A0_1 l0_1.length c0_1, .slice A0_2 l0_2.length c0_2]) (t := 27) (h := ?_); clear HB; intro gb340 w16 BK340 GE340 HB; obtain ⟨hcz17_0, hcz17_1, hcz17_2, hfz17_0, hfz17_1, hfz17_2⟩ := Sh.b3 BK340.out) | ((with_reducible refine Sh.k 11 ?_); refine Sh.gB (some 7) Try.func11 #[.agg #[.int .i64 a0_0, .slice A0_1 l0_1.length c0_1, .slice A0_2 l0_2.length c0_2]] (impl_GoodCircuit.calls k a0_0 _ _ l0_1 _ _ l0_2 false _ (Sh.cB HR0_1.out) HC0_1.out (Sh.cB HR0_2.out) HC0_2.out A3.out) fun w18 hb => ?_; replace BK340 := Sh.ab BK340 hb; replace HB := Sh.hb hb; (try clear hb); (try clear hb2); (try clear hk); (try clear hi)))
  go_ret2
  exact ⟨_, Sh.eR, by first | exact Kd.R_nil _ _ _ _ _ | exact Kd.N_nil _ _ _ _ _ | exact Kd.V_nil _ _ _ _ _ | exact Kd.Q_nil _ _ _ _ _ | exact Kd.S_nil _ _ _ _ _, Sh.bw⟩
def laws_carried.l0 : Nat → List Bool → Int → List Int → Int → Int → Option (Int)
 | 0, _, _, _, _, _ => none
 | k + 1, x0, x5, x8, x9, x10 => if x10 < x9 then (if 0 ≤ x10 then (if x10 < (x8.length : Int) then (if (rd x8 x10) ≥ 0 then (if (rd x8 x10) < (x0.length : Int) then (if 0 ≤ (rd x8 x10) then (if rdOf false x0 (rd x8 x10) = true then (if 0 ≤ (IntKind.u64.wrap (x10)) then (laws_carried.l0 k x0 (Go.bits .or .i64 x5 (shl .i64 1 (IntKind.u64.wrap (x10)))) x8 x9 (wrap64 (x10 + 1))) else (none)) else (laws_carried.l0 k x0 x5 x8 x9 (wrap64 (x10 + 1)))) else (none)) else (laws_carried.l0 k x0 x5 x8 x9 (wrap64 (x10 + 1)))) else (laws_carried.l0 k x0 x5 x8 x9 (wrap64 (x10 + 1)))) else (none)) else (none)) else (some x5)
def laws_carried.f (k : Nat) (l0 : List Bool) (l1 : List Int) : Option (Int) := laws_carried.l0 k l0 0 l1 (l1.length : Int) 0
theorem laws_carried.mono_l : ∀ k, (∀ y0 y1 y2 y3 y4, LeO (laws_carried.l0 k y0 y1 y2 y3 y4) (laws_carried.l0 (k + 1) y0 y1 y2 y3 y4))
 | 0 => fun _ _ _ _ _ r h => by simp [laws_carried.l0] at h
 | k + 1 => by
  have ih0 := laws_carried.mono_l k
  ·intro y0 y1 y2 y3 y4
   unfold laws_carried.l0
   repeat' with_reducible first | apply ih0 | exact LeO.refl _ | exact LeO.none _ | apply LeO.ite | refine LeO.bind ?_ fun _ => ?_
theorem laws_carried.mono : ∀ a0 a1 k, LeO (laws_carried.f k a0 a1) (laws_carried.f (k + 1) a0 a1) := by
 intro a0 a1 k
 have ih0 := laws_carried.mono_l k
 unfold laws_carried.f
 repeat' with_reducible first | apply ih0 | exact LeO.refl _ | exact LeO.none _ | apply LeO.ite | refine LeO.bind ?_ fun _ => ?_
theorem laws_carried.calls (k : Nat) (A0 : Option Addr) (c0 : Nat) (l0 : List Bool) (A1 : Option Addr) (c1 : Nat) (l1 : List Int) (r : Int) (w : World) (hr0 : Kd.C Kd.bool w A0 l0.length l0) (hc0 : l0.length ≤ c0) (hr1 : Kd.C (Kd.int .i64) w A1 l1.length l1) (hc1 : l1.length ≤ c1) (h : laws_carried.f k l0 l1 = some r) :
  Calls Try.prog 16 #[.slice A0 l0.length c0, .slice A1 l1.length c1] w fun e w' => e = .returned (.int .i64 r) ∧ Drawn0 w w' := by
 have HR0 := am_ hr0
 have HC0 := am_ hc0
 clear hr0 hc0
 have HR1 := am_ hr1
 have HC1 := am_ hc1
 clear hr1 hc1
 have H := h
 clear h
 unfold laws_carried.f at H
 have H' := am_ H
 clear H
 go_enter Try.func16, Try.ntmps16
 go_wp2
 go_loopg [5, 10] k (fun kq v5 v10 w' => ∃ (x5_1 : Int) (x10_1 : Int), v5 = .int .i64 x5_1 ∧ v10 = .int .i64 x10_1 ∧ Aside0 (laws_carried.l0 kq l0 x5_1 l1 (l1.length : Int) x10_1 = some r) ∧ Aside0 (kq ≤ k) ∧ Drawn0 w w')
 case atStart => exact ⟨(0), (0), (Sh.es), (Sh.es), H', ⟨Nat.le_refl _⟩, Sh.dr⟩
 case round =>
  clear H'
  obtain ⟨x5_1, x10_1, rfl, rfl, HA, HK1, ⟨m1, rfl⟩⟩ := hrel
  cases gk with
  | zero => exact absurd HA.out (by simp [laws_carried.l0])
  | succ k1 =>
   have H := HA.out
   clear HA
   simp only [laws_carried.l0] at H
   by_cases c3 : x10_1 < (l1.length : Int)
   ·rw [if_pos c3] at H
    have c3b0 := decide_eq_true c3
    clear c3
    by_cases c4 : 0 ≤ x10_1
    ·rw [if_pos c4] at H
     have c4b0 := decide_eq_true c4
     clear c4
     by_cases c5 : x10_1 < (l1.length : Int)
     ·rw [if_pos c5] at H
      have c5b0 := decide_eq_true c5
      clear c5
      by_cases c6 : (rd l1 x10_1) ≥ 0
      ·rw [if_pos c6] at H
       have c6b0 : decide (0 ≤ (rd l1 x10_1)) = true := decide_eq_true c6
       clear c6
       by_cases c7 : (rd l1 x10_1) < (l0.length : Int)
       ·rw [if_pos c7] at H
        have c7b0 := decide_eq_true c7
        clear c7
        by_cases c8 : 0 ≤ (rd l1 x10_1)
        ·rw [if_pos c8] at H
         have c8b0 := decide_eq_true c8
         clear c8
         obtain ⟨bq9, hbq9⟩ : ∃ b_ : Bool, b_ = (rdOf false l0 (rd l1 x10_1)) := ⟨_, rfl⟩
         replace H : (if bq9 = true then (if 0 ≤ (IntKind.u64.wrap (x10_1)) then (laws_carried.l0 k1 l0 (Go.bits .or .i64 x5_1 (shl .i64 1 (IntKind.u64.wrap (x10_1)))) l1 (l1.length : Int) (wrap64 (x10_1 + 1))) else (none)) else (laws_carried.l0 k1 l0 x5_1 l1 (l1.length : Int) (wrap64 (x10_1 + 1)))) = some r := by rw [← hbq9] at H; exact H
         have Nbq9 := am_ hbq9
         clear hbq9
         by_cases c10 : bq9 = true
         ·subst c10
          rw [if_pos rfl] at H
          obtain ⟨ji11, hj1⟩ : ∃ j_ : Int, (IntKind.u64.wrap (x10_1)) = j_ := ⟨_, rfl⟩
          replace H : (if 0 ≤ (ji11) then (laws_carried.l0 k1 l0 (Go.bits .or .i64 x5_1 (shl .i64 1 (ji11))) l1 (l1.length : Int) (wrap64 (x10_1 + 1))) else (none)) = some r := by first | (rw [hj1] at H; exact H) | (simp only [hj1] at H ⊢; exact H)
          by_cases c12 : 0 ≤ (ji11)
          ·rw [if_pos c12] at H
           have c12b0 := eq_true c12
           have c12b1 := decide_eq_true c12
           clear c12
           obtain ⟨ji13, hj2⟩ : ∃ j_ : Int, (shl .i64 1 (ji11)) = j_ := ⟨_, rfl⟩
           replace H : (laws_carried.l0 k1 l0 (Go.bits .or .i64 x5_1 (ji13)) l1 (l1.length : Int) (wrap64 (x10_1 + 1))) = some r := by first | (rw [hj2] at H; exact H) | (simp only [hj2] at H ⊢; exact H)
           have hji13_ : (IntKind.i64.wrap (1 * 2 ^ min (ji11).toNat 64)) = ji13 := hj2
           have hji13z : (ji11) ≤ 64 → (IntKind.i64.wrap (1 * 2 ^ (ji11).toNat)) = ji13 := shl_small hj2
           have hji13u : (IntKind.i64.wrap (2 ^ min (ji11).toNat 64)) = ji13 := by have h_ := hji13_; rw [Int.one_mul] at h_; exact h_
           have hji13v : (ji11) ≤ 64 → (IntKind.i64.wrap (2 ^ (ji11).toNat)) = ji13 := fun hle_ => by have h_ := hji13z hle_; rw [Int.one_mul] at h_; exact h_
           have hji13y : (wrap64 (1 * 2 ^ min (ji11).toNat 64)) = ji13 := (i64_w _).symm.trans hji13_
           have hji13x : (ji11) ≤ 64 → (wrap64 (1 * 2 ^ (ji11).toNat)) = ji13 := fun h_ => (i64_w _).symm.trans (hji13z h_)
           have H' := am_ H
           clear H
           have p390 : 0 ≤ (x10_1 : Int) := Sh.od
           have q390 : x10_1 < (l1.length : Int) := Sh.od
           obtain ⟨ad390, e390, hx390_0⟩ := Kd.at_int HR1.out x10_1 p390 q390
           cases e390
           replace p390 := eq_true p390
           replace q390 := eq_true q390
           have p391 : 0 ≤ ((rd l1 x10_1) : Int) := Sh.od
           have q391 : (rd l1 x10_1) < (l0.length : Int) := Sh.od
           obtain ⟨ad391, e391, hx391_0⟩ := Kd.at_bool HR0.out (rd l1 x10_1) p391 q391
           (try rw [← Nbq9.out] at hx391_0)
           cases e391
           replace p391 := eq_true p391
           replace q391 := eq_true q391
           go_wp2
           go_roundg k1
           case measure => have := HK1.out; omega
           case rel => exact ⟨(Go.bits .or .i64 x5_1 (ji13)), (wrap64 (x10_1 + 1)), (by first | rfl | (simp; done) | (simp only [← hj2] <;> (first | rfl | simp)) | (simp [*]; done)), (Sh.es), H', ⟨by have := HK1.out; omega⟩, Sh.dr⟩
          ·rw [if_neg c12] at H
           exact absurd H (by simp)
         ·replace c10 := Bool.eq_false_iff.mpr c10
          subst c10
          rw [Sh.nf] at H
          have H' := am_ H
          clear H
          have p390 : 0 ≤ (x10_1 : Int) := Sh.od
          have q390 : x10_1 < (l1.length : Int) := Sh.od
          obtain ⟨ad390, e390, hx390_0⟩ := Kd.at_int HR1.out x10_1 p390 q390
          cases e390
          replace p390 := eq_true p390
          replace q390 := eq_true q390
          have p391 : 0 ≤ ((rd l1 x10_1) : Int) := Sh.od
          have q391 : (rd l1 x10_1) < (l0.length : Int) := Sh.od
          obtain ⟨ad391, e391, hx391_0⟩ := Kd.at_bool HR0.out (rd l1 x10_1) p391 q391
          (try rw [← Nbq9.out] at hx391_0)
          cases e391
          replace p391 := eq_true p391
          replace q391 := eq_true q391
          go_wp2
          go_roundg k1
          case measure => have := HK1.out; omega
          case rel => exact ⟨(x5_1), (wrap64 (x10_1 + 1)), (Sh.es), (Sh.es), H', ⟨by have := HK1.out; omega⟩, Sh.dr⟩
        ·rw [if_neg c8] at H
         exact absurd H (by simp)
       ·rw [if_neg c7] at H
        have c7b0 := decide_eq_false c7
        clear c7
        have H' := am_ H
        clear H
        have p390 : 0 ≤ (x10_1 : Int) := Sh.od
        have q390 : x10_1 < (l1.length : Int) := Sh.od
        obtain ⟨ad390, e390, hx390_0⟩ := Kd.at_int HR1.out x10_1 p390 q390
        cases e390
        replace p390 := eq_true p390
        replace q390 := eq_true q390
        go_wp2
        go_roundg k1
        case measure => have := HK1.out; omega
        case rel => exact ⟨(x5_1), (wrap64 (x10_1 + 1)), (Sh.es), (Sh.es), H', ⟨by have := HK1.out; omega⟩, Sh.dr⟩
      ·rw [if_neg c6] at H
       have c6b0 : decide (0 ≤ (rd l1 x10_1)) = false := decide_eq_false c6
       clear c6
       have H' := am_ H
       clear H
       have p390 : 0 ≤ (x10_1 : Int) := Sh.od
       have q390 : x10_1 < (l1.length : Int) := Sh.od
       obtain ⟨ad390, e390, hx390_0⟩ := Kd.at_int HR1.out x10_1 p390 q390
       cases e390
       replace p390 := eq_true p390
       replace q390 := eq_true q390
       go_wp2
       go_roundg k1
       case measure => have := HK1.out; omega
       case rel => exact ⟨(x5_1), (wrap64 (x10_1 + 1)), (Sh.es), (Sh.es), H', ⟨by have := HK1.out; omega⟩, Sh.dr⟩
     ·rw [if_neg c5] at H
      exact absurd H (by simp)
    ·rw [if_neg c4] at H
     exact absurd H (by simp)
   ·rw [if_neg c3] at H
    have c3b0 := decide_eq_false c3
    clear c3
    obtain rfl := Option.some.inj H
    go_wp2
    go_ret
    exact ⟨Sh.es, Sh.dr⟩
def spec_DrawLessGates.f (k : Nat) (l0 : List Int) : Option (Int × (List (S66)) × List Int × List Int × List Int) := (spec_DrawAddGates.f k l0).bind fun bt459 => (some (bt459.1, bt459.2.1, bt459.2.2.1, bt459.2.2.2.1, bt459.2.2.2.2.1))
theorem spec_DrawLessGates.mono : ∀ a0 k, LeO (spec_DrawLessGates.f k a0) (spec_DrawLessGates.f (k + 1) a0) := by
 intro a0 k
 unfold spec_DrawLessGates.f
 repeat' with_reducible first | apply spec_DrawAddGates.mono | exact LeO.refl _ | exact LeO.none _ | apply LeO.ite | refine LeO.bind ?_ fun _ => ?_
theorem spec_DrawLessGates.calls (k : Nat) (A0 : Option Addr) (c0 : Nat) (l0 : List Int) (r1 : Int) (r2 : List (S66)) (r3 : List Int) (r4 : List Int) (r5 : List Int) (w : World) (hr0 : Kd.C (Kd.int .u8) w A0 l0.length l0) (hc0 : l0.length ≤ c0) (h : spec_DrawLessGates.f k l0 = some (r1, r2, r3, r4, r5)) :
  Calls Try.prog 18 #[.slice A0 l0.length c0] w fun e w' => ∃ v1_ v2_ v3_ v4_ : Value, e = .returned (.tuple #[.agg #[.int .i64 r1, v1_, v2_], v3_, v4_]) ∧ Kd.R k66 66 w' w.heap.size (fun _ => True) v1_ r2 ∧ Kd.R (Kd.int .i64) 3 w' w.heap.size (fun k_ => some k_ ≠ (v3_ : Value).ownBlock ∧ some k_ ≠ (v4_ : Value).ownBlock) v2_ r3 ∧ Kd.R (Kd.int .i64) 3 w' w.heap.size (fun k_ => some k_ ≠ (v2_ : Value).ownBlock ∧ some k_ ≠ (v4_ : Value).ownBlock) v3_ r4 ∧ Kd.R (Kd.int .i64) 3 w' w.heap.size (fun k_ => some k_ ≠ (v2_ : Value).ownBlock ∧ some k_ ≠ (v3_ : Value).ownBlock) v4_ r5 ∧ Below w.heap.size w w' := by
 have hu27 := Try.underlying27
 have HR0 := am_ hr0
 have HC0 := am_ hc0
 clear hr0 hc0
 have HB := am_ (Below.refl w.heap.size w)
 have H := h
 clear h
 unfold spec_DrawLessGates.f at H
 obtain ⟨⟨t459, t460, t463, t466, t469, t472⟩, A20, H⟩ := Sh.bd H
 have A2 := am_ A20
 clear A20
 simp only [Option.some.injEq, Prod.mk.injEq] at H
 obtain ⟨rfl, rfl, rfl, rfl, rfl⟩ := H
 go_enter Try.func18, Try.ntmps18
 go_wp2_with (first | ((with_reducible refine Sh.d 2 ?_); refine Sh.bz w (N := 2) (cs := #[.int .i64 0, .slice none 0 0, .slice none 0 0]) (t := 27) (h := ?_); clear HB; intro gb458 w3 BK458 GE458 HB) | ((with_reducible refine Sh.k 6 ?_); refine Sh.gL (some 11) Try.func6 #[.slice A0 l0.length c0] (h := ?_); (with_reducible refine (spec_DrawAddGates.calls k _ _ l0 t459 t460 t463 t466 t469 t472 _ (Sh.cB HR0.out) HC0.out A2.out).mono ?_); rintro e w4 ⟨v461, v464, v467, v470, rfl, ho0, ho1, ho2, ho3, hb⟩; refine ⟨_, rfl, ?_⟩; have HO462 := am_ (Kd.R_lower ho0 (below_size Sh.bw)); have HO465 := am_ (Kd.R_lower ho1 (below_size Sh.bw)); have HO468 := am_ (Kd.R_lower ho2 (below_size Sh.bw)); have HO471 := am_ (Kd.R_lower ho3 (below_size Sh.bw)); replace BK458 := Sh.ab BK458 hb; replace HB := Sh.hb hb; (try clear hb); (try clear hb2); (try clear hk); (try clear hi); (try clear ho0); (try clear ho1); (try clear ho2); (try clear ho3)) | ((with_reducible refine Sh.d 5 ?_); refine Sh.bx (N := 5) (cs := #[.int .i64 0, .slice none 0 0, .slice none 0 0]) (t := 27) (h := ?_); intro gb473 hg w5 hbox hb; replace HO462 := am_ (Kd.R_below (Sh.rl HO462.out) hb); replace HO465 := am_ (Kd.R_below (Sh.rl HO465.out) hb); replace HO468 := am_ (Kd.R_below (Sh.rl HO468.out) hb); replace HO471 := am_ (Kd.R_below (Sh.rl HO471.out) hb); have BK473 := am_ hbox; have GE473 := Sh.ag w hg; replace HB := Sh.hb hb; have NB458_473 := am_ (Sh.nl hg BK458.out); have NB473_458 := am_ (Sh.ng hg BK458.out); replace BK458 := Sh.ab BK458 hb; clear hb hbox hg; have hnb6 := NB473_458.out; have hnc6 := NB458_473.out; obtain ⟨hcz7_0, hcz7_1, hcz7_2, hfz7_0, hfz7_1, hfz7_2⟩ := Sh.b3 BK473.out; obtain ⟨Ao8, co8, eo8⟩ := Kd.R_slice HO462.out; subst eo8; obtain ⟨Ao9, co9, eo9⟩ := Kd.R_slice HO465.out; subst eo9; obtain ⟨hcz10_0, hcz10_1, hcz10_2, hfz10_0, hfz10_1, hfz10_2⟩ := Sh.b3 BK458.out))
 refine bodyPost_ret (results_ctt rfl _ _ gb458 27 #[.int .i64 t459, .slice Ao8 t460.length co8, .slice Ao9 t463.length co9] (0, 0) _ rfl (by refine Sh.pl ?_; refine blk_put (cs := #[.int .i64 t459, .slice Ao8 t460.length co8, .slice none 0 0]) ?_ 2 _ rfl; refine Sh.pl ?_; refine blk_put (cs := #[.int .i64 t459, .slice none 0 0, .slice none 0 0]) ?_ 1 _ rfl; refine Sh.pl ?_; refine blk_put (cs := #[.int .i64 0, .slice none 0 0, .slice none 0 0]) ?_ 0 _ rfl; refine Sh.pl ?_; refine blk_far ?_ NB458_473.out _; refine Sh.pl ?_; refine blk_far ?_ NB458_473.out _; refine Sh.pl ?_; refine blk_far ?_ NB458_473.out _; refine Sh.pl ?_; exact BK458.out) Try.underlying27 rfl (by kernel_rfl)) rfl ?_
 exact ⟨_, _, _, _, by first | rfl | (simp [errW_none, errW_some] <;> rfl) | (simp [*, errW_none, errW_some] <;> rfl), Sh.rl (Kd.R_mono (Kd.R_far (p := ⟨gb458, 2, none⟩) (Kd.R_far (p := ⟨gb458, 1, none⟩) (Kd.R_far (p := ⟨gb458, 0, none⟩) (Kd.R_far (p := ⟨gb473, 2, none⟩) (Kd.R_far (p := ⟨gb473, 1, none⟩) (Kd.R_far (p := ⟨gb473, 0, none⟩) (Kd.R_types (Kd.R_types HO462.out BK473.out (by decide)) BK458.out (by decide)) (fun _ hk => hk.1.2) (.int .i64 t459)) (fun _ hk => hk.1.2) (.slice Ao8 t460.length co8)) (fun _ hk => hk.1.2) (.slice Ao9 t463.length co9)) (fun _ hk => hk.2) (.int .i64 t459)) (fun _ hk => hk.2) (.slice Ao8 t460.length co8)) (fun _ hk => hk.2) (.slice Ao9 t463.length co9)) (fun _ hk => trivial)), Sh.rl (Kd.R_mono (Kd.R_far (p := ⟨gb458, 2, none⟩) (Kd.R_far (p := ⟨gb458, 1, none⟩) (Kd.R_far (p := ⟨gb458, 0, none⟩) (Kd.R_far (p := ⟨gb473, 2, none⟩) (Kd.R_far (p := ⟨gb473, 1, none⟩) (Kd.R_far (p := ⟨gb473, 0, none⟩) (Kd.R_types (Kd.R_types HO465.out BK473.out (by decide)) BK458.out (by decide)) (fun _ hk => hk.1.2) (.int .i64 t459)) (fun _ hk => hk.1.2) (.slice Ao8 t460.length co8)) (fun _ hk => hk.1.2) (.slice Ao9 t463.length co9)) (fun _ hk => hk.2) (.int .i64 t459)) (fun _ hk => hk.2) (.slice Ao8 t460.length co8)) (fun _ hk => hk.2) (.slice Ao9 t463.length co9)) (fun _ h => ⟨h.1.1.1, h.1.1.2⟩)), Sh.rl (Kd.R_mono (Kd.R_far (p := ⟨gb458, 2, none⟩) (Kd.R_far (p := ⟨gb458, 1, none⟩) (Kd.R_far (p := ⟨gb458, 0, none⟩) (Kd.R_far (p := ⟨gb473, 2, none⟩) (Kd.R_far (p := ⟨gb473, 1, none⟩) (Kd.R_far (p := ⟨gb473, 0, none⟩) (Kd.R_types (Kd.R_types HO468.out BK473.out (by decide)) BK458.out (by decide)) (fun _ hk => hk.1.2) (.int .i64 t459)) (fun _ hk => hk.1.2) (.slice Ao8 t460.length co8)) (fun _ hk => hk.1.2) (.slice Ao9 t463.length co9)) (fun _ hk => hk.2) (.int .i64 t459)) (fun _ hk => hk.2) (.slice Ao8 t460.length co8)) (fun _ hk => hk.2) (.slice Ao9 t463.length co9)) (fun _ h => ⟨h.1.1.1, h.1.1.2⟩)), Sh.rl (Kd.R_mono (Kd.R_far (p := ⟨gb458, 2, none⟩) (Kd.R_far (p := ⟨gb458, 1, none⟩) (Kd.R_far (p := ⟨gb458, 0, none⟩) (Kd.R_far (p := ⟨gb473, 2, none⟩) (Kd.R_far (p := ⟨gb473, 1, none⟩) (Kd.R_far (p := ⟨gb473, 0, none⟩) (Kd.R_types (Kd.R_types HO471.out BK473.out (by decide)) BK458.out (by decide)) (fun _ hk => hk.1.2) (.int .i64 t459)) (fun _ hk => hk.1.2) (.slice Ao8 t460.length co8)) (fun _ hk => hk.1.2) (.slice Ao9 t463.length co9)) (fun _ hk => hk.2) (.int .i64 t459)) (fun _ hk => hk.2) (.slice Ao8 t460.length co8)) (fun _ hk => hk.2) (.slice Ao9 t463.length co9)) (fun _ h => ⟨h.1.1.1, h.1.1.2⟩)), Sh.bw⟩
def impl_putLess.l0 : Nat → Int → List Int → List Int → Int → Int → Int → List S66 → Option (Int × List S66)
 | 0, _, _, _, _, _, _, _ => none
 | k + 1, ins, a, b, n, i, carry, gs => if i < n then (if 0 ≤ i then (if i < (a.length : Int) then (if i < (b.length : Int) then ((impl_put.f ins gs 5 (rd a i) (rd b i)).bind fun p0 => ((impl_put.f ins p0.2 2 p0.1 0).bind fun p1 => ((impl_put.f ins p1.2 3 p1.1 carry).bind fun p2 => ((impl_put.f ins p2.2 2 (rd a i) 0).bind fun p3 => ((impl_put.f ins p3.2 3 p3.1 (rd b i)).bind fun p4 => ((impl_put.f ins p4.2 4 p2.1 p4.1).bind fun p5 => (impl_putLess.l0 k ins a b n (wrap64 (i + 1)) p5.1 p5.2))))))) else (none)) else (none)) else (none)) else (some (carry, gs))
def impl_putLess.f (k : Nat) (ins : Int) (gs : List S66) (a b : List Int) : Option (Int × List S66) := (impl_put.f ins gs 1 0 0).bind fun p => (impl_putLess.l0 k ins a b (a.length : Int) 0 p.1 p.2)
theorem impl_putLess.mono_l : ∀ k, (∀ y0 y1 y2 y3 y4 y5 y6, LeO (impl_putLess.l0 k y0 y1 y2 y3 y4 y5 y6) (impl_putLess.l0 (k + 1) y0 y1 y2 y3 y4 y5 y6))
 | 0 => fun _ _ _ _ _ _ _ r h => by simp [impl_putLess.l0] at h
 | k + 1 => by
  have ih0 := impl_putLess.mono_l k
  intro y0 y1 y2 y3 y4 y5 y6
  unfold impl_putLess.l0
  repeat' with_reducible first | apply ih0 | exact LeO.refl _ | exact LeO.none _ | apply LeO.ite | refine LeO.bind ?_ fun _ => ?_
theorem impl_putLess.mono : ∀ a0 a1 a2 a3 k, LeO (impl_putLess.f k a0 a1 a2 a3) (impl_putLess.f (k + 1) a0 a1 a2 a3) := by
 intro a0 a1 a2 a3 k
 have ih0 := impl_putLess.mono_l k
 unfold impl_putLess.f
 repeat' with_reducible first | apply ih0 | exact LeO.refl _ | exact LeO.none _ | apply LeO.ite | refine LeO.bind ?_ fun _ => ?_
def impl_putLess.T : Bool × List (List Nat × List Nat) := (true, [([], []), ([], []), ([], []), ([1, 2], [1, 2]), ([3], [3]), ([], []), ([], []), ([5, 6], [5, 6]), ([7], [7]), ([0, 4, 8], [0, 4, 8]), ([9, 9, 0, 1, 2, 3, 4, 5, 6, 7, 8, 9], [9])])
def impl_putLess.B : List Nat := [0, 0, 0, 6, 14, 0, 0, 96, 224, 511, 1023]
theorem impl_putLess.tab5 : rtab .any (opsOf Try.f45 5) = impl_putLess.T := by kernel_rfl
theorem impl_putLess.bits : waitsOk impl_putLess.T.2 impl_putLess.B = true := by kernel_rfl
theorem impl_putLess.calls (k : Nat) (g : Nat) (ok : Nat → Prop) (ins : Int) (gs : List S66) (os : List Int) (A1 : Option Addr) (c1 : Nat) (l1 : List Int) (A2 : Option Addr) (c2 : Nat) (l2 : List Int) (r1 : Int) (r2 : List S66) (w0 w : World) (hI : IsG 27 ok w0 w g ins gs os) (hB : Below w0.heap.size w0 w) (hr1 : Kd.C (Kd.int .i64) w0 A1 l1.length l1) (hr2 : Kd.C (Kd.int .i64) w0 A2 l2.length l2) (h : impl_putLess.f k ins gs l1 l2 = some (r1, r2)) :
  Calls Try.prog 45 #[.pointer (some ⟨g, 0, none⟩), .slice A1 l1.length c1, .slice A2 l2.length c2] w fun e w' => e = .returned (.int .i64 r1) ∧ IsG 27 ok w0 w' g ins r2 os ∧ Below w0.heap.size w0 w' ∧ KeepG w w' g := by
 have HI := am_ hI
 have HB := am_ hB
 have HL := am_ hB.size
 have HK := am_ (KeepG.refl w g)
 have HR1 := am_ hr1
 have HR2 := am_ hr2
 clear hI hB hr1 hr2
 unfold impl_putLess.f at h
 obtain ⟨⟨x0, g0⟩, F0, h⟩ := Sh.ba h
 have H' := am_ h
 clear h
 go_enter Try.func45, Try.ntmps45
 go_wp2_with (first | (go_at_call 55; (with_reducible refine (impl_put.calls g ok ins gs os 1 0 0 x0 g0 w0 _ ?side1 ?side2 F0.out).mono ?_); (case side1 => repeat (first | (with_reducible first | exact HI.out | apply IsG.alloc | apply IsG.drewN | apply IsG.drew) | exact HI.out)); (case side2 => repeat (first | (with_reducible first | exact HB.out | apply below_alloc | apply pw_below_drewN | apply below_drew1) | exact HB.out | with_reducible refine Below.alloc ?_ (by first | exact HL.out | exact Nat.le_trans HL.out HK.out.1) _)); rintro e w1 ⟨rfl, hi, hb, hk⟩; have n2_ := am_ ((by first | exact KeepG.trans HK.out hk | exact KeepG.trans (KeepG.alloc HK.out _) hk) : KeepG w w1 g); clear HI HB HK; have HI := am_ hi; have HB := am_ hb; have HK := n2_; clear hi hb hk n2_))
 go_loopg [7, 18] k (fun kq v7 v18 w' => ∃ (xi xc : Int) (xg : List S66), v7 = .int .i64 xc ∧ v18 = .int .i64 xi ∧ Aside0 (impl_putLess.l0 kq ins l1 l2 (l1.length : Int) xi xc xg = some (r1, r2)) ∧ Aside0 (kq ≤ k) ∧ Aside0 (IsG 27 ok w0 w' g ins xg os) ∧ Aside0 (KeepG w w' g) ∧ Aside0 (Below w0.heap.size w0 w'))
 case atStart => exact ⟨0, x0, g0, rfl, rfl, H', ⟨Nat.le_refl _⟩, ⟨by repeat (first | (with_reducible first | exact HI.out | apply IsG.alloc | apply IsG.drewN | apply IsG.drew) | exact HI.out)⟩, ⟨by first | exact HK.out | exact KeepG.alloc HK.out _⟩, ⟨by repeat (first | (with_reducible first | exact HB.out | apply below_alloc | apply pw_below_drewN | apply below_drew1) | exact HB.out | with_reducible refine Below.alloc ?_ (by first | exact HL.out | exact Nat.le_trans HL.out HK.out.1) _)⟩⟩
 case round =>
  clear H'
  obtain ⟨xi, xc, xg, rfl, rfl, HA, HK1, HI, HK, HB⟩ := hrel
  cases gk with
  | zero => exact absurd HA.out (by simp [impl_putLess.l0])
  | succ k1 =>
   have H := HA.out
   clear HA
   simp only [impl_putLess.l0] at H
   by_cases c4 : xi < (l1.length : Int)
   ·rw [if_pos c4] at H
    have c4b0 := decide_eq_true c4
    by_cases c5 : 0 ≤ xi
    ·rw [if_pos c5, if_pos c4] at H
     by_cases c6 : xi < (l2.length : Int)
     ·rw [if_pos c6] at H
      obtain ⟨⟨xx, gx⟩, Fx, H⟩ := Sh.ba H
      obtain ⟨⟨xn, gn⟩, Fn, H⟩ := Sh.ba H
      obtain ⟨⟨xp, gp⟩, Fp, H⟩ := Sh.ba H
      obtain ⟨⟨xm, gm⟩, Fm, H⟩ := Sh.ba H
      obtain ⟨⟨xq, gq⟩, Fq, H⟩ := Sh.ba H
      obtain ⟨⟨xu, gu⟩, Fu, H⟩ := Sh.ba H
      have H' := am_ H
      clear H
      obtain ⟨ad1, e1, hx1⟩ := Kd.at_int HR1.out xi c5 c4
      subst e1
      obtain ⟨ad2, e2, hx2⟩ := Kd.at_int HR2.out xi c5 c6
      subst e2
      go_wp2
      refine start_ (n := 11) (S := fun w' => w'.cell? (ad1.add xi.toNat) = some (.int .i64 (rd l1 xi)) ∧ w'.cell? (ad2.add xi.toNat) = some (.int .i64 (rd l2 xi))) (ds := []) (Sh.nm 11 0) (by kernel_rfl) rfl rfl ⟨(HB.out.cell (World.block_lt_of_cell? w0 _ hx1)).trans hx1, (HB.out.cell (World.block_lt_of_cell? w0 _ hx2)).trans hx2⟩ (fun hHeld => ?_)
      refine with_tabW impl_putLess.tab5 impl_putLess.bits (fun HT_ HW_ => ?_)
      refine Sh.qA 0 ?_; refine Sh.qA 1 ?_; refine Sh.qA 2 ?_; refine Sh.qA 3 ?_; refine Sh.qT 4 hHeld ?_; refine Sh.qA 5 ?_; refine Sh.qA 6 ?_; refine Sh.qA 7 ?_; refine Sh.qT 8 hHeld ?_
      refine Sh.oC 9 Try.func55 #[.pointer (some ⟨g, 0, none⟩), .int .i64 5, .int .i64 (rd l1 xi), .int .i64 (rd l2 xi)] fun K hK => ?_
      (with_reducible refine (impl_put.calls g ok ins xg os 5 (rd l1 xi) (rd l2 xi) xx gx w0 _ ?side1 ?side2 Fx.out).mono ?_)
      (case side1 => repeat (first | (with_reducible first | exact HI.out | apply IsG.alloc | apply IsG.drewN | apply IsG.drew) | exact HI.out))
      (case side2 => repeat (first | (with_reducible first | exact HB.out | apply below_alloc | apply pw_below_drewN | apply below_drew1) | exact HB.out | with_reducible refine Below.alloc ?_ (by first | exact HL.out | exact Nat.le_trans HL.out HK.out.1) _))
      rintro e wx ⟨rfl, hi, hb, hk⟩
      refine ⟨_, rfl, ?_⟩
      have n2_ := am_ ((by first | exact KeepG.trans HK.out hk | exact KeepG.trans (KeepG.alloc HK.out _) hk) : KeepG w wx g)
      clear HI HB HK
      have HI := am_ hi
      have HB := am_ hb
      have HK := n2_
      clear hi hb hk n2_
      refine Sh.kN hK ⟨(HB.out.cell (World.block_lt_of_cell? w0 _ hx1)).trans hx1, (HB.out.cell (World.block_lt_of_cell? w0 _ hx2)).trans hx2⟩ fun hHeld => ?_
      clear hK K
      refine Sh.qA 10 ?_
      refine done_ (done_of HT_.out (by kernel_rfl)) ?_
      go_wp2_with (first | (go_at_call 55; (with_reducible refine (impl_put.calls g ok ins gx os 2 xx 0 xn gn w0 _ ?side1 ?side2 Fn.out).mono ?_); (case side1 => repeat (first | (with_reducible first | exact HI.out | apply IsG.alloc | apply IsG.drewN | apply IsG.drew) | exact HI.out)); (case side2 => repeat (first | (with_reducible first | exact HB.out | apply below_alloc | apply pw_below_drewN | apply below_drew1) | exact HB.out | with_reducible refine Below.alloc ?_ (by first | exact HL.out | exact Nat.le_trans HL.out HK.out.1) _)); rintro e wn ⟨rfl, hi, hb, hk⟩; have n2_ := am_ ((by first | exact KeepG.trans HK.out hk | exact KeepG.trans (KeepG.alloc HK.out _) hk) : KeepG w wn g); clear HI HB HK; have HI := am_ hi; have HB := am_ hb; have HK := n2_; clear hi hb hk n2_) | (go_at_call 55; (with_reducible refine (impl_put.calls g ok ins gn os 3 xn xc xp gp w0 _ ?side1 ?side2 Fp.out).mono ?_); (case side1 => repeat (first | (with_reducible first | exact HI.out | apply IsG.alloc | apply IsG.drewN | apply IsG.drew) | exact HI.out)); (case side2 => repeat (first | (with_reducible first | exact HB.out | apply below_alloc | apply pw_below_drewN | apply below_drew1) | exact HB.out | with_reducible refine Below.alloc ?_ (by first | exact HL.out | exact Nat.le_trans HL.out HK.out.1) _)); rintro e wp ⟨rfl, hi, hb, hk⟩; have n2_ := am_ ((by first | exact KeepG.trans HK.out hk | exact KeepG.trans (KeepG.alloc HK.out _) hk) : KeepG w wp g); clear HI HB HK; have HI := am_ hi; have HB := am_ hb; have HK := n2_; clear hi hb hk n2_; have hc1 := (HB.out.cell (World.block_lt_of_cell? w0 _ hx1)).trans hx1) | (go_at_call 55; (with_reducible refine (impl_put.calls g ok ins gp os 2 (rd l1 xi) 0 xm gm w0 _ ?side1 ?side2 Fm.out).mono ?_); (case side1 => repeat (first | (with_reducible first | exact HI.out | apply IsG.alloc | apply IsG.drewN | apply IsG.drew) | exact HI.out)); (case side2 => repeat (first | (with_reducible first | exact HB.out | apply below_alloc | apply pw_below_drewN | apply below_drew1) | exact HB.out | with_reducible refine Below.alloc ?_ (by first | exact HL.out | exact Nat.le_trans HL.out HK.out.1) _)); rintro e wm ⟨rfl, hi, hb, hk⟩; have n2_ := am_ ((by first | exact KeepG.trans HK.out hk | exact KeepG.trans (KeepG.alloc HK.out _) hk) : KeepG w wm g); clear HI HB HK; have HI := am_ hi; have HB := am_ hb; have HK := n2_; clear hi hb hk n2_; have hc2 := (HB.out.cell (World.block_lt_of_cell? w0 _ hx2)).trans hx2) | (go_at_call 55; (with_reducible refine (impl_put.calls g ok ins gm os 3 xm (rd l2 xi) xq gq w0 _ ?side1 ?side2 Fq.out).mono ?_); (case side1 => repeat (first | (with_reducible first | exact HI.out | apply IsG.alloc | apply IsG.drewN | apply IsG.drew) | exact HI.out)); (case side2 => repeat (first | (with_reducible first | exact HB.out | apply below_alloc | apply pw_below_drewN | apply below_drew1) | exact HB.out | with_reducible refine Below.alloc ?_ (by first | exact HL.out | exact Nat.le_trans HL.out HK.out.1) _)); rintro e wq ⟨rfl, hi, hb, hk⟩; have n2_ := am_ ((by first | exact KeepG.trans HK.out hk | exact KeepG.trans (KeepG.alloc HK.out _) hk) : KeepG w wq g); clear HI HB HK; have HI := am_ hi; have HB := am_ hb; have HK := n2_; clear hi hb hk n2_) | (go_at_call 55; (with_reducible refine (impl_put.calls g ok ins gq os 4 xp xq xu gu w0 _ ?side1 ?side2 Fu.out).mono ?_); (case side1 => repeat (first | (with_reducible first | exact HI.out | apply IsG.alloc | apply IsG.drewN | apply IsG.drew) | exact HI.out)); (case side2 => repeat (first | (with_reducible first | exact HB.out | apply below_alloc | apply pw_below_drewN | apply below_drew1) | exact HB.out | with_reducible refine Below.alloc ?_ (by first | exact HL.out | exact Nat.le_trans HL.out HK.out.1) _)); rintro e wu ⟨rfl, hi, hb, hk⟩; have n2_ := am_ ((by first | exact KeepG.trans HK.out hk | exact KeepG.trans (KeepG.alloc HK.out _) hk) : KeepG w wu g); clear HI HB HK; have HI := am_ hi; have HB := am_ hb; have HK := n2_; clear hi hb hk n2_))
      go_roundg k1
      case measure => have := HK1.out; omega
      case rel => exact ⟨(wrap64 (xi + 1)), _, _, rfl, rfl, H', ⟨by have := HK1.out; omega⟩, ⟨HI.out⟩, ⟨HK.out⟩, ⟨HB.out⟩⟩
     ·rw [if_neg c6] at H
      exact absurd H (by simp)
    ·rw [if_neg c5] at H
     exact absurd H (by simp)
   ·rw [if_neg c4] at H
    have c4b0 := decide_eq_false c4
    simp only [Option.some.injEq, Prod.mk.injEq] at H
    obtain ⟨rfl, rfl⟩ := H
    go_wp2
    go_ret
    exact ⟨Sh.eR, HI.out, HB.out, HK.out⟩

def impl_LessGates_1.f (k : Nat) (ins : Int) (gs : List S66) (l1 l2 : List Int) : Option (Int × List S66) := impl_putLess.f k ins gs l1 l2
theorem impl_LessGates_1.mono : ∀ a0 a1 a2 a3 k, LeO (impl_LessGates_1.f k a0 a1 a2 a3) (impl_LessGates_1.f (k + 1) a0 a1 a2 a3) := impl_putLess.mono
theorem impl_LessGates_1.calls (k : Nat) (g : Nat) (ok : Nat → Prop) (ins : Int) (gs : List S66) (os : List Int) (A1 : Option Addr) (c1 : Nat) (l1 : List Int) (A2 : Option Addr) (c2 : Nat) (l2 : List Int) (r1 : Int) (r2 : List S66) (w0 w : World) (hI : IsG 27 ok w0 w g ins gs os) (hB : Below w0.heap.size w0 w) (hr1 : Kd.C (Kd.int .i64) w0 A1 l1.length l1) (hr2 : Kd.C (Kd.int .i64) w0 A2 l2.length l2) (h : impl_LessGates_1.f k ins gs l1 l2 = some (r1, r2)) (bp1 bp2 : Nat) (hb1 : w0.heap[bp1]? = some (.cells #[.slice A1 l1.length c1] 25 (0, 0))) (hb2 : w0.heap[bp2]? = some (.cells #[.slice A2 l2.length c2] 25 (0, 0))) :
  Calls Try.prog 44 #[.pointer (some ⟨g, 0, none⟩), .pointer (some ⟨bp1, 0, none⟩), .pointer (some ⟨bp2, 0, none⟩)] w fun e w' => e = .returned (.int .i64 r1) ∧ IsG 27 ok w0 w' g ins r2 os ∧ Below w0.heap.size w0 w' ∧ KeepG w w' g := by
 have hc1 : w.cell? ⟨bp1, 0, none⟩ = some (.slice A1 l1.length c1) := (blk_cell ((hB.block _ (blk_lt hb1)).trans hb1) 0).trans rfl
 have hc2 : w.cell? ⟨bp2, 0, none⟩ = some (.slice A2 l2.length c2) := (blk_cell ((hB.block _ (blk_lt hb2)).trans hb2) 0).trans rfl
 have h' : impl_putLess.f k ins gs l1 l2 = some (r1, r2) := h
 go_enter Try.func44, Try.ntmps44
 go_wp2_with (first | (go_at_call 45; (with_reducible refine (impl_putLess.calls k g ok ins gs os _ _ l1 _ _ l2 r1 r2 w0 _ hI hB hr1 hr2 h').mono ?_); rintro e w1 ⟨rfl, hi, hb, hk⟩))
 go_ret
 exact ⟨rfl, hi, hb, hk⟩
def impl_compareGates_by_LessGates.f (k : Nat) (a0_0 : Int) (l0_1 : List S66) (l0_2 : List Int) (l1 l2 : List Int) : Option (Int × List S66 × List Int × Int × Bool) :=
 (impl_areLists.f k a0_0 l0_1 l0_2 l1 l2).bind fun t1 => (if t1 = true then ((impl_copyCircuit.f a0_0 l0_1 l0_2).bind fun c => ((impl_LessGates_1.f k c.1 c.2.1 l1 l2).bind fun p => ((impl_GoodCircuit.f k c.1 p.2 c.2.2).bind fun t4 => (if t4 = true then (some (c.1, p.2, c.2.2, p.1, true)) else (some (0, [], [], 0, false)))))) else (some (0, [], [], 0, false)))
theorem impl_compareGates_by_LessGates.mono : ∀ a0 a1 a2 a3 a4 k, LeO (impl_compareGates_by_LessGates.f k a0 a1 a2 a3 a4) (impl_compareGates_by_LessGates.f (k + 1) a0 a1 a2 a3 a4) := by
 intro a0 a1 a2 a3 a4 k
 unfold impl_compareGates_by_LessGates.f
 repeat' with_reducible first | apply impl_areLists.mono | apply impl_LessGates_1.mono | apply impl_GoodCircuit.mono | exact LeO.refl _ | exact LeO.none _ | apply LeO.ite | refine LeO.bind ?_ fun _ => ?_
theorem impl_compareGates_by_LessGates.calls (k : Nat) (a0_0 : Int) (A0_1 : Option Addr) (c0_1 : Nat) (l0_1 : List (S66)) (A0_2 : Option Addr) (c0_2 : Nat) (l0_2 : List Int) (A1 : Option Addr) (c1 : Nat) (l1 : List Int) (A2 : Option Addr) (c2 : Nat) (l2 : List Int) (r1 : Int) (r2 : List (S66)) (r3 : List Int) (r4 : Int) (r5 : Bool) (w : World) (bp1 bp2 : Nat) (hb1 : w.heap[bp1]? = some (.cells #[.slice A1 l1.length c1] 25 (0, 0))) (hb2 : w.heap[bp2]? = some (.cells #[.slice A2 l2.length c2] 25 (0, 0))) (hr0_1 : Kd.C k66 w A0_1 l0_1.length l0_1) (hc0_1 : l0_1.length ≤ c0_1) (hr0_2 : Kd.C (Kd.int .i64) w A0_2 l0_2.length l0_2) (hc0_2 : l0_2.length ≤ c0_2) (hr1 : Kd.C (Kd.int .i64) w A1 l1.length l1) (hc1 : l1.length ≤ c1) (hr2 : Kd.C (Kd.int .i64) w A2 l2.length l2) (hc2 : l2.length ≤ c2) (h : impl_compareGates_by_LessGates.f k a0_0 l0_1 l0_2 l1 l2 = some (r1, r2, r3, r4, r5)) :
  Calls Try.prog 43 #[.agg #[.int .i64 a0_0, .slice A0_1 l0_1.length c0_1, .slice A0_2 l0_2.length c0_2], .slice A1 l1.length c1, .slice A2 l2.length c2, .func (.func 44) #[] #[.pointer (some ⟨bp1, 0, none⟩), .pointer (some ⟨bp2, 0, none⟩)]] w fun e w' => ∃ v1_ v2_ : Value, e = .returned (.tuple #[.agg #[.int .i64 r1, v1_, v2_], .int .i64 r4, .bool r5]) ∧ Kd.R k66 66 w' w.heap.size (fun _ => True) v1_ r2 ∧ Kd.R (Kd.int .i64) 3 w' w.heap.size (fun _ => True) v2_ r3 ∧ Below w.heap.size w w' := by
 have hu27 := Try.underlying27
 have HR0_1 := am_ hr0_1
 have HC0_1 := am_ hc0_1
 have HR0_2 := am_ hr0_2
 have HC0_2 := am_ hc0_2
 have HR1 := am_ hr1
 have HC1 := am_ hc1
 have HR2 := am_ hr2
 have HC2 := am_ hc2
 clear hr0_1 hc0_1 hr0_2 hc0_2 hr1 hc1 hr2 hc2
 have HB := am_ (Below.refl w.heap.size w)
 have H := h
 clear h
 unfold impl_compareGates_by_LessGates.f at H
 obtain ⟨t1, A1_, H⟩ := Sh.ba H
 by_cases b1_ : t1 = true
 ·subst b1_
  rw [if_pos rfl] at H
  obtain ⟨⟨q1, q2, q3⟩, A4_, H⟩ := Sh.ba H
  obtain ⟨⟨s1, s2⟩, A5_, H⟩ := Sh.ba H
  obtain ⟨t4, A6_, H⟩ := Sh.ba H
  by_cases b4_ : t4 = true
  ·subst b4_
   rw [if_pos rfl] at H
   simp only [Option.some.injEq, Prod.mk.injEq] at H
   obtain ⟨rfl, rfl, rfl, rfl, rfl⟩ := H
   go_enter Try.func43, Try.ntmps43
   go_wp2_with (first | ((with_reducible refine Sh.d 4 ?_); refine Sh.bz w (N := 4) (cs := #[.int .i64 a0_0, .slice A0_1 l0_1.length c0_1, .slice A0_2 l0_2.length c0_2]) (t := 27) (h := ?_); clear HB; intro gb4 w4 BK4 GE4 HB) | ((with_reducible refine Sh.d 8 ?_); refine Sh.bx (N := 8) (cs := #[.int .i64 0, .slice none 0 0, .slice none 0 0]) (t := 27) (h := ?_); intro gb8 hg w5 hbox hb; have BK8 := am_ hbox; have GE8 := Sh.ag w hg; replace HB := Sh.hb hb; replace BK4 := Sh.ab BK4 hb; clear hb hbox hg; obtain ⟨hcz1_0, hcz1_1, hcz1_2, hfz1_0, hfz1_1, hfz1_2⟩ := Sh.b3 BK4.out) | (go_at_call 29; (with_reducible refine (impl_areLists.calls k a0_0 _ _ l0_1 _ _ l0_2 _ _ l1 _ _ l2 true _ (Sh.cB HR0_1.out) HC0_1.out (Sh.cB HR0_2.out) HC0_2.out (Sh.cB HR1.out) HC1.out (Sh.cB HR2.out) HC2.out A1_.out).mono ?_); rintro e w6 ⟨rfl, hb⟩; replace BK4 := Sh.ab BK4 hb; replace BK8 := Sh.ab BK8 hb; replace HB := Sh.hb hb; clear hb; clear hcz1_0 hcz1_1 hcz1_2 hfz1_0 hfz1_1 hfz1_2; obtain ⟨hcz1_0, hcz1_1, hcz1_2, hfz1_0, hfz1_1, hfz1_2⟩ := Sh.b3 BK4.out) | (go_at_call 32; (with_reducible refine (impl_copyCircuit.calls a0_0 _ _ l0_1 _ _ l0_2 q1 q2 q3 _ (Sh.cB HR0_1.out) HC0_1.out (Sh.cB HR0_2.out) HC0_2.out A4_.out).mono ?_); rintro e w10 ⟨v1, v2, rfl, ho1, ho2, hb⟩; have HO1 := am_ (Kd.R_lower ho1 (below_size Sh.bw)); have HO2 := am_ (Kd.R_lower ho2 (below_size Sh.bw)); replace BK8 := Sh.ab BK8 hb; replace HB := Sh.hb hb; clear hb ho1 ho2 BK4; obtain ⟨Ao1, co1, eo1⟩ := Kd.R_slice HO1.out; subst eo1; obtain ⟨Ao2, co2, eo2⟩ := Kd.R_slice HO2.out; subst eo2; clear hcz1_0 hcz1_1 hcz1_2 hfz1_0 hfz1_1 hfz1_2) | ((with_reducible refine Sh.d 11 ?_); refine Sh.bx (N := 11) (cs := #[.int .i64 0, .slice none 0 0, .slice none 0 0]) (t := 27) (h := ?_); intro gs_ hg w11 hbox hb; have BKs := am_ hbox; have GEs := Sh.ag w hg; replace HB := Sh.hb hb; have NB8_s := am_ (Sh.nl hg BK8.out); have NBs_8 := am_ (Sh.ng hg BK8.out); replace BK8 := Sh.ab BK8 hb; have n1_ := am_ (Kd.R_below (Sh.rl HO1.out) hb); have n2_ := am_ (Kd.R_below (Sh.rl HO2.out) hb); clear HO1 HO2; have HO1 := n1_; have HO2 := n2_; clear n1_ n2_ hb hbox hg; obtain ⟨hcz1_0, hcz1_1, hcz1_2, hfz1_0, hfz1_1, hfz1_2⟩ := Sh.b3 BKs.out) | (go_at_call 44; have hb3 := blk_put (cs := #[.int .i64 q1, .slice Ao1 q2.length co1, .slice none 0 0]) (blk_put (cs := #[.int .i64 q1, .slice none 0 0, .slice none 0 0]) (blk_put (cs := #[.int .i64 0, .slice none 0 0, .slice none 0 0]) BKs.out 0 (.int .i64 q1) rfl) 1 (.slice Ao1 q2.length co1) rfl) 2 (.slice Ao2 q3.length co2) rfl; have ho1 : Kd.R k66 66 (((w11.setCell ⟨gs_, 0, none⟩ (.int .i64 q1)).setCell ⟨gs_, 1, none⟩ (.slice Ao1 q2.length co1)).setCell ⟨gs_, 2, none⟩ (.slice Ao2 q3.length co2)) w.heap.size (fun _ => True) (.slice Ao1 q2.length co1) q2 := Kd.R_mono (Kd.R_far (p := ⟨gs_, 2, none⟩) (Kd.R_far (p := ⟨gs_, 1, none⟩) (Kd.R_far (p := ⟨gs_, 0, none⟩) (Kd.R_types HO1.out BKs.out (by decide)) (fun _ hk => hk.2) (.int .i64 q1)) (fun _ hk => hk.2) (.slice Ao1 q2.length co1)) (fun _ hk => hk.2) (.slice Ao2 q3.length co2)) (fun _ _ => trivial); have ho2 : Kd.R (Kd.int .i64) 3 (((w11.setCell ⟨gs_, 0, none⟩ (.int .i64 q1)).setCell ⟨gs_, 1, none⟩ (.slice Ao1 q2.length co1)).setCell ⟨gs_, 2, none⟩ (.slice Ao2 q3.length co2)) w.heap.size (fun _ => True) (.slice Ao2 q3.length co2) q3 := Kd.R_mono (Kd.R_far (p := ⟨gs_, 2, none⟩) (Kd.R_far (p := ⟨gs_, 1, none⟩) (Kd.R_far (p := ⟨gs_, 0, none⟩) (Kd.R_types HO2.out BKs.out (by decide)) (fun _ hk => hk.2) (.int .i64 q1)) (fun _ hk => hk.2) (.slice Ao1 q2.length co1)) (fun _ hk => hk.2) (.slice Ao2 q3.length co2)) (fun _ _ => trivial); have hB3 := below_set (j := 2) (v := .slice Ao2 q3.length co2) (below_set (j := 1) (v := .slice Ao1 q2.length co1) (below_set (j := 0) (v := .int .i64 q1) HB.out GEs.out) GEs.out) GEs.out; have hr8 := blk_far (blk_far (blk_far BK8.out NB8_s.out (p := ⟨gs_, 0, none⟩) (.int .i64 q1)) NB8_s.out (p := ⟨gs_, 1, none⟩) (.slice Ao1 q2.length co1)) NB8_s.out (p := ⟨gs_, 2, none⟩) (.slice Ao2 q3.length co2); have hI : IsG 27 (fun _ => True) w _ gs_ q1 q2 q3 := ⟨Ao1, co1, Ao2, co2, hb3, GEs.out, ho1, ho2⟩; (with_reducible refine (impl_LessGates_1.calls k gs_ (fun _ => True) q1 q2 q3 _ _ l1 _ _ l2 s1 s2 w _ hI hB3 HR1.out HR2.out A5_.out bp1 bp2 hb1 hb2).mono ?_); rintro e w12 ⟨rfl, hi, hb, hk⟩; have n1_ := am_ (KeepG.blk hk hr8 NB8_s.out (by decide)); obtain ⟨Ap1, cp1, Ap2, cp2, bs, ge_, og, oo⟩ := hi; clear HO1 HO2 HB BKs BK8 hb3 ho1 ho2 hB3 hr8 hI hk; have BK8 := n1_; have BKs := am_ bs; have HO1 := am_ og; have HO2 := am_ oo; have HB := am_ hb; clear n1_ bs ge_ og oo hb; clear hcz1_0 hcz1_1 hcz1_2 hfz1_0 hfz1_1 hfz1_2; obtain ⟨hcz1_0, hcz1_1, hcz1_2, hfz1_0, hfz1_1, hfz1_2⟩ := Sh.b3 BKs.out) | (go_at_call 11; (refine (impl_GoodCircuit.calls k q1 _ _ s2 _ _ q3 true _ (Kd.R_reads' HO1.out).2.2 (Kd.R_reads' HO1.out).2.1 (Kd.R_reads' HO2.out).2.2 (Kd.R_reads' HO2.out).2.1 A6_.out).mono ?_); rintro e w13 ⟨rfl, hb⟩; replace HO1 := am_ (Kd.R_below HO1.out hb); replace HO2 := am_ (Kd.R_below HO2.out hb); replace BK8 := Sh.ab BK8 hb; replace BKs := Sh.ab BKs hb; replace HB := Sh.hb hb; clear hb; clear hcz1_0 hcz1_1 hcz1_2 hfz1_0 hfz1_1 hfz1_2; obtain ⟨hcz1_0, hcz1_1, hcz1_2, hfz1_0, hfz1_1, hfz1_2⟩ := Sh.b3 BKs.out; obtain ⟨hdz1_0, hdz1_1, hdz1_2, hgz1_0, hgz1_1, hgz1_2⟩ := Sh.b3 BK8.out))
   refine bodyPost_ret (results_list (rs := [.cell 8 27, .tmp 9, .tmp 10]) rfl (by simp) (.cell gb8 27 #[.int .i64 q1, .slice Ap1 s2.length cp1, .slice Ap2 q3.length cp2] (0, 0) _ rfl (by refine Sh.pl ?_; refine blk_put (cs := #[.int .i64 q1, .slice Ap1 s2.length cp1, .slice none 0 0]) ?_ 2 _ rfl; refine Sh.pl ?_; refine blk_put (cs := #[.int .i64 q1, .slice none 0 0, .slice none 0 0]) ?_ 1 _ rfl; refine Sh.pl ?_; refine blk_put (cs := #[.int .i64 0, .slice none 0 0, .slice none 0 0]) ?_ 0 _ rfl; refine Sh.pl ?_; exact BK8.out) Try.underlying27 rfl (by kernel_rfl) (.tmp (.tmp .nil)))) rfl ?_
   exact ⟨_, _, rfl, (Kd.R_mono (Kd.R_far (p := ⟨gb8, 2, none⟩) (Kd.R_far (p := ⟨gb8, 1, none⟩) (Kd.R_far (p := ⟨gb8, 0, none⟩) (Kd.R_types HO1.out BK8.out (by decide)) (fun _ hk => hk.2) (.int .i64 q1)) (fun _ hk => hk.2) (.slice Ap1 s2.length cp1)) (fun _ hk => hk.2) (.slice Ap2 q3.length cp2)) (fun _ hk => trivial)), (Kd.R_mono (Kd.R_far (p := ⟨gb8, 2, none⟩) (Kd.R_far (p := ⟨gb8, 1, none⟩) (Kd.R_far (p := ⟨gb8, 0, none⟩) (Kd.R_types HO2.out BK8.out (by decide)) (fun _ hk => hk.2) (.int .i64 q1)) (fun _ hk => hk.2) (.slice Ap1 s2.length cp1)) (fun _ hk => hk.2) (.slice Ap2 q3.length cp2)) (fun _ hk => trivial)), (below_set (below_set (below_set HB.out GE8.out) GE8.out) GE8.out)⟩
  ·replace b4_ := Bool.eq_false_iff.mpr b4_
   subst b4_
   rw [Sh.nf] at H
   simp only [Option.some.injEq, Prod.mk.injEq] at H
   obtain ⟨rfl, rfl, rfl, rfl, rfl⟩ := H
   go_enter Try.func43, Try.ntmps43
   go_wp2_with (first | ((with_reducible refine Sh.d 4 ?_); refine Sh.bz w (N := 4) (cs := #[.int .i64 a0_0, .slice A0_1 l0_1.length c0_1, .slice A0_2 l0_2.length c0_2]) (t := 27) (h := ?_); clear HB; intro gb4 w4 BK4 GE4 HB) | ((with_reducible refine Sh.d 8 ?_); refine Sh.bx (N := 8) (cs := #[.int .i64 0, .slice none 0 0, .slice none 0 0]) (t := 27) (h := ?_); intro gb8 hg w5 hbox hb; have BK8 := am_ hbox; have GE8 := Sh.ag w hg; replace HB := Sh.hb hb; replace BK4 := Sh.ab BK4 hb; clear hb hbox hg; obtain ⟨hcz1_0, hcz1_1, hcz1_2, hfz1_0, hfz1_1, hfz1_2⟩ := Sh.b3 BK4.out) | (go_at_call 29; (with_reducible refine (impl_areLists.calls k a0_0 _ _ l0_1 _ _ l0_2 _ _ l1 _ _ l2 true _ (Sh.cB HR0_1.out) HC0_1.out (Sh.cB HR0_2.out) HC0_2.out (Sh.cB HR1.out) HC1.out (Sh.cB HR2.out) HC2.out A1_.out).mono ?_); rintro e w6 ⟨rfl, hb⟩; replace BK4 := Sh.ab BK4 hb; replace BK8 := Sh.ab BK8 hb; replace HB := Sh.hb hb; clear hb; clear hcz1_0 hcz1_1 hcz1_2 hfz1_0 hfz1_1 hfz1_2; obtain ⟨hcz1_0, hcz1_1, hcz1_2, hfz1_0, hfz1_1, hfz1_2⟩ := Sh.b3 BK4.out) | (go_at_call 32; (with_reducible refine (impl_copyCircuit.calls a0_0 _ _ l0_1 _ _ l0_2 q1 q2 q3 _ (Sh.cB HR0_1.out) HC0_1.out (Sh.cB HR0_2.out) HC0_2.out A4_.out).mono ?_); rintro e w10 ⟨v1, v2, rfl, ho1, ho2, hb⟩; have HO1 := am_ (Kd.R_lower ho1 (below_size Sh.bw)); have HO2 := am_ (Kd.R_lower ho2 (below_size Sh.bw)); replace BK8 := Sh.ab BK8 hb; replace HB := Sh.hb hb; clear hb ho1 ho2 BK4; obtain ⟨Ao1, co1, eo1⟩ := Kd.R_slice HO1.out; subst eo1; obtain ⟨Ao2, co2, eo2⟩ := Kd.R_slice HO2.out; subst eo2; clear hcz1_0 hcz1_1 hcz1_2 hfz1_0 hfz1_1 hfz1_2) | ((with_reducible refine Sh.d 11 ?_); refine Sh.bx (N := 11) (cs := #[.int .i64 0, .slice none 0 0, .slice none 0 0]) (t := 27) (h := ?_); intro gs_ hg w11 hbox hb; have BKs := am_ hbox; have GEs := Sh.ag w hg; replace HB := Sh.hb hb; have NB8_s := am_ (Sh.nl hg BK8.out); have NBs_8 := am_ (Sh.ng hg BK8.out); replace BK8 := Sh.ab BK8 hb; have n1_ := am_ (Kd.R_below (Sh.rl HO1.out) hb); have n2_ := am_ (Kd.R_below (Sh.rl HO2.out) hb); clear HO1 HO2; have HO1 := n1_; have HO2 := n2_; clear n1_ n2_ hb hbox hg; obtain ⟨hcz1_0, hcz1_1, hcz1_2, hfz1_0, hfz1_1, hfz1_2⟩ := Sh.b3 BKs.out) | (go_at_call 44; have hb3 := blk_put (cs := #[.int .i64 q1, .slice Ao1 q2.length co1, .slice none 0 0]) (blk_put (cs := #[.int .i64 q1, .slice none 0 0, .slice none 0 0]) (blk_put (cs := #[.int .i64 0, .slice none 0 0, .slice none 0 0]) BKs.out 0 (.int .i64 q1) rfl) 1 (.slice Ao1 q2.length co1) rfl) 2 (.slice Ao2 q3.length co2) rfl; have ho1 : Kd.R k66 66 (((w11.setCell ⟨gs_, 0, none⟩ (.int .i64 q1)).setCell ⟨gs_, 1, none⟩ (.slice Ao1 q2.length co1)).setCell ⟨gs_, 2, none⟩ (.slice Ao2 q3.length co2)) w.heap.size (fun _ => True) (.slice Ao1 q2.length co1) q2 := Kd.R_mono (Kd.R_far (p := ⟨gs_, 2, none⟩) (Kd.R_far (p := ⟨gs_, 1, none⟩) (Kd.R_far (p := ⟨gs_, 0, none⟩) (Kd.R_types HO1.out BKs.out (by decide)) (fun _ hk => hk.2) (.int .i64 q1)) (fun _ hk => hk.2) (.slice Ao1 q2.length co1)) (fun _ hk => hk.2) (.slice Ao2 q3.length co2)) (fun _ _ => trivial); have ho2 : Kd.R (Kd.int .i64) 3 (((w11.setCell ⟨gs_, 0, none⟩ (.int .i64 q1)).setCell ⟨gs_, 1, none⟩ (.slice Ao1 q2.length co1)).setCell ⟨gs_, 2, none⟩ (.slice Ao2 q3.length co2)) w.heap.size (fun _ => True) (.slice Ao2 q3.length co2) q3 := Kd.R_mono (Kd.R_far (p := ⟨gs_, 2, none⟩) (Kd.R_far (p := ⟨gs_, 1, none⟩) (Kd.R_far (p := ⟨gs_, 0, none⟩) (Kd.R_types HO2.out BKs.out (by decide)) (fun _ hk => hk.2) (.int .i64 q1)) (fun _ hk => hk.2) (.slice Ao1 q2.length co1)) (fun _ hk => hk.2) (.slice Ao2 q3.length co2)) (fun _ _ => trivial); have hB3 := below_set (j := 2) (v := .slice Ao2 q3.length co2) (below_set (j := 1) (v := .slice Ao1 q2.length co1) (below_set (j := 0) (v := .int .i64 q1) HB.out GEs.out) GEs.out) GEs.out; have hr8 := blk_far (blk_far (blk_far BK8.out NB8_s.out (p := ⟨gs_, 0, none⟩) (.int .i64 q1)) NB8_s.out (p := ⟨gs_, 1, none⟩) (.slice Ao1 q2.length co1)) NB8_s.out (p := ⟨gs_, 2, none⟩) (.slice Ao2 q3.length co2); have hI : IsG 27 (fun _ => True) w _ gs_ q1 q2 q3 := ⟨Ao1, co1, Ao2, co2, hb3, GEs.out, ho1, ho2⟩; (with_reducible refine (impl_LessGates_1.calls k gs_ (fun _ => True) q1 q2 q3 _ _ l1 _ _ l2 s1 s2 w _ hI hB3 HR1.out HR2.out A5_.out bp1 bp2 hb1 hb2).mono ?_); rintro e w12 ⟨rfl, hi, hb, hk⟩; have n1_ := am_ (KeepG.blk hk hr8 NB8_s.out (by decide)); obtain ⟨Ap1, cp1, Ap2, cp2, bs, ge_, og, oo⟩ := hi; clear HO1 HO2 HB BKs BK8 hb3 ho1 ho2 hB3 hr8 hI hk; have BK8 := n1_; have BKs := am_ bs; have HO1 := am_ og; have HO2 := am_ oo; have HB := am_ hb; clear n1_ bs ge_ og oo hb; clear hcz1_0 hcz1_1 hcz1_2 hfz1_0 hfz1_1 hfz1_2; obtain ⟨hcz1_0, hcz1_1, hcz1_2, hfz1_0, hfz1_1, hfz1_2⟩ := Sh.b3 BKs.out) | (go_at_call 11; (refine (impl_GoodCircuit.calls k q1 _ _ s2 _ _ q3 false _ (Kd.R_reads' HO1.out).2.2 (Kd.R_reads' HO1.out).2.1 (Kd.R_reads' HO2.out).2.2 (Kd.R_reads' HO2.out).2.1 A6_.out).mono ?_); rintro e w13 ⟨rfl, hb⟩; replace HO1 := am_ (Kd.R_below HO1.out hb); replace HO2 := am_ (Kd.R_below HO2.out hb); replace BK8 := Sh.ab BK8 hb; replace BKs := Sh.ab BKs hb; replace HB := Sh.hb hb; clear hb; clear hcz1_0 hcz1_1 hcz1_2 hfz1_0 hfz1_1 hfz1_2; obtain ⟨hcz1_0, hcz1_1, hcz1_2, hfz1_0, hfz1_1, hfz1_2⟩ := Sh.b3 BK8.out))
   have hw_ := BK8.out
   refine bodyPost_ret (results_list (rs := [.cell 8 27, .tmp 9, .tmp 10]) rfl (by simp) (.cell gb8 27 #[.int .i64 0, .slice none 0 0, .slice none 0 0] (0, 0) _ rfl (by refine Sh.pl ?_; refine blk_put (cs := #[.int .i64 0, .slice none 0 0, .slice none 0 0]) ?_ 2 _ rfl; refine Sh.pl ?_; refine blk_put (cs := #[.int .i64 0, .slice none 0 0, .slice none 0 0]) ?_ 1 _ rfl; refine Sh.pl ?_; refine blk_put (cs := #[.int .i64 0, .slice none 0 0, .slice none 0 0]) ?_ 0 _ rfl; refine Sh.pl ?_; exact BK8.out) Try.underlying27 rfl (by kernel_rfl) (.tmp (.tmp .nil)))) rfl ?_
   exact ⟨_, _, rfl, Kd.R_nil _ _ _ _ _, Kd.R_nil _ _ _ _ _, (below_set (below_set (below_set HB.out GE8.out) GE8.out) GE8.out)⟩
 ·replace b1_ := Bool.eq_false_iff.mpr b1_
  subst b1_
  rw [Sh.nf] at H
  simp only [Option.some.injEq, Prod.mk.injEq] at H
  obtain ⟨rfl, rfl, rfl, rfl, rfl⟩ := H
  go_enter Try.func43, Try.ntmps43
  go_wp2_with (first | ((with_reducible refine Sh.d 4 ?_); refine Sh.bz w (N := 4) (cs := #[.int .i64 a0_0, .slice A0_1 l0_1.length c0_1, .slice A0_2 l0_2.length c0_2]) (t := 27) (h := ?_); clear HB; intro gb4 w4 BK4 GE4 HB) | ((with_reducible refine Sh.d 8 ?_); refine Sh.bx (N := 8) (cs := #[.int .i64 0, .slice none 0 0, .slice none 0 0]) (t := 27) (h := ?_); intro gb8 hg w5 hbox hb; have BK8 := am_ hbox; have GE8 := Sh.ag w hg; replace HB := Sh.hb hb; replace BK4 := Sh.ab BK4 hb; clear hb hbox hg; obtain ⟨hcz1_0, hcz1_1, hcz1_2, hfz1_0, hfz1_1, hfz1_2⟩ := Sh.b3 BK4.out) | (go_at_call 29; (with_reducible refine (impl_areLists.calls k a0_0 _ _ l0_1 _ _ l0_2 _ _ l1 _ _ l2 false _ (Sh.cB HR0_1.out) HC0_1.out (Sh.cB HR0_2.out) HC0_2.out (Sh.cB HR1.out) HC1.out (Sh.cB HR2.out) HC2.out A1_.out).mono ?_); rintro e w6 ⟨rfl, hb⟩; replace BK4 := Sh.ab BK4 hb; replace BK8 := Sh.ab BK8 hb; replace HB := Sh.hb hb; clear hb; clear hcz1_0 hcz1_1 hcz1_2 hfz1_0 hfz1_1 hfz1_2; obtain ⟨hcz1_0, hcz1_1, hcz1_2, hfz1_0, hfz1_1, hfz1_2⟩ := Sh.b3 BK8.out))
  have hw_ := BK8.out
  refine bodyPost_ret (results_list (rs := [.cell 8 27, .tmp 9, .tmp 10]) rfl (by simp) (.cell gb8 27 #[.int .i64 0, .slice none 0 0, .slice none 0 0] (0, 0) _ rfl (by refine Sh.pl ?_; refine blk_put (cs := #[.int .i64 0, .slice none 0 0, .slice none 0 0]) ?_ 2 _ rfl; refine Sh.pl ?_; refine blk_put (cs := #[.int .i64 0, .slice none 0 0, .slice none 0 0]) ?_ 1 _ rfl; refine Sh.pl ?_; refine blk_put (cs := #[.int .i64 0, .slice none 0 0, .slice none 0 0]) ?_ 0 _ rfl; refine Sh.pl ?_; exact BK8.out) Try.underlying27 rfl (by kernel_rfl) (.tmp (.tmp .nil)))) rfl ?_
  exact ⟨_, _, rfl, Kd.R_nil _ _ _ _ _, Kd.R_nil _ _ _ _ _, (below_set (below_set (below_set HB.out GE8.out) GE8.out) GE8.out)⟩
def impl_LessGates.f (k : Nat) (a0_0 : Int) (l0_1 : List S66) (l0_2 : List Int) (l1 l2 : List Int) : Option (Int × List S66 × List Int × Int × Bool) := impl_compareGates_by_LessGates.f k a0_0 l0_1 l0_2 l1 l2
theorem impl_LessGates.mono : ∀ a0 a1 a2 a3 a4 k, LeO (impl_LessGates.f k a0 a1 a2 a3 a4) (impl_LessGates.f (k + 1) a0 a1 a2 a3 a4) := impl_compareGates_by_LessGates.mono
theorem impl_LessGates.calls (k : Nat) (a0_0 : Int) (A0_1 : Option Addr) (c0_1 : Nat) (l0_1 : List (S66)) (A0_2 : Option Addr) (c0_2 : Nat) (l0_2 : List Int) (A1 : Option Addr) (c1 : Nat) (l1 : List Int) (A2 : Option Addr) (c2 : Nat) (l2 : List Int) (r1 : Int) (r2 : List (S66)) (r3 : List Int) (r4 : Int) (r5 : Bool) (w : World) (hr0_1 : Kd.C k66 w A0_1 l0_1.length l0_1) (hc0_1 : l0_1.length ≤ c0_1) (hr0_2 : Kd.C (Kd.int .i64) w A0_2 l0_2.length l0_2) (hc0_2 : l0_2.length ≤ c0_2) (hr1 : Kd.C (Kd.int .i64) w A1 l1.length l1) (hc1 : l1.length ≤ c1) (hr2 : Kd.C (Kd.int .i64) w A2 l2.length l2) (hc2 : l2.length ≤ c2) (h : impl_LessGates.f k a0_0 l0_1 l0_2 l1 l2 = some (r1, r2, r3, r4, r5)) :
  Calls Try.prog 19 #[.agg #[.int .i64 a0_0, .slice A0_1 l0_1.length c0_1, .slice A0_2 l0_2.length c0_2], .slice A1 l1.length c1, .slice A2 l2.length c2] w fun e w' => ∃ v1_ v2_ : Value, e = .returned (.tuple #[.agg #[.int .i64 r1, v1_, v2_], .int .i64 r4, .bool r5]) ∧ Kd.R k66 66 w' w.heap.size (fun _ => True) v1_ r2 ∧ Kd.R (Kd.int .i64) 3 w' w.heap.size (fun _ => True) v2_ r3 ∧ Below w.heap.size w w' := by
 have hu27 := Try.underlying27
 have HR0_1 := am_ hr0_1
 have HC0_1 := am_ hc0_1
 have HR0_2 := am_ hr0_2
 have HC0_2 := am_ hc0_2
 have HR1 := am_ hr1
 have HC1 := am_ hc1
 have HR2 := am_ hr2
 have HC2 := am_ hc2
 clear hr0_1 hc0_1 hr0_2 hc0_2 hr1 hc1 hr2 hc2
 have HB := am_ (Below.refl w.heap.size w)
 have H : Aside0 (impl_compareGates_by_LessGates.f k a0_0 l0_1 l0_2 l1 l2 = some (r1, r2, r3, r4, r5)) := am_ h
 clear h
 go_enter Try.func19, Try.ntmps19
 go_wp2_with (first | ((with_reducible refine Sh.d 3 ?_); refine Sh.bz w (N := 3) (cs := #[.int .i64 a0_0, .slice A0_1 l0_1.length c0_1, .slice A0_2 l0_2.length c0_2]) (t := 27) (h := ?_); clear HB; intro gb3 w4 BK3 GE3 HB) | ((with_reducible refine Sh.d 4 ?_); refine Sh.bx (N := 4) (cs := #[.slice A1 l1.length c1]) (t := 25) (h := ?_); intro gb4 hg w5 hbox hb; have BK4 := am_ hbox; have GE4 := Sh.ag w hg; replace HB := Sh.hb hb; replace BK3 := Sh.ab BK3 hb; clear hb hbox hg) | ((with_reducible refine Sh.d 5 ?_); refine Sh.bx (N := 5) (cs := #[.slice A2 l2.length c2]) (t := 25) (h := ?_); intro gb5 hg w6 hbox hb; have BK5 := am_ hbox; have GE5 := Sh.ag w hg; replace HB := Sh.hb hb; replace BK3 := Sh.ab BK3 hb; replace BK4 := Sh.ab BK4 hb; clear hb hbox hg) | ((with_reducible refine Sh.d 6 ?_); refine Sh.bx (N := 6) (cs := #[.int .i64 0, .slice none 0 0, .slice none 0 0]) (t := 27) (h := ?_); intro gb6 hg w7 hbox hb; have BK6 := am_ hbox; have GE6 := Sh.ag w hg; replace HB := Sh.hb hb; replace BK3 := Sh.ab BK3 hb; replace BK4 := Sh.ab BK4 hb; replace BK5 := Sh.ab BK5 hb; clear hb hbox hg; obtain ⟨hcz1_0, hcz1_1, hcz1_2, hfz1_0, hfz1_1, hfz1_2⟩ := Sh.b3 BK3.out; have hdz4 := Sh.bc BK4.out 0; have hdz5 := Sh.bc BK5.out 0) | (go_at_call 43; (with_reducible refine (impl_compareGates_by_LessGates.calls k a0_0 _ _ l0_1 _ _ l0_2 _ _ l1 _ _ l2 r1 r2 r3 r4 r5 _ gb4 gb5 BK4.out BK5.out (Sh.cB HR0_1.out) HC0_1.out (Sh.cB HR0_2.out) HC0_2.out (Sh.cB HR1.out) HC1.out (Sh.cB HR2.out) HC2.out H.out).mono ?_); rintro e w8 ⟨v1, v2, rfl, ho1, ho2, hb⟩; have HO1 := am_ (Kd.R_lower ho1 (below_size Sh.bw)); have HO2 := am_ (Kd.R_lower ho2 (below_size Sh.bw)); replace BK6 := Sh.ab BK6 hb; replace HB := Sh.hb hb; clear hb ho1 ho2 BK3 BK4 BK5 hcz1_0 hcz1_1 hcz1_2 hfz1_0 hfz1_1 hfz1_2 hdz4 hdz5; obtain ⟨Ap1, cp1, ep1⟩ := Kd.R_slice HO1.out; subst ep1; obtain ⟨Ap2, cp2, ep2⟩ := Kd.R_slice HO2.out; subst ep2; obtain ⟨hcz1_0, hcz1_1, hcz1_2, hfz1_0, hfz1_1, hfz1_2⟩ := Sh.b3 BK6.out))
 refine bodyPost_ret (results_list (rs := [.cell 6 27, .tmp 7, .tmp 8]) rfl (by simp) (.cell gb6 27 #[.int .i64 r1, .slice Ap1 r2.length cp1, .slice Ap2 r3.length cp2] (0, 0) _ rfl (by refine Sh.pl ?_; refine blk_put (cs := #[.int .i64 r1, .slice Ap1 r2.length cp1, .slice none 0 0]) ?_ 2 _ rfl; refine Sh.pl ?_; refine blk_put (cs := #[.int .i64 r1, .slice none 0 0, .slice none 0 0]) ?_ 1 _ rfl; refine Sh.pl ?_; refine blk_put (cs := #[.int .i64 0, .slice none 0 0, .slice none 0 0]) ?_ 0 _ rfl; refine Sh.pl ?_; exact BK6.out) Try.underlying27 rfl (by kernel_rfl) (.tmp (.tmp .nil)))) rfl ?_
 exact ⟨_, _, rfl, (Kd.R_mono (Kd.R_far (p := ⟨gb6, 2, none⟩) (Kd.R_far (p := ⟨gb6, 1, none⟩) (Kd.R_far (p := ⟨gb6, 0, none⟩) (Kd.R_types HO1.out BK6.out (by decide)) (fun _ hk => hk.2) (.int .i64 r1)) (fun _ hk => hk.2) (.slice Ap1 r2.length cp1)) (fun _ hk => hk.2) (.slice Ap2 r3.length cp2)) (fun _ hk => trivial)), (Kd.R_mono (Kd.R_far (p := ⟨gb6, 2, none⟩) (Kd.R_far (p := ⟨gb6, 1, none⟩) (Kd.R_far (p := ⟨gb6, 0, none⟩) (Kd.R_types HO2.out BK6.out (by decide)) (fun _ hk => hk.2) (.int .i64 r1)) (fun _ hk => hk.2) (.slice Ap1 r2.length cp1)) (fun _ hk => hk.2) (.slice Ap2 r3.length cp2)) (fun _ hk => trivial)), (below_set (below_set (below_set HB.out GE6.out) GE6.out) GE6.out)⟩
end Go.Proofs.Ytejlobcjgbeeaaa.P
