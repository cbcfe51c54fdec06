/- Go functions of this seat as Lean functions, and the proofs that the calls come to what these say; printed by a program of this session. No condition. -/
import Derived.Test.YtaacldndbjmekaaP0
import Derived.Test.YtaacldndbjmekaaP110
import Derived.Test.YtaacldndbjmekaaP113
namespace Go.Proofs.Ytaacldndbjmekaa.P
open Go.RowKit Go.Proofs.YtaacldndbjmekaaW.PrintWords Go.Proofs.YtaacldndbjmekaaW.PrintLast Go.Proofs.YtaacldndbjmekaaW.PrintMore Go.Proofs.Ytaacldndbjmekaa.Hof
attribute [local go_sem] max2_int min2_int max_two min_two max_three min_three max_four min_four   -- for this text's walks alone
set_option linter.unusedVariables false
set_option linter.unusedSimpArgs false

/-! ### impl_ReadSaid: function 36 -/
def impl_ReadSaid.j0 : Nat → ByteArray → List (S59) → Bool → ByteArray → Int → Bool → Option ((List (S59)) × Int × Bool)
 | 0, _, _, _, _, _, _ => none
 | k + 1, x0, x6, x15, x824000, x824001, x824002 => if x15 = true then (some (([] : List (S59)), x824001, false)) else (if (x6.length : Int) > 16 then (some (([] : List (S59)), 0, false)) else (some (x6, (x0.size : Int), true)))
def impl_ReadSaid.f (k : Nat) (a0 : ByteArray) : Option ((List (S59)) × Int × Bool) := if (a0.size : Int) > 200 then (some (([] : List (S59)), 0, false)) else ((impl_saidReader_said.f k a0 0 false).bind fun bt824 => (if bt824.2.2.2 = true then (impl_ReadSaid.j0 k a0 bt824.1 true bt824.2.1 bt824.2.2.1 bt824.2.2.2) else (impl_ReadSaid.j0 k a0 bt824.1 (decide (bt824.2.2.1 < (a0.size : Int))) bt824.2.1 bt824.2.2.1 bt824.2.2.2)))
theorem impl_ReadSaid.mono_l : ∀ k, (∀ y0 y1 y2 y3 y4 y5, LeO (impl_ReadSaid.j0 k y0 y1 y2 y3 y4 y5) (impl_ReadSaid.j0 (k + 1) y0 y1 y2 y3 y4 y5))
 | 0 => fun _ _ _ _ _ _ r h => by simp [impl_ReadSaid.j0] at h
 | k + 1 => by
  have ih0 := impl_ReadSaid.mono_l k
  ·intro y0 y1 y2 y3 y4 y5
   unfold impl_ReadSaid.j0
   repeat' with_reducible first | apply ih0 | apply impl_saidReader_said.mono | exact LeO.refl _ | exact LeO.none _ | apply LeO.ite | refine LeO.bind ?_ fun _ => ?_
theorem impl_ReadSaid.mono : ∀ a0 k, LeO (impl_ReadSaid.f k a0) (impl_ReadSaid.f (k + 1) a0) := by
 intro a0 k
 have ih0 := impl_ReadSaid.mono_l k
 unfold impl_ReadSaid.f
 repeat' with_reducible first | apply ih0 | apply impl_saidReader_said.mono | exact LeO.refl _ | exact LeO.none _ | apply LeO.ite | refine LeO.bind ?_ fun _ => ?_
set_option maxHeartbeats 8000000 in
set_option maxRecDepth 100000 in
theorem impl_ReadSaid.calls (k : Nat) (a0 : ByteArray) (r1 : List (S59)) (r2 : Int) (r3 : Bool) (w : World) (h : impl_ReadSaid.f k a0 = some (r1, r2, r3)) :
  Calls Try.prog 36 #[.string a0] w fun e w' => ∃ v0_ : Value, e = .returned (.tuple #[v0_, .int .i64 r2, .bool r3]) ∧ Kd.R k59 59 w' w.heap.size (fun _ => True) v0_ r1 ∧ Below w.heap.size w w' := by
 have hu85 := Try.underlying85
 have HB := am_ (Below.refl w.heap.size w)
 have H := h
 clear h
 unfold impl_ReadSaid.f at H
 by_cases c2 : (a0.size : Int) > 200
 ·rw [if_pos c2] at H
  have c2b0 : decide (200 < (a0.size : Int)) = true := decide_eq_true c2
  have c2b1 : decide (200 < a0.size) = true := decide_eq_true (by omega)
  clear c2
  simp only [Option.some.injEq, Prod.mk.injEq] at H
  obtain ⟨rfl, rfl, rfl⟩ := H
  go_enter Try.func36, Try.ntmps36
  go_wp2
  repeat (go_quiet (fail); try go_wp2)
  go_ret3
  exact ⟨_, Sh.eR, by first | exact Kd.R_nil _ _ _ _ _ | exact Kd.N_nil _ _ _ _ _ | exact Kd.V_nil _ _ _ _ _ | exact Kd.Q_nil _ _ _ _ _ | exact Kd.S_nil _ _ _ _ _, Sh.bw⟩
 ·rw [if_neg c2] at H
  have c2b0 : decide (200 < (a0.size : Int)) = false := decide_eq_false c2
  have c2b1 : decide (200 < a0.size) = false := decide_eq_false (by omega)
  clear c2
  obtain ⟨⟨t824, t827, t828, t829⟩, A30, H⟩ := Sh.bd H
  have A3 := am_ A30
  clear A30
  have HC4 := am_ H
  clear H
  go_enter Try.func36, Try.ntmps36
  go_upto_region 5 with (first | ((with_reducible refine Sh.d 12 ?_); (try (refine gate_guard (by rfl) ?_; dsimp only)); refine Sh.bz w (N := 12) (cs := #[.string a0, .int .i64 0, .bool false]) (t := 85) (h := ?_); clear HB; intro gb823 w5 BK823 GE823 HB; have HI823 := am_ (show IsS85 w w5 gb823 a0 0 false from ⟨BK823.out, GE823.out⟩)) | (go_at_call 69; (with_reducible refine (impl_saidReader_said.calls k gb823 a0 0 false t824 t827 t828 t829 w _ ?side1 ?side2 A3.out).mono ?_); (case side1 => repeat (first | (with_reducible first | exact HI823.out | apply IsS85.alloc | apply IsS85.drewN | apply IsS85.drew | apply IsS85.set_0 | apply IsS85.set_1 | apply IsS85.set_2) | exact HI823.out)); (case side2 => repeat (first | (with_reducible first | exact HB.out | apply below_alloc | apply pw_below_drewN | apply below_drew1 | refine below_set ?_ (IsS85.ge HI823.out)) | exact HB.out)); rintro e w6 ⟨v825, rfl, ho0, hi, hb, hk⟩; have HO826 := am_ (Kd.R_lower ho0 (below_size (by repeat (first | (with_reducible first | exact HB.out | apply below_alloc | apply pw_below_drewN | apply below_drew1 | refine below_set ?_ (IsS85.ge HI823.out)) | exact HB.out)))); replace HB := am_ hb; replace HI823 := am_ hi; (try clear hb); (try clear hb2); (try clear hk); (try clear hi); (try clear ho0)))
  repeat (go_quiet (first | ((with_reducible refine Sh.d 12 ?_); (try (refine gate_guard (by rfl) ?_; dsimp only)); refine Sh.bz w (N := 12) (cs := #[.string a0, .int .i64 0, .bool false]) (t := 85) (h := ?_); clear HB; intro gb823 w5 BK823 GE823 HB; have HI823 := am_ (show IsS85 w w5 gb823 a0 0 false from ⟨BK823.out, GE823.out⟩)) | (go_at_call 69; (with_reducible refine (impl_saidReader_said.calls k gb823 a0 0 false t824 t827 t828 t829 w _ ?side1 ?side2 A3.out).mono ?_); (case side1 => repeat (first | (with_reducible first | exact HI823.out | apply IsS85.alloc | apply IsS85.drewN | apply IsS85.drew | apply IsS85.set_0 | apply IsS85.set_1 | apply IsS85.set_2) | exact HI823.out)); (case side2 => repeat (first | (with_reducible first | exact HB.out | apply below_alloc | apply pw_below_drewN | apply below_drew1 | refine below_set ?_ (IsS85.ge HI823.out)) | exact HB.out)); rintro e w6 ⟨v825, rfl, ho0, hi, hb, hk⟩; have HO826 := am_ (Kd.R_lower ho0 (below_size (by repeat (first | (with_reducible first | exact HB.out | apply below_alloc | apply pw_below_drewN | apply below_drew1 | refine below_set ?_ (IsS85.ge HI823.out)) | exact HB.out)))); replace HB := am_ hb; replace HI823 := am_ hi; (try clear hb); (try clear hb2); (try clear hk); (try clear hi); (try clear ho0))); go_upto_region 5 with (first | ((with_reducible refine Sh.d 12 ?_); (try (refine gate_guard (by rfl) ?_; dsimp only)); refine Sh.bz w (N := 12) (cs := #[.string a0, .int .i64 0, .bool false]) (t := 85) (h := ?_); clear HB; intro gb823 w5 BK823 GE823 HB; have HI823 := am_ (show IsS85 w w5 gb823 a0 0 false from ⟨BK823.out, GE823.out⟩)) | (go_at_call 69; (with_reducible refine (impl_saidReader_said.calls k gb823 a0 0 false t824 t827 t828 t829 w _ ?side1 ?side2 A3.out).mono ?_); (case side1 => repeat (first | (with_reducible first | exact HI823.out | apply IsS85.alloc | apply IsS85.drewN | apply IsS85.drew | apply IsS85.set_0 | apply IsS85.set_1 | apply IsS85.set_2) | exact HI823.out)); (case side2 => repeat (first | (with_reducible first | exact HB.out | apply below_alloc | apply pw_below_drewN | apply below_drew1 | refine below_set ?_ (IsS85.ge HI823.out)) | exact HB.out)); rintro e w6 ⟨v825, rfl, ho0, hi, hb, hk⟩; have HO826 := am_ (Kd.R_lower ho0 (below_size (by repeat (first | (with_reducible first | exact HB.out | apply below_alloc | apply pw_below_drewN | apply below_drew1 | refine below_set ?_ (IsS85.ge HI823.out)) | exact HB.out)))); replace HB := am_ hb; replace HI823 := am_ hi; (try clear hb); (try clear hb2); (try clear hk); (try clear hi); (try clear ho0))))
  (try simp only [Act.put, List.setIfInBounds_toArray, List.set_cons_zero, List.set_cons_succ])
  go_cut [15] (fun v15 wc => ∃ (kq : Nat) (x15_3 : Bool), v15 = .bool x15_3 ∧ Aside0 (impl_ReadSaid.j0 kq a0 t824 x15_3 t827 t828 t829 = some (r1, r2, r3)) ∧ Aside0 (kq ≤ k) ∧ Aside0 (Kd.R k59 59 wc w.heap.size (fun _ => True) v825 t824) ∧ Aside0 (IsS85 w wc gb823 t827 t828 t829) ∧ Aside0 (Below w.heap.size w wc))
  case first =>
   have H := HC4.out
   clear HC4
   by_cases c7 : t829 = true
   ·subst c7
    rw [if_pos rfl] at H
    have H' := am_ H
    clear H
    obtain ⟨HGz8, hgz8⟩ := HI823.out
    have hcz8_0 := cellS85_0 HGz8
    have hcz8_1 := cellS85_1 HGz8
    have hcz8_2 := cellS85_2 HGz8
    have hfz8_0 := blk_frozen HGz8 0
    have hfz8_1 := blk_frozen HGz8 1
    have hfz8_2 := blk_frozen HGz8 2
    clear HGz8 hgz8
    go_wp2
    repeat (go_quiet (fail); try go_wp2)
    go_meet
    case rel => exact ⟨_, (true), (Sh.es), H', ⟨Sh.om⟩, ⟨Sh.rl HO826.out⟩, ⟨by repeat (first | (with_reducible first | exact HI823.out | apply IsS85.alloc | apply IsS85.drewN | apply IsS85.drew | apply IsS85.set_0 | apply IsS85.set_1 | apply IsS85.set_2) | exact HI823.out)⟩, ⟨by repeat (first | (with_reducible first | exact HB.out | apply below_alloc | apply pw_below_drewN | apply below_drew1 | refine below_set ?_ (IsS85.ge HI823.out)) | exact HB.out)⟩⟩
   ·replace c7 := Bool.eq_false_iff.mpr c7
    subst c7
    rw [Sh.nf] at H
    have H' := am_ H
    clear H
    obtain ⟨HGz9, hgz9⟩ := HI823.out
    have hcz9_0 := cellS85_0 HGz9
    have hcz9_1 := cellS85_1 HGz9
    have hcz9_2 := cellS85_2 HGz9
    have hfz9_0 := blk_frozen HGz9 0
    have hfz9_1 := blk_frozen HGz9 1
    have hfz9_2 := blk_frozen HGz9 2
    clear HGz9 hgz9
    go_wp2
    repeat (go_quiet (fail); try go_wp2)
    go_meet
    case rel => exact ⟨_, (decide (t828 < (a0.size : Int))), (Sh.es), H', ⟨Sh.om⟩, ⟨Sh.rl HO826.out⟩, ⟨by repeat (first | (with_reducible first | exact HI823.out | apply IsS85.alloc | apply IsS85.drewN | apply IsS85.drew | apply IsS85.set_0 | apply IsS85.set_1 | apply IsS85.set_2) | exact HI823.out)⟩, ⟨by repeat (first | (with_reducible first | exact HB.out | apply below_alloc | apply pw_below_drewN | apply below_drew1 | refine below_set ?_ (IsS85.ge HI823.out)) | exact HB.out)⟩⟩
  case rest =>
   clear HC4
   try clear hcz8_0
   try clear hcz8_1
   try clear hcz8_2
   try clear hcz9_0
   try clear hcz9_1
   try clear hcz9_2
   try clear hfz8_0
   try clear hfz8_1
   try clear hfz8_2
   try clear hfz9_0
   try clear hfz9_1
   try clear hfz9_2
   obtain ⟨kq, x15_3, rfl, HA, HJ3, HO_6, HI823, HB⟩ := hcut
   cases kq with
   | zero => exact absurd HA.out (by simp [impl_ReadSaid.j0])
   | succ kj3 =>
    have H := HA.out
    clear HA
    simp only [impl_ReadSaid.j0] at H
    by_cases c10 : x15_3 = true
    ·subst c10
     rw [if_pos rfl] at H
     simp only [Option.some.injEq, Prod.mk.injEq] at H
     obtain ⟨rfl, rfl, rfl⟩ := H
     obtain ⟨HGz11, hgz11⟩ := HI823.out
     have hcz11_0 := cellS85_0 HGz11
     have hcz11_1 := cellS85_1 HGz11
     have hcz11_2 := cellS85_2 HGz11
     have hfz11_0 := blk_frozen HGz11 0
     have hfz11_1 := blk_frozen HGz11 1
     have hfz11_2 := blk_frozen HGz11 2
     clear HGz11 hgz11
     go_wp2
     repeat (go_quiet (fail); try go_wp2)
     go_ret3
     exact ⟨_, Sh.eR, by first | exact Kd.R_nil _ _ _ _ _ | exact Kd.N_nil _ _ _ _ _ | exact Kd.V_nil _ _ _ _ _ | exact Kd.Q_nil _ _ _ _ _ | exact Kd.S_nil _ _ _ _ _, by repeat (first | (with_reducible first | exact HB.out | apply below_alloc | apply pw_below_drewN | apply below_drew1 | refine below_set ?_ (IsS85.ge HI823.out)) | exact HB.out)⟩
    ·replace c10 := Bool.eq_false_iff.mpr c10
     subst c10
     rw [Sh.nf] at H
     by_cases c12 : (t824.length : Int) > 16
     ·rw [if_pos c12] at H
      have c12b0 : decide (16 < (t824.length : Int)) = true := decide_eq_true c12
      have c12b1 : decide (16 < t824.length) = true := decide_eq_true (by omega)
      clear c12
      simp only [Option.some.injEq, Prod.mk.injEq] at H
      obtain ⟨rfl, rfl, rfl⟩ := H
      obtain ⟨Ao13, co13, eo13⟩ := Kd.R_slice HO_6.out
      subst eo13
      go_wp2
      repeat (go_quiet (fail); try go_wp2)
      go_ret3
      exact ⟨_, Sh.eR, by first | exact Kd.R_nil _ _ _ _ _ | exact Kd.N_nil _ _ _ _ _ | exact Kd.V_nil _ _ _ _ _ | exact Kd.Q_nil _ _ _ _ _ | exact Kd.S_nil _ _ _ _ _, by repeat (first | (with_reducible first | exact HB.out | apply below_alloc | apply pw_below_drewN | apply below_drew1 | refine below_set ?_ (IsS85.ge HI823.out)) | exact HB.out)⟩
     ·rw [if_neg c12] at H
      have c12b0 : decide (16 < (t824.length : Int)) = false := decide_eq_false c12
      have c12b1 : decide (16 < t824.length) = false := decide_eq_false (by omega)
      clear c12
      simp only [Option.some.injEq, Prod.mk.injEq] at H
      obtain ⟨rfl, rfl, rfl⟩ := H
      obtain ⟨Ao14, co14, eo14⟩ := Kd.R_slice HO_6.out
      subst eo14
      go_wp2
      repeat (go_quiet (fail); try go_wp2)
      go_ret3
      exact ⟨_, Sh.eR, Sh.rl HO_6.out, by repeat (first | (with_reducible first | exact HB.out | apply below_alloc | apply pw_below_drewN | apply below_drew1 | refine below_set ?_ (IsS85.ge HI823.out)) | exact HB.out)⟩

end Go.Proofs.Ytaacldndbjmekaa.P
