/- Go functions of this seat as Lean functions, and the proofs that the calls come to what these say; printed by a program of this session. No condition. -/
import Derived.Test.YtaacldndbjmekaaP0
import Derived.Test.YtaacldndbjmekaaP5
import Derived.Test.YtaacldndbjmekaaP105
namespace Go.Proofs.Ytaacldndbjmekaa.P
open Go.RowKit Go.Proofs.YtaacldndbjmekaaW.PrintWords Go.Proofs.YtaacldndbjmekaaW.PrintLast Go.Proofs.YtaacldndbjmekaaW.PrintMore Go.Proofs.Ytaacldndbjmekaa.Hof
attribute [local go_sem] max2_int min2_int max_two min_two max_three min_three max_four min_four   -- for this text's walks alone
set_option linter.unusedVariables false
set_option linter.unusedSimpArgs false

/-! ### spec_ReadSaid: function 35 -/
def spec_ReadSaid.j0 : Nat → List (S59) → Int → Bool → Option ((List (S59)) × Int × Bool)
 | 0, _, _, _ => none
 | k + 1, x5, x6, x24 => if x24 = true then (some (([] : List (S59)), x6, false)) else ((spec_GoodSaid.f k x5).bind fun t765 => (if t765 = true then (some (x5, x6, true)) else (some (([] : List (S59)), 0, false))))
def spec_ReadSaid.f (k : Nat) (a0 : ByteArray) : Option ((List (S59)) × Int × Bool) := if (a0.size : Int) > 200 then (some (([] : List (S59)), 0, false)) else ((spec_l10Read.f k a0 0).bind fun bt760 => (if bt760.2.2 = true then (spec_ReadSaid.j0 k bt760.1 bt760.2.1 (decide (bt760.2.1 < (a0.size : Int)))) else (spec_ReadSaid.j0 k bt760.1 bt760.2.1 true)))
theorem spec_ReadSaid.mono_l : ∀ k, (∀ y0 y1 y2, LeO (spec_ReadSaid.j0 k y0 y1 y2) (spec_ReadSaid.j0 (k + 1) y0 y1 y2))
 | 0 => fun _ _ _ r h => by simp [spec_ReadSaid.j0] at h
 | k + 1 => by
  have ih0 := spec_ReadSaid.mono_l k
  ·intro y0 y1 y2
   unfold spec_ReadSaid.j0
   repeat' with_reducible first | apply ih0 | apply spec_GoodSaid.mono | apply spec_l10Read.mono | exact LeO.refl _ | exact LeO.none _ | apply LeO.ite | refine LeO.bind ?_ fun _ => ?_
theorem spec_ReadSaid.mono : ∀ a0 k, LeO (spec_ReadSaid.f k a0) (spec_ReadSaid.f (k + 1) a0) := by
 intro a0 k
 have ih0 := spec_ReadSaid.mono_l k
 unfold spec_ReadSaid.f
 repeat' with_reducible first | apply ih0 | apply spec_GoodSaid.mono | apply spec_l10Read.mono | exact LeO.refl _ | exact LeO.none _ | apply LeO.ite | refine LeO.bind ?_ fun _ => ?_
set_option maxHeartbeats 8000000 in
set_option maxRecDepth 100000 in
theorem spec_ReadSaid.calls (k : Nat) (a0 : ByteArray) (r1 : List (S59)) (r2 : Int) (r3 : Bool) (w : World) (h : spec_ReadSaid.f k a0 = some (r1, r2, r3)) :
  Calls Try.prog 35 #[.string a0] w fun e w' => ∃ v0_ : Value, e = .returned (.tuple #[v0_, .int .i64 r2, .bool r3]) ∧ Kd.R k59 59 w' w.heap.size (fun _ => True) v0_ r1 ∧ Below w.heap.size w w' := by
 have HB := am_ (Below.refl w.heap.size w)
 have H := h
 clear h
 unfold spec_ReadSaid.f at H
 by_cases c2 : (a0.size : Int) > 200
 ·rw [if_pos c2] at H
  have c2b0 : decide (200 < (a0.size : Int)) = true := decide_eq_true c2
  have c2b1 : decide (200 < a0.size) = true := decide_eq_true (by omega)
  clear c2
  simp only [Option.some.injEq, Prod.mk.injEq] at H
  obtain ⟨rfl, rfl, rfl⟩ := H
  go_enter Try.func35, Try.ntmps35
  go_wp2
  go_ret3
  exact ⟨_, Sh.eR, by first | exact Kd.R_nil _ _ _ _ _ | exact Kd.N_nil _ _ _ _ _ | exact Kd.V_nil _ _ _ _ _ | exact Kd.Q_nil _ _ _ _ _ | exact Kd.S_nil _ _ _ _ _, Sh.bw⟩
 ·rw [if_neg c2] at H
  have c2b0 : decide (200 < (a0.size : Int)) = false := decide_eq_false c2
  have c2b1 : decide (200 < a0.size) = false := decide_eq_false (by omega)
  clear c2
  obtain ⟨⟨t760, t761, t762⟩, A30, H⟩ := Sh.bd H
  have A3 := am_ A30
  clear A30
  have HC4 := am_ H
  clear H
  go_enter Try.func35, Try.ntmps35
  go_upto_region 4 with (first | ((with_reducible refine Sh.k 68 ?_); refine Sh.gL (some 13) Try.func68 #[.string a0, .int .i64 0] (h := ?_); (with_reducible refine (spec_l10Read.calls k a0 0 t760 t761 t762 _ A3.out).mono ?_); rintro e w5 ⟨v763, rfl, ho0, hb⟩; refine ⟨_, rfl, ?_⟩; have HO764 := am_ (Kd.R_lower ho0 (below_size Sh.bw)); replace HB := Sh.hb hb; (try clear hb); (try clear hb2); (try clear hk); (try clear hi); (try clear ho0)))
  (try simp only [Act.put, List.setIfInBounds_toArray, List.set_cons_zero, List.set_cons_succ])
  go_cut [24] (fun v24 wc => ∃ (kq : Nat) (x24_3 : Bool), v24 = .bool x24_3 ∧ Aside0 (spec_ReadSaid.j0 kq t760 t761 x24_3 = some (r1, r2, r3)) ∧ Aside0 (kq ≤ k) ∧ Aside0 (Kd.R k59 59 wc w.heap.size (fun _ => True) v763 t760) ∧ Aside0 (Below w.heap.size w wc))
  case first =>
   have H := HC4.out
   clear HC4
   by_cases c6 : t762 = true
   ·subst c6
    rw [if_pos rfl] at H
    have H' := am_ H
    clear H
    go_wp2
    go_meet
    case rel => exact ⟨_, (decide (t761 < (a0.size : Int))), (Sh.es), H', ⟨Sh.om⟩, ⟨Sh.rl HO764.out⟩, ⟨Sh.bw⟩⟩
   ·replace c6 := Bool.eq_false_iff.mpr c6
    subst c6
    rw [Sh.nf] at H
    have H' := am_ H
    clear H
    go_wp2
    go_meet
    case rel => exact ⟨_, (true), (Sh.es), H', ⟨Sh.om⟩, ⟨Sh.rl HO764.out⟩, ⟨Sh.bw⟩⟩
  case rest =>
   clear HC4
   obtain ⟨kq, x24_3, rfl, HA, HJ3, HO_5, HB⟩ := hcut
   cases kq with
   | zero => exact absurd HA.out (by simp [spec_ReadSaid.j0])
   | succ kj3 =>
    have H := HA.out
    clear HA
    simp only [spec_ReadSaid.j0] at H
    by_cases c7 : x24_3 = true
    ·subst c7
     rw [if_pos rfl] at H
     simp only [Option.some.injEq, Prod.mk.injEq] at H
     obtain ⟨rfl, rfl, rfl⟩ := H
     go_wp2
     go_ret3
     exact ⟨_, Sh.eR, by first | exact Kd.R_nil _ _ _ _ _ | exact Kd.N_nil _ _ _ _ _ | exact Kd.V_nil _ _ _ _ _ | exact Kd.Q_nil _ _ _ _ _ | exact Kd.S_nil _ _ _ _ _, Sh.bw⟩
    ·replace c7 := Bool.eq_false_iff.mpr c7
     subst c7
     rw [Sh.nf] at H
     obtain ⟨t765, A8, H⟩ := Sh.ba H
     by_cases c9 : t765 = true
     ·subst c9
      rw [if_pos rfl] at H
      simp only [Option.some.injEq, Prod.mk.injEq] at H
      obtain ⟨rfl, rfl, rfl⟩ := H
      obtain ⟨Ao10, co10, eo10⟩ := Kd.R_slice HO_5.out
      subst eo10
      go_wp2_with (first | ((with_reducible refine Sh.k 37 ?_); refine Sh.gB (some 27) Try.func37 #[.slice Ao10 t760.length co10] (spec_GoodSaid.calls kj3 _ _ t760 true _ (Sh.cR (Kd.R_reads' HO_5.out).2.2) (Kd.R_reads' HO_5.out).2.1 A8.out) fun w11 hb => ?_; replace HO_5 := am_ (Kd.R_below (Sh.rl HO_5.out) hb); replace HB := Sh.hb hb; (try clear hb); (try clear hb2); (try clear hk); (try clear hi)))
      go_ret3
      exact ⟨_, Sh.eR, Sh.rl HO_5.out, Sh.bw⟩
     ·replace c9 := Bool.eq_false_iff.mpr c9
      subst c9
      rw [Sh.nf] at H
      simp only [Option.some.injEq, Prod.mk.injEq] at H
      obtain ⟨rfl, rfl, rfl⟩ := H
      obtain ⟨Ao12, co12, eo12⟩ := Kd.R_slice HO_5.out
      subst eo12
      go_wp2_with (first | ((with_reducible refine Sh.k 37 ?_); refine Sh.gB (some 27) Try.func37 #[.slice Ao12 t760.length co12] (spec_GoodSaid.calls kj3 _ _ t760 false _ (Sh.cR (Kd.R_reads' HO_5.out).2.2) (Kd.R_reads' HO_5.out).2.1 A8.out) fun w13 hb => ?_; replace HO_5 := am_ (Kd.R_below (Sh.rl HO_5.out) hb); replace HB := Sh.hb hb; (try clear hb); (try clear hb2); (try clear hk); (try clear hi)))
      go_ret3
      exact ⟨_, Sh.eR, by first | exact Kd.R_nil _ _ _ _ _ | exact Kd.N_nil _ _ _ _ _ | exact Kd.V_nil _ _ _ _ _ | exact Kd.Q_nil _ _ _ _ _ | exact Kd.S_nil _ _ _ _ _, Sh.bw⟩

end Go.Proofs.Ytaacldndbjmekaa.P
