/- Go functions of this seat as Lean functions, and the proofs that the calls come to what these say; printed by a program of this session. No condition. -/
import Derived.Test.YtaacldndbjmekaaP0
import Derived.Test.YtaacldndbjmekaaP12
namespace Go.Proofs.Ytaacldndbjmekaa.P
open Go.RowKit Go.Proofs.YtaacldndbjmekaaW.PrintWords Go.Proofs.YtaacldndbjmekaaW.PrintLast Go.Proofs.YtaacldndbjmekaaW.PrintMore Go.Proofs.Ytaacldndbjmekaa.Hof
attribute [local go_sem] max2_int min2_int max_two min_two max_three min_three max_four min_four   -- for this text's walks alone
set_option linter.unusedVariables false
set_option linter.unusedSimpArgs false

/-! ### impl_checkedSaid: function 62 -/
def impl_checkedSaid.f (k : Nat) (l0 : List (S59)) : Option ((List (S59)) × Bool) := (impl_GoodSaid.f k l0).bind fun t665 => (if t665 = true then (some (l0, true)) else (some (([] : List (S59)), false)))
theorem impl_checkedSaid.mono : ∀ a0 k, LeO (impl_checkedSaid.f k a0) (impl_checkedSaid.f (k + 1) a0) := by
 intro a0 k
 unfold impl_checkedSaid.f
 repeat' with_reducible first | apply impl_GoodSaid.mono | exact LeO.refl _ | exact LeO.none _ | apply LeO.ite | refine LeO.bind ?_ fun _ => ?_
set_option maxHeartbeats 8000000 in
set_option maxRecDepth 100000 in
theorem impl_checkedSaid.calls (k : Nat) (P0_ : Nat → Prop) (u9000_ : Value) (l0 : List (S59)) (r1 : List (S59)) (r2 : Bool) (w0 w : World) (hB : Below w0.heap.size w0 w) (ho0 : Kd.R k59 59 w w0.heap.size P0_ u9000_ l0) (h : impl_checkedSaid.f k l0 = some (r1, r2)) :
  Calls Try.prog 62 #[u9000_] w fun e w' => ∃ v0_ : Value, e = .returned (.tuple #[v0_, .bool r2]) ∧ Kd.R k59 59 w' w0.heap.size (fun k_ => (P0_ k_ ∨ w.heap.size ≤ k_)) v0_ r1 ∧ Below w0.heap.size w0 w' ∧ Kept w w' (fun k_ => P0_ k_) := by
 have HO0 := am_ (show Kd.R k59 59 w w0.heap.size (fun k_ => (P0_ k_ ∨ w.heap.size ≤ k_)) u9000_ l0 from Kd.R_mono ho0 (fun k_ hk => (.inl hk)))
 have HK := am_ (Kept.refl w (fun k_ => P0_ k_))
 have HW0 := am_ hB.size
 have HB := am_ hB
 clear hB
 have H := h
 clear h
 unfold impl_checkedSaid.f at H
 obtain ⟨t665, A2, H⟩ := Sh.ba H
 by_cases c3 : t665 = true
 ·subst c3
  rw [if_pos rfl] at H
  simp only [Option.some.injEq, Prod.mk.injEq] at H
  obtain ⟨rfl, rfl⟩ := H
  obtain ⟨Ao4, co4, eo4⟩ := Kd.R_slice HO0.out
  subst eo4
  go_enter Try.func62, Try.ntmps62
  go_wp2_with (first | ((with_reducible refine Sh.k 40 ?_); refine Sh.gB (some 5) Try.func40 #[.slice Ao4 l0.length co4] (impl_GoodSaid.calls k _ _ l0 true _ (Sh.cR (Kd.R_reads' HO0.out).2.2) (Kd.R_reads' HO0.out).2.1 A2.out) fun w5 hb => ?_; replace HO0 := am_ (Kd.R_below (Sh.rl HO0.out) hb); replace HK := am_ (Kept.below (S := (fun k_ => P0_ k_)) (by repeat (first | (with_reducible first | exact HK.out | apply Kept.alloc | apply Kept.drewN | apply Kept.drew) | exact HK.out)) hb); replace HB := Sh.hb hb; (try clear hb); (try clear hb2); (try clear hk); (try clear hi)))
  go_ret2
  exact ⟨_, Sh.eR, Sh.rl HO0.out, Sh.bw, by repeat (first | (with_reducible first | exact HK.out | apply Kept.alloc | apply Kept.drewN | apply Kept.drew) | exact HK.out)⟩
 ·replace c3 := Bool.eq_false_iff.mpr c3
  subst c3
  rw [Sh.nf] at H
  simp only [Option.some.injEq, Prod.mk.injEq] at H
  obtain ⟨rfl, rfl⟩ := H
  obtain ⟨Ao6, co6, eo6⟩ := Kd.R_slice HO0.out
  subst eo6
  go_enter Try.func62, Try.ntmps62
  go_wp2_with (first | ((with_reducible refine Sh.k 40 ?_); refine Sh.gB (some 5) Try.func40 #[.slice Ao6 l0.length co6] (impl_GoodSaid.calls k _ _ l0 false _ (Sh.cR (Kd.R_reads' HO0.out).2.2) (Kd.R_reads' HO0.out).2.1 A2.out) fun w7 hb => ?_; replace HO0 := am_ (Kd.R_below (Sh.rl HO0.out) hb); replace HK := am_ (Kept.below (S := (fun k_ => P0_ k_)) (by repeat (first | (with_reducible first | exact HK.out | apply Kept.alloc | apply Kept.drewN | apply Kept.drew) | exact HK.out)) hb); replace HB := Sh.hb hb; (try clear hb); (try clear hb2); (try clear hk); (try clear hi)))
  go_ret2
  exact ⟨_, Sh.eR, by first | exact Kd.R_nil _ _ _ _ _ | exact Kd.N_nil _ _ _ _ _ | exact Kd.V_nil _ _ _ _ _ | exact Kd.Q_nil _ _ _ _ _ | exact Kd.S_nil _ _ _ _ _, Sh.bw, by repeat (first | (with_reducible first | exact HK.out | apply Kept.alloc | apply Kept.drewN | apply Kept.drew) | exact HK.out)⟩

end Go.Proofs.Ytaacldndbjmekaa.P
