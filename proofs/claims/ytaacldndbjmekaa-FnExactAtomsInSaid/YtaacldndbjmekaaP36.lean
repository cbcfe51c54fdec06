/- Go functions of this seat as Lean functions, and the proofs that the calls come to what these say; printed by a program of this session. No condition. -/
import Derived.Test.YtaacldndbjmekaaP0
import Derived.Test.YtaacldndbjmekaaP12
import Derived.Test.YtaacldndbjmekaaP35
namespace Go.Proofs.Ytaacldndbjmekaa.P
open Go.RowKit Go.Proofs.YtaacldndbjmekaaW.PrintWords Go.Proofs.YtaacldndbjmekaaW.PrintLast Go.Proofs.YtaacldndbjmekaaW.PrintMore Go.Proofs.Ytaacldndbjmekaa.Hof
attribute [local go_sem] max2_int min2_int max_two min_two max_three min_three max_four min_four   -- for this text's walks alone
set_option linter.unusedVariables false
set_option linter.unusedSimpArgs false

/-! ### impl_AtomsIn: function 13 -/
def impl_AtomsIn.f (k : Nat) (l0 : List (S59)) : Option (List Int × Bool) := (impl_GoodSaid.f k l0).bind fun t307 => (if t307 = true then ((impl_atomsIn.f k l0).bind fun t308 => (some (t308, true))) else (some (([] : List Int), false)))
theorem impl_AtomsIn.mono : ∀ a0 k, LeO (impl_AtomsIn.f k a0) (impl_AtomsIn.f (k + 1) a0) := by
 intro a0 k
 unfold impl_AtomsIn.f
 repeat' with_reducible first | apply impl_GoodSaid.mono | apply impl_atomsIn.mono | exact LeO.refl _ | exact LeO.none _ | apply LeO.ite | refine LeO.bind ?_ fun _ => ?_
set_option maxHeartbeats 8000000 in
set_option maxRecDepth 100000 in
theorem impl_AtomsIn.calls (k : Nat) (A0 : Option Addr) (c0 : Nat) (l0 : List (S59)) (r1 : List Int) (r2 : Bool) (w : World) (hr0 : Kd.C k59 w A0 l0.length l0) (hc0 : l0.length ≤ c0) (h : impl_AtomsIn.f k l0 = some (r1, r2)) :
  Calls Try.prog 13 #[.slice A0 l0.length c0] w fun e w' => ∃ v0_ : Value, e = .returned (.tuple #[v0_, .bool r2]) ∧ Kd.R (Kd.int .i64) 3 w' w.heap.size (fun _ => True) v0_ r1 ∧ Below w.heap.size w w' := by
 have HR0 := am_ hr0
 have HC0 := am_ hc0
 clear hr0 hc0
 have HB := am_ (Below.refl w.heap.size w)
 have H := h
 clear h
 unfold impl_AtomsIn.f at H
 obtain ⟨t307, A2, H⟩ := Sh.ba H
 by_cases c3 : t307 = true
 ·subst c3
  rw [if_pos rfl] at H
  obtain ⟨t308, A4, H⟩ := Sh.ba H
  simp only [Option.some.injEq, Prod.mk.injEq] at H
  obtain ⟨rfl, rfl⟩ := H
  go_enter Try.func13, Try.ntmps13
  go_wp2_with (first | ((with_reducible refine Sh.k 40 ?_); refine Sh.gL (some 5) Try.func40 #[.slice A0 l0.length c0] (h := ?_); (with_reducible refine (impl_GoodSaid.calls k _ _ l0 true _ ?side1 ?side2 A2.out).mono ?_); (case side1 => repeat (first | exact HR0.out | (with_reducible first | refine Kd.C_alloc ?_ _ | refine Kd.C_drewN ?_ _ | refine Kd.C_drew ?_))); (case side2 => exact HC0.out); rintro e w5 ⟨rfl, hb⟩; refine ⟨_, rfl, ?_⟩; replace HB := Sh.hb hb; (try clear hb); (try clear hb2); (try clear hk); (try clear hi)) | ((with_reducible refine Sh.k 41 ?_); refine Sh.gL (some 8) Try.func41 #[.slice A0 l0.length c0] (h := ?_); (with_reducible refine (impl_atomsIn.calls k _ _ l0 t308 _ (Sh.cB HR0.out) HC0.out A4.out).mono ?_); rintro e w6 ⟨v309, rfl, ho0, hb⟩; refine ⟨_, rfl, ?_⟩; have HO310 := am_ (Kd.R_lower ho0 (below_size Sh.bw)); replace HB := Sh.hb hb; (try clear hb); (try clear hb2); (try clear hk); (try clear hi); (try clear ho0)))
  go_ret2
  exact ⟨_, Sh.eR, Sh.rl HO310.out, Sh.bw⟩
 ·replace c3 := Bool.eq_false_iff.mpr c3
  subst c3
  rw [Sh.nf] at H
  simp only [Option.some.injEq, Prod.mk.injEq] at H
  obtain ⟨rfl, rfl⟩ := H
  go_enter Try.func13, Try.ntmps13
  go_wp2_with (first | ((with_reducible refine Sh.k 40 ?_); refine Sh.gL (some 5) Try.func40 #[.slice A0 l0.length c0] (h := ?_); (with_reducible refine (impl_GoodSaid.calls k _ _ l0 false _ ?side1 ?side2 A2.out).mono ?_); (case side1 => repeat (first | exact HR0.out | (with_reducible first | refine Kd.C_alloc ?_ _ | refine Kd.C_drewN ?_ _ | refine Kd.C_drew ?_))); (case side2 => exact HC0.out); rintro e w7 ⟨rfl, hb⟩; refine ⟨_, rfl, ?_⟩; replace HB := Sh.hb hb; (try clear hb); (try clear hb2); (try clear hk); (try clear hi)))
  go_ret2
  exact ⟨_, Sh.eR, by first | exact Kd.R_nil _ _ _ _ _ | exact Kd.N_nil _ _ _ _ _ | exact Kd.V_nil _ _ _ _ _ | exact Kd.Q_nil _ _ _ _ _ | exact Kd.S_nil _ _ _ _ _, Sh.bw⟩

end Go.Proofs.Ytaacldndbjmekaa.P
