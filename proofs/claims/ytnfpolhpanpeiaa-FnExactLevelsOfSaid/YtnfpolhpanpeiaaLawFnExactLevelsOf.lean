/- The row of the law FnExactLevelsOf: the law's call returns true and leaves its arguments as they were, for every input; out of the printed walk and the pure statement. No condition. -/
import Derived.Test.YtnfpolhpanpeiaaRows
import Derived.Test.YtnfpolhpanpeiaaMFnExactLevelsOf3
import Derived.Test.YtnfpolhpanpeiaaOpen
import Derived.Test.YtnfpolhpanpeiaaPureFnExactLevelsOf
import Derived.WalkKit
import Derived.ProofKit
import Derived.OpenShut
import Derived.ShutString
import Derived.ChangeOld
import Derived.Below
import Derived.SizedLaws
import Derived.Carry
set_option linter.unusedVariables false
set_option linter.unusedSimpArgs false
namespace Go.Proofs.Ytnfpolhpanpeiaa.fnExactLevelsOf
open Go.ChangeShapes Go.WideShapes Go.ChangeAt Go.RowKit
open Go.ChangeMaps (open_string shut_string)
open Go.Proofs.YtnfpolhpanpeiaaW.PrintWords Go.Proofs.Ytnfpolhpanpeiaa.P Go.Proofs.Ytnfpolhpanpeiaa.Open
theorem own : ownKnob Try.prog.godebug = none := by kernel_rfl
theorem laidOut : laidOutB Try.prog = true := by kernel_rfl
set_option maxRecDepth 100000 in
theorem lifted (os : Os) (started : os.Started) (H : Type) (enc : TypeId × Value → H) :
    ReturnsInHanded {} Try.checked os 4 .any (Rows.fnExactLevelsOfSpec.pre6 enc Try.prog Try.f4 Rows.fnExactLevelsOfRow.domain false) (Rows.fnExactLevelsOfSpec.post enc Try.prog Try.f4 false true false false) := by
  refine returnsInHanded_of_change_sized (C := Try.checked) own started (by kernel_rfl) Try.func4
    (ChangeSpec.witness6 (enc := enc) (C := Try.checked) false ⟨#[], #[.agg #[.slice none 0 0]], []⟩ 8 (by kernel_rfl) (by kernel_rfl) (by kernel_rfl) (by kernel_rfl)) ?_
  intro W base args ds gs before hval0 hW hcnd hsz0 _
  have hval : ∀ (j : Nat) t v, Try.f4.params[j]? = some t → args[j]? = some v → Value.okWide Try.prog W .any base t v := hval0
  have hW' := hW
  obtain ⟨p, q, hA0, hV, rfl, hfz, hnd⟩ := hW
  have hA : DataW.TrodAll enc Try.prog W 0 (fun _ => true) true Try.f4.params.toList args.toList ds p := hA0
  rw [Try.params4] at hA hval
  obtain ⟨v0, vs0, d0, ds0, p0, q0, hargs, rfl, rfl, h0, r0⟩ := trodAll_cons hA
  obtain ⟨rfl, rfl, rfl⟩ := trodAll_nil r0
  obtain rfl : args = #[v0] := by cases args; simp_all
  obtain ⟨rfl, rfl⟩ := trodVars_none hV
  have k0 := h0
  have lt0 : ∀ x ∈ p0, x.block < W.heap.size := by obtain ⟨m, hm⟩ := k0; exact DataW.trod_lt m _ _ _ hm
  obtain ⟨fuel0, hf0⟩ := h0
  obtain ⟨x0, hK0, hg0⟩ := (opens_struct1 (k0 := (Kd.slice 26 (Kd.slice 3 (Kd.int .i64)))) id id (fun _ => rfl) Try.underlying24 (by kernel_rfl) rfl (by kernel_rfl) (opens_slice (k := (Kd.slice 3 (Kd.int .i64))) Try.underlying22 (by kernel_rfl) (opens_slice (k := (Kd.int .i64)) Try.underlying26 (by kernel_rfl) (opens_i64 Try.underlying3)))) _ _ _ _ _ _ _ _ _ hf0
  obtain ⟨cs0, rfl, hsz0⟩ := okWide_struct Try.underlying24 (hval 0 24 v0 rfl rfl)
  obtain ⟨A0_0, c0_0, hcs0, hc0_0, hr0_0⟩ := hK0
  obtain rfl : cs0 = #[.slice A0_0 _ c0_0] := Array.ext' (show cs0.toList = _ from hcs0)
  clear hA0 hval0 hsz0
  obtain ⟨k, h⟩ := Pure.FnExactLevelsOf x0 hg0
  refine (laws_FnExactLevelsOf.calls k _ _ x0 W hr0_0 hc0_0 h).mono fun e W' ⟨he, bel0⟩ => ?_
  have bel : Below W.heap.size W W' := bel0
  subst he
  exact ⟨_, rfl, _, _, _, [], _, [], hW', trodAll_mk1 (shut_bool Try.underlying4 _), (trodAll_cons_mk (Below.trod laidOut (by kernel_rfl) (of_decide_eq_true (by kernel_rfl)) k0 bel lt0) trodAll_mk0), rfl, bel.frame _, fun h => by cases h⟩
theorem over : Rows.fnExactLevelsOfRow.holds Try.pinned (OpenSpec.ofChange Rows.fnExactLevelsOfSpec) :=
  OpenClaim.holds_of_wide 4 Try.f4 rfl rfl rfl rfl rfl rfl rfl ⟨rfl, rfl, rfl, rfl, rfl⟩ rfl rfl rfl rfl rfl (by kernel_rfl) Try.func4 (by kernel_rfl)
    (of_decide_eq_true (by kernel_rfl)) (by unfold Func.isWrapper; first | (rw [if_pos (by decide +kernel)]; kernel_rfl) | (rw [if_neg (by decide +kernel)]; exact ⟨rfl, rfl⟩))
    (fun os started H enc _ => lifted os started H enc)
theorem proved : Rows.FnExactLevelsOfSaid := over
#print axioms proved
end Go.Proofs.Ytnfpolhpanpeiaa.fnExactLevelsOf
namespace Go.Proofs.Ytnfpolhpanpeiaa
/-- The row, under a short name, for the claim. -/
theorem fnExactLevelsOf_holds : Rows.FnExactLevelsOfSaid := fnExactLevelsOf.proved
end Go.Proofs.Ytnfpolhpanpeiaa
