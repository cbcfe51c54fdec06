/- The row of the law FnExactGoodAuto: the law's call returns true and leaves its arguments as they were, for every input; out of the printed walk and the pure statement. No condition. -/
import Derived.Test.YtbgbidgnlioomaaRows
import Derived.Test.YtbgbidgnlioomaaMFnExactGoodAuto4
import Derived.Test.YtbgbidgnlioomaaOpen
import Derived.Test.YtbgbidgnlioomaaPureFnExactGoodAuto
import Derived.WalkKit
import Derived.ProofKit
import Derived.OpenShut
import Derived.ShutString
import Derived.ChangeOld
import Derived.Below
import Derived.SizedLaws
import Derived.Carry
set_option linter.unusedVariables false
set_option linter.unusedSimpArgs false
namespace Go.Proofs.Ytbgbidgnlioomaa.fnExactGoodAuto
open Go.ChangeShapes Go.WideShapes Go.ChangeAt Go.RowKit
open Go.ChangeMaps (open_string shut_string)
open Go.Proofs.YtbgbidgnlioomaaW.PrintWords Go.Proofs.Ytbgbidgnlioomaa.P Go.Proofs.Ytbgbidgnlioomaa.Open
theorem own : ownKnob Try.prog.godebug = none := by kernel_rfl
theorem laidOut : laidOutB Try.prog = true := by kernel_rfl
set_option maxRecDepth 100000 in
theorem lifted (os : Os) (started : os.Started) (H : Type) (enc : TypeId × Value → H) :
    ReturnsInHanded {} Try.checked os 9 .any (Rows.fnExactGoodAutoSpec.pre6 enc Try.prog Try.f9 Rows.fnExactGoodAutoRow.domain false) (Rows.fnExactGoodAutoSpec.post enc Try.prog Try.f9 false true false false) := by
  refine returnsInHanded_of_change_sized (C := Try.checked) own started (by kernel_rfl) Try.func9
    (ChangeSpec.witness6 (enc := enc) (C := Try.checked) false ⟨#[], #[.agg #[.int .i64 0, .slice none 0 0, .slice none 0 0, .slice none 0 0]], []⟩ 8 (by kernel_rfl) (by kernel_rfl) (by kernel_rfl) (by kernel_rfl)) ?_
  intro W base args ds gs before hval0 hW hcnd hsz0 _
  have hval : ∀ (j : Nat) t v, Try.f9.params[j]? = some t → args[j]? = some v → Value.okWide Try.prog W .any base t v := hval0
  have hW' := hW
  obtain ⟨p, q, hA0, hV, rfl, hfz, hnd⟩ := hW
  have hA : DataW.TrodAll enc Try.prog W 0 (fun _ => true) true Try.f9.params.toList args.toList ds p := hA0
  rw [Try.params9] at hA hval
  obtain ⟨v0, vs0, d0, ds0, p0, q0, hargs, rfl, rfl, h0, r0⟩ := trodAll_cons hA
  obtain ⟨rfl, rfl, rfl⟩ := trodAll_nil r0
  obtain rfl : args = #[v0] := by cases args; simp_all
  obtain ⟨rfl, rfl⟩ := trodVars_none hV
  have k0 := h0
  have lt0 : ∀ x ∈ p0, x.block < W.heap.size := by obtain ⟨m, hm⟩ := k0; exact DataW.trod_lt m _ _ _ hm
  obtain ⟨fuel0, hf0⟩ := h0
  obtain ⟨x0, hK0, hg0⟩ := (opens_struct4 (k0 := (Kd.int .i64)) (k1 := (Kd.slice 3 (Kd.int .i64))) (k2 := (Kd.slice 133 k133)) (k3 := (Kd.slice 31 (Kd.slice 3 (Kd.int .i64)))) id id (fun _ => rfl) Try.underlying62 (by kernel_rfl) rfl rfl rfl rfl (by kernel_rfl) (by kernel_rfl) (by kernel_rfl) (by kernel_rfl) (opens_i64 Try.underlying3) (opens_slice (k := (Kd.int .i64)) Try.underlying31 (by kernel_rfl) (opens_i64 Try.underlying3)) (opens_slice (k := k133) Try.underlying60 (by kernel_rfl) (opens_struct3 (k0 := (Kd.int .i64)) (k1 := (Kd.int .i64)) (k2 := (Kd.int .i64)) (fun x : S133 => (x.f0, x.f1, x.f2)) (fun p => ⟨p.1, p.2.1, p.2.2⟩) (fun _ => rfl) Try.underlying133 (by kernel_rfl) rfl rfl rfl (by kernel_rfl) (by kernel_rfl) (by kernel_rfl) (opens_i64 Try.underlying3) (opens_i64 Try.underlying3) (opens_i64 Try.underlying3))) (opens_slice (k := (Kd.slice 3 (Kd.int .i64))) Try.underlying42 (by kernel_rfl) (opens_slice (k := (Kd.int .i64)) Try.underlying31 (by kernel_rfl) (opens_i64 Try.underlying3)))) _ _ _ _ _ _ _ _ _ hf0
  obtain ⟨cs0, rfl, hsz0⟩ := okWide_struct Try.underlying62 (hval 0 62 v0 rfl rfl)
  obtain ⟨_, _, hcs0, rfl, ⟨_, _, rfl, ⟨A0_1, c0_1, rfl, hc0_1, hr0_1⟩, ⟨_, _, rfl, ⟨A0_2, c0_2, rfl, hc0_2, hr0_2⟩, ⟨A0_3, c0_3, rfl, hc0_3, hr0_3⟩⟩⟩⟩ := hK0
  obtain rfl : cs0 = #[.int .i64 x0.1, .slice A0_1 _ c0_1, .slice A0_2 _ c0_2, .slice A0_3 _ c0_3] := Array.ext' (show cs0.toList = _ from hcs0)
  clear hA0 hval0 hsz0
  obtain ⟨k, h⟩ := Pure.FnExactGoodAuto x0.1 x0.2.1 x0.2.2.1 x0.2.2.2 hg0.1 hg0.2.1 hg0.2.2.1 hg0.2.2.2
  refine (laws_FnExactGoodAuto.calls k x0.1 _ _ x0.2.1 _ _ x0.2.2.1 _ _ x0.2.2.2 true W hr0_1 hc0_1 hr0_2 hc0_2 hr0_3 hc0_3 h).mono fun e W' ⟨he, bel0⟩ => ?_
  have bel : Below W.heap.size W W' := bel0
  subst he
  exact ⟨_, rfl, _, _, _, [], _, [], hW', trodAll_mk1 (shut_bool Try.underlying4 _), (trodAll_cons_mk (Below.trod laidOut (by kernel_rfl) (of_decide_eq_true (by kernel_rfl)) k0 bel lt0) trodAll_mk0), rfl, bel.frame _, fun h => by cases h⟩
theorem over : Rows.fnExactGoodAutoRow.holds Try.pinned (OpenSpec.ofChange Rows.fnExactGoodAutoSpec) :=
  OpenClaim.holds_of_wide 9 Try.f9 rfl rfl rfl rfl rfl rfl rfl ⟨rfl, rfl, rfl, rfl, rfl⟩ rfl rfl rfl rfl rfl (by kernel_rfl) Try.func9 (by kernel_rfl)
    (of_decide_eq_true (by kernel_rfl)) (by unfold Func.isWrapper; first | (rw [if_pos (by decide +kernel)]; kernel_rfl) | (rw [if_neg (by decide +kernel)]; exact ⟨rfl, rfl⟩))
    (fun os started H enc _ => lifted os started H enc)
theorem proved : Rows.FnExactGoodAutoSaid := over
#print axioms proved
end Go.Proofs.Ytbgbidgnlioomaa.fnExactGoodAuto
namespace Go.Proofs.Ytbgbidgnlioomaa
/-- The row, under a short name, for the claim. -/
theorem fnExactGoodAuto_holds : Rows.FnExactGoodAutoSaid := fnExactGoodAuto.proved
end Go.Proofs.Ytbgbidgnlioomaa
