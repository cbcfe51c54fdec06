/- The row of the law FnExactPathTo: the law's call returns true and leaves its arguments as they were, for every input; out of the printed walk and the pure statement. No condition. -/
import Derived.Test.YtdbfcmoifpgnbaaGreatRows
import Derived.Test.YtdbfcmoifpgnbaaGreatMFnExactPathTo5
import Derived.Test.YtdbfcmoifpgnbaaGreatOpen
import Derived.Test.YtdbfcmoifpgnbaaGreatPureFnExactPathTo
import Derived.WalkKit
import Derived.ProofKit
import Derived.OpenShut
import Derived.ShutString
import Derived.ChangeOld
import Derived.Below
import Derived.SizedLaws
import Derived.Carry
set_option linter.unusedVariables false
set_option linter.unusedSimpArgs false
namespace Go.Proofs.YtdbfcmoifpgnbaaGreat.fnExactPathTo
open Go.ChangeShapes Go.WideShapes Go.ChangeAt Go.RowKit
open Go.ChangeMaps (open_string shut_string)
open Go.Proofs.YtdbfcmoifpgnbaaGreatW.PrintWords Go.Proofs.YtdbfcmoifpgnbaaGreat.P Go.Proofs.YtdbfcmoifpgnbaaGreat.Open
theorem own : ownKnob Tryz.prog.godebug = none := by kernel_rfl
theorem laidOut : laidOutB Tryz.prog = true := by kernel_rfl
set_option maxRecDepth 100000 in
theorem lifted (os : Os) (started : os.Started) (H : Type) (enc : TypeId × Value → H) :
    ReturnsInHanded {} Tryz.checked os 3 .any (Rows.fnExactPathToSpec.pre6 enc Tryz.prog Tryz.f3 Rows.fnExactPathToRow.domain false) (Rows.fnExactPathToSpec.post enc Tryz.prog Tryz.f3 false true false false) := by
  refine returnsInHanded_of_change_sized (C := Tryz.checked) own started (by kernel_rfl) Tryz.func3
    (ChangeSpec.witness6 (enc := enc) (C := Tryz.checked) false ⟨#[], #[.agg #[.int .i64 0, .int .i64 0, .slice none 0 0, .slice none 0 0], .int .i64 0], []⟩ 8 (by kernel_rfl) (by kernel_rfl) (by kernel_rfl) (by kernel_rfl)) ?_
  intro W base args ds gs before hval0 hW hcnd hsz0 _
  have hval : ∀ (j : Nat) t v, Tryz.f3.params[j]? = some t → args[j]? = some v → Value.okWide Tryz.prog W .any base t v := hval0
  have hW' := hW
  obtain ⟨p, q, hA0, hV, rfl, hfz, hnd⟩ := hW
  have hA : DataW.TrodAll enc Tryz.prog W 0 (fun _ => true) true Tryz.f3.params.toList args.toList ds p := hA0
  rw [Tryz.params3] at hA hval
  obtain ⟨v0, vs0, d0, ds0, p0, q0, hargs, rfl, rfl, h0, r0⟩ := trodAll_cons hA
  obtain ⟨v1, vs1, d1, ds1, p1, q1, rfl, rfl, rfl, h1, r1⟩ := trodAll_cons r0
  obtain ⟨rfl, rfl, rfl⟩ := trodAll_nil r1
  obtain rfl : args = #[v0, v1] := by cases args; simp_all
  obtain ⟨rfl, rfl⟩ := trodVars_none hV
  have k0 := h0
  have lt0 : ∀ x ∈ p0, x.block < W.heap.size := by obtain ⟨m, hm⟩ := k0; exact DataW.trod_lt m _ _ _ hm
  obtain ⟨fuel0, hf0⟩ := h0
  obtain ⟨x0, hK0, hg0⟩ := (opens_struct4 (k0 := (Kd.int .i64)) (k1 := (Kd.int .i64)) (k2 := (Kd.slice 79 k79)) (k3 := (Kd.slice 61 k61)) id id (fun _ => rfl) Tryz.underlying25 (by kernel_rfl) rfl rfl rfl rfl (by kernel_rfl) (by kernel_rfl) (by kernel_rfl) (by kernel_rfl) (opens_i64 Tryz.underlying3) (opens_i64 Tryz.underlying3) (opens_slice (k := k79) Tryz.underlying22 (by kernel_rfl) (opens_struct2 (k0 := (Kd.int .i64)) (k1 := (Kd.int .u64)) (fun x : S79 => (x.f0, x.f1)) (fun p => ⟨p.1, p.2⟩) (fun _ => rfl) Tryz.underlying79 (by kernel_rfl) rfl rfl (by kernel_rfl) (by kernel_rfl) (opens_i64 Tryz.underlying3) (opens_u64 Tryz.underlying75))) (opens_slice (k := k61) Tryz.underlying23 (by kernel_rfl) (opens_struct2 (k0 := (Kd.slice 79 k79)) (k1 := (Kd.slice 110 k110)) (fun x : S61 => (x.f0, x.f1)) (fun p => ⟨p.1, p.2⟩) (fun _ => rfl) Tryz.underlying61 (by kernel_rfl) rfl rfl (by kernel_rfl) (by kernel_rfl) (opens_slice (k := k79) Tryz.underlying22 (by kernel_rfl) (opens_struct2 (k0 := (Kd.int .i64)) (k1 := (Kd.int .u64)) (fun x : S79 => (x.f0, x.f1)) (fun p => ⟨p.1, p.2⟩) (fun _ => rfl) Tryz.underlying79 (by kernel_rfl) rfl rfl (by kernel_rfl) (by kernel_rfl) (opens_i64 Tryz.underlying3) (opens_u64 Tryz.underlying75))) (opens_slice (k := k110) Tryz.underlying59 (by kernel_rfl) (opens_struct2 (k0 := (Kd.int .i64)) (k1 := (Kd.slice 79 k79)) (fun x : S110 => (x.f0, x.f1)) (fun p => ⟨p.1, p.2⟩) (fun _ => rfl) Tryz.underlying110 (by kernel_rfl) rfl rfl (by kernel_rfl) (by kernel_rfl) (opens_i64 Tryz.underlying3) (opens_slice (k := k79) Tryz.underlying22 (by kernel_rfl) (opens_struct2 (k0 := (Kd.int .i64)) (k1 := (Kd.int .u64)) (fun x : S79 => (x.f0, x.f1)) (fun p => ⟨p.1, p.2⟩) (fun _ => rfl) Tryz.underlying79 (by kernel_rfl) rfl rfl (by kernel_rfl) (by kernel_rfl) (opens_i64 Tryz.underlying3) (opens_u64 Tryz.underlying75)))))))) _ _ _ _ _ _ _ _ _ hf0
  obtain ⟨cs0, rfl, hsz0⟩ := okWide_struct Tryz.underlying25 (hval 0 25 v0 rfl rfl)
  obtain ⟨_, _, hcs0, rfl, ⟨_, _, rfl, rfl, ⟨_, _, rfl, ⟨A0_2, c0_2, rfl, hc0_2, hr0_2⟩, ⟨A0_3, c0_3, rfl, hc0_3, hr0_3⟩⟩⟩⟩ := hK0
  obtain rfl : cs0 = #[.int .i64 x0.1, .int .i64 x0.2.1, .slice A0_2 _ c0_2, .slice A0_3 _ c0_3] := Array.ext' (show cs0.toList = _ from hcs0)
  obtain ⟨a1, rfl, rfl, rfl, w1⟩ := open_int Tryz.underlying3 (hval 1 3 v1 rfl rfl) h1
  clear hA0 hval0 hsz0
  obtain ⟨k, h⟩ := Pure.FnExactPathTo x0.1 x0.2.1 x0.2.2.1 x0.2.2.2 a1 hg0.1 hg0.2.1 hg0.2.2.1 hg0.2.2.2 (in64_wf w1)
  refine (laws_FnExactPathTo.calls k x0.1 x0.2.1 _ _ x0.2.2.1 _ _ x0.2.2.2 a1 W hr0_2 hc0_2 hr0_3 hc0_3 h).mono fun e W' ⟨he, bel0⟩ => ?_
  have bel : Below W.heap.size W W' := bel0
  subst he
  exact ⟨_, rfl, _, _, _, [], _, [], hW', trodAll_mk1 (shut_bool Tryz.underlying4 _), (trodAll_cons_mk (Below.trod laidOut (by kernel_rfl) (of_decide_eq_true (by kernel_rfl)) k0 bel lt0) (trodAll_cons_mk (shut_int Tryz.underlying3 w1) trodAll_mk0)), rfl, bel.frame _, fun h => by cases h⟩
theorem over : Rows.fnExactPathToRow.holds Tryz.pinned (OpenSpec.ofChange Rows.fnExactPathToSpec) :=
  OpenClaim.holds_of_wide 3 Tryz.f3 rfl rfl rfl rfl rfl rfl rfl ⟨rfl, rfl, rfl, rfl, rfl⟩ rfl rfl rfl rfl rfl (by kernel_rfl) Tryz.func3 (by kernel_rfl)
    (of_decide_eq_true (by kernel_rfl)) (by unfold Func.isWrapper; first | (rw [if_pos (by decide +kernel)]; kernel_rfl) | (rw [if_neg (by decide +kernel)]; exact ⟨rfl, rfl⟩))
    (fun os started H enc _ => lifted os started H enc)
theorem proved : Rows.FnExactPathToSaid := over
#print axioms proved
end Go.Proofs.YtdbfcmoifpgnbaaGreat.fnExactPathTo
namespace Go.Proofs.YtdbfcmoifpgnbaaGreat
/-- The row, under a short name, for the claim. -/
theorem fnExactPathTo_holds : Rows.FnExactPathToSaid := fnExactPathTo.proved
end Go.Proofs.YtdbfcmoifpgnbaaGreat
