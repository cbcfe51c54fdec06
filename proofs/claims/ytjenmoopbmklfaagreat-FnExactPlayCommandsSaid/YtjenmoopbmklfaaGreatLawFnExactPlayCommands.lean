/- The row of the law FnExactPlayCommands: the law's call returns true and leaves its arguments as they were, for every input; out of the printed walk and the pure statement. No condition. -/
import Derived.Test.YtjenmoopbmklfaaGreatRows
import Derived.Test.YtjenmoopbmklfaaGreatMFnExactPlayCommands5
import Derived.Test.YtjenmoopbmklfaaGreatOpen
import Derived.Test.YtjenmoopbmklfaaGreatPureFnExactPlayCommands
import Derived.WalkKit
import Derived.ProofKit
import Derived.OpenShut
import Derived.ShutString
import Derived.ChangeOld
import Derived.Below
import Derived.SizedLaws
import Derived.Carry
set_option linter.unusedVariables false
set_option linter.unusedSimpArgs false
namespace Go.Proofs.YtjenmoopbmklfaaGreat.fnExactPlayCommands
open Go.ChangeShapes Go.WideShapes Go.ChangeAt Go.RowKit
open Go.ChangeMaps (open_string shut_string)
open Go.Proofs.YtjenmoopbmklfaaGreatW.PrintWords Go.Proofs.YtjenmoopbmklfaaGreat.P Go.Proofs.YtjenmoopbmklfaaGreat.Open
theorem own : ownKnob Tryz.prog.godebug = none := by kernel_rfl
theorem laidOut : laidOutB Tryz.prog = true := by kernel_rfl
set_option maxRecDepth 100000 in
theorem lifted (os : Os) (started : os.Started) (H : Type) (enc : TypeId × Value → H) :
    ReturnsInHanded {} Tryz.checked os 3 .any (Rows.fnExactPlayCommandsSpec.pre6 enc Tryz.prog Tryz.f3 Rows.fnExactPlayCommandsRow.domain false) (Rows.fnExactPlayCommandsSpec.post enc Tryz.prog Tryz.f3 false true false false) := by
  refine returnsInHanded_of_change_sized (C := Tryz.checked) own started (by kernel_rfl) Tryz.func3
    (ChangeSpec.witness6 (enc := enc) (C := Tryz.checked) false ⟨#[], #[.agg #[.int .i64 0, .int .i64 0, .slice none 0 0, .slice none 0 0], .slice none 0 0, .slice none 0 0], []⟩ 8 (by kernel_rfl) (by kernel_rfl) (by kernel_rfl) (by kernel_rfl)) ?_
  intro W base args ds gs before hval0 hW hcnd hsz0 _
  have hval : ∀ (j : Nat) t v, Tryz.f3.params[j]? = some t → args[j]? = some v → Value.okWide Tryz.prog W .any base t v := hval0
  have hW' := hW
  obtain ⟨p, q, hA0, hV, rfl, hfz, hnd⟩ := hW
  have hA : DataW.TrodAll enc Tryz.prog W 0 (fun _ => true) true Tryz.f3.params.toList args.toList ds p := hA0
  rw [Tryz.params3] at hA hval
  obtain ⟨v0, vs0, d0, ds0, p0, q0, hargs, rfl, rfl, h0, r0⟩ := trodAll_cons hA
  obtain ⟨v1, vs1, d1, ds1, p1, q1, rfl, rfl, rfl, h1, r1⟩ := trodAll_cons r0
  obtain ⟨v2, vs2, d2, ds2, p2, q2, rfl, rfl, rfl, h2, r2⟩ := trodAll_cons r1
  obtain ⟨rfl, rfl, rfl⟩ := trodAll_nil r2
  obtain rfl : args = #[v0, v1, v2] := by cases args; simp_all
  obtain ⟨rfl, rfl⟩ := trodVars_none hV
  have k0 := h0
  have lt0 : ∀ x ∈ p0, x.block < W.heap.size := by obtain ⟨m, hm⟩ := k0; exact DataW.trod_lt m _ _ _ hm
  obtain ⟨fuel0, hf0⟩ := h0
  obtain ⟨x0, hK0, hg0⟩ := (opens_struct4 (k0 := (Kd.int .i64)) (k1 := (Kd.int .i64)) (k2 := (Kd.slice 82 k82)) (k3 := (Kd.slice 67 k67)) id id (fun _ => rfl) Tryz.underlying25 (by kernel_rfl) rfl rfl rfl rfl (by kernel_rfl) (by kernel_rfl) (by kernel_rfl) (by kernel_rfl) (opens_i64 Tryz.underlying3) (opens_i64 Tryz.underlying3) (opens_slice (k := k82) Tryz.underlying22 (by kernel_rfl) (opens_struct2 (k0 := (Kd.int .i64)) (k1 := (Kd.int .u64)) (fun x : S82 => (x.f0, x.f1)) (fun p => ⟨p.1, p.2⟩) (fun _ => rfl) Tryz.underlying82 (by kernel_rfl) rfl rfl (by kernel_rfl) (by kernel_rfl) (opens_i64 Tryz.underlying3) (opens_u64 Tryz.underlying59))) (opens_slice (k := k67) Tryz.underlying23 (by kernel_rfl) (opens_struct2 (k0 := (Kd.slice 82 k82)) (k1 := (Kd.slice 108 k108)) (fun x : S67 => (x.f0, x.f1)) (fun p => ⟨p.1, p.2⟩) (fun _ => rfl) Tryz.underlying67 (by kernel_rfl) rfl rfl (by kernel_rfl) (by kernel_rfl) (opens_slice (k := k82) Tryz.underlying22 (by kernel_rfl) (opens_struct2 (k0 := (Kd.int .i64)) (k1 := (Kd.int .u64)) (fun x : S82 => (x.f0, x.f1)) (fun p => ⟨p.1, p.2⟩) (fun _ => rfl) Tryz.underlying82 (by kernel_rfl) rfl rfl (by kernel_rfl) (by kernel_rfl) (opens_i64 Tryz.underlying3) (opens_u64 Tryz.underlying59))) (opens_slice (k := k108) Tryz.underlying65 (by kernel_rfl) (opens_struct2 (k0 := (Kd.int .i64)) (k1 := (Kd.slice 82 k82)) (fun x : S108 => (x.f0, x.f1)) (fun p => ⟨p.1, p.2⟩) (fun _ => rfl) Tryz.underlying108 (by kernel_rfl) rfl rfl (by kernel_rfl) (by kernel_rfl) (opens_i64 Tryz.underlying3) (opens_slice (k := k82) Tryz.underlying22 (by kernel_rfl) (opens_struct2 (k0 := (Kd.int .i64)) (k1 := (Kd.int .u64)) (fun x : S82 => (x.f0, x.f1)) (fun p => ⟨p.1, p.2⟩) (fun _ => rfl) Tryz.underlying82 (by kernel_rfl) rfl rfl (by kernel_rfl) (by kernel_rfl) (opens_i64 Tryz.underlying3) (opens_u64 Tryz.underlying59)))))))) _ _ _ _ _ _ _ _ _ hf0
  obtain ⟨cs0, rfl, hsz0⟩ := okWide_struct Tryz.underlying25 (hval 0 25 v0 rfl rfl)
  obtain ⟨_, _, hcs0, rfl, ⟨_, _, rfl, rfl, ⟨_, _, rfl, ⟨A0_2, c0_2, rfl, hc0_2, hr0_2⟩, ⟨A0_3, c0_3, rfl, hc0_3, hr0_3⟩⟩⟩⟩ := hK0
  obtain rfl : cs0 = #[.int .i64 x0.1, .int .i64 x0.2.1, .slice A0_2 _ c0_2, .slice A0_3 _ c0_3] := Array.ext' (show cs0.toList = _ from hcs0)
  have k1 := h1
  have lt1 : ∀ x ∈ p1, x.block < W.heap.size := by obtain ⟨m, hm⟩ := k1; exact DataW.trod_lt m _ _ _ hm
  obtain ⟨fuel1, hf1⟩ := h1
  obtain ⟨x1, hK1, hg1⟩ := (opens_slice (k := (Kd.int .u64)) Tryz.underlying26 (by kernel_rfl) (opens_u64 Tryz.underlying59)) _ _ _ _ _ _ _ _ _ hf1
  obtain ⟨ad1, len1, cap1, rfl⟩ := okWide_slice Tryz.underlying26 (hval 1 26 v1 rfl rfl)
  obtain ⟨A1, c1, hcs1, hc1, hr1⟩ := hK1
  simp only [Value.cells, List.cons.injEq, Value.slice.injEq, and_true] at hcs1
  obtain ⟨rfl, rfl, rfl⟩ := hcs1
  have k2 := h2
  have lt2 : ∀ x ∈ p2, x.block < W.heap.size := by obtain ⟨m, hm⟩ := k2; exact DataW.trod_lt m _ _ _ hm
  obtain ⟨fuel2, hf2⟩ := h2
  obtain ⟨x2, hK2, hg2⟩ := (opens_slice (k := (Kd.int .i64)) Tryz.underlying27 (by kernel_rfl) (opens_i64 Tryz.underlying3)) _ _ _ _ _ _ _ _ _ hf2
  obtain ⟨ad2, len2, cap2, rfl⟩ := okWide_slice Tryz.underlying27 (hval 2 27 v2 rfl rfl)
  obtain ⟨A2, c2, hcs2, hc2, hr2⟩ := hK2
  simp only [Value.cells, List.cons.injEq, Value.slice.injEq, and_true] at hcs2
  obtain ⟨rfl, rfl, rfl⟩ := hcs2
  clear hA0 hval0 hsz0
  obtain ⟨k, h⟩ := Pure.FnExactPlayCommands x0.1 x0.2.1 x0.2.2.1 x0.2.2.2 x1 x2 hg0.1 hg0.2.1 hg0.2.2.1 hg0.2.2.2 hg1 hg2
  refine (laws_FnExactPlayCommands.calls k x0.1 x0.2.1 _ _ x0.2.2.1 _ _ x0.2.2.2 _ _ x1 _ _ x2 W hr0_2 hc0_2 hr0_3 hc0_3 hr1 hc1 hr2 hc2 h).mono fun e W' ⟨he, bel0⟩ => ?_
  have bel : Below W.heap.size W W' := bel0
  subst he
  exact ⟨_, rfl, _, _, _, [], _, [], hW', trodAll_mk1 (shut_bool Tryz.underlying4 _), (trodAll_cons_mk (Below.trod laidOut (by kernel_rfl) (of_decide_eq_true (by kernel_rfl)) k0 bel lt0) (trodAll_cons_mk (Below.trod laidOut (by kernel_rfl) (of_decide_eq_true (by kernel_rfl)) k1 bel lt1) (trodAll_cons_mk (Below.trod laidOut (by kernel_rfl) (of_decide_eq_true (by kernel_rfl)) k2 bel lt2) trodAll_mk0))), rfl, bel.frame _, fun h => by cases h⟩
theorem over : Rows.fnExactPlayCommandsRow.holds Tryz.pinned (OpenSpec.ofChange Rows.fnExactPlayCommandsSpec) :=
  OpenClaim.holds_of_wide 3 Tryz.f3 rfl rfl rfl rfl rfl rfl rfl ⟨rfl, rfl, rfl, rfl, rfl⟩ rfl rfl rfl rfl rfl (by kernel_rfl) Tryz.func3 (by kernel_rfl)
    (of_decide_eq_true (by kernel_rfl)) (by unfold Func.isWrapper; first | (rw [if_pos (by decide +kernel)]; kernel_rfl) | (rw [if_neg (by decide +kernel)]; exact ⟨rfl, rfl⟩))
    (fun os started H enc _ => lifted os started H enc)
theorem proved : Rows.FnExactPlayCommandsSaid := over
#print axioms proved
end Go.Proofs.YtjenmoopbmklfaaGreat.fnExactPlayCommands
namespace Go.Proofs.YtjenmoopbmklfaaGreat
/-- The row, under a short name, for the claim. -/
theorem fnExactPlayCommands_holds : Rows.FnExactPlayCommandsSaid := fnExactPlayCommands.proved
end Go.Proofs.YtjenmoopbmklfaaGreat
