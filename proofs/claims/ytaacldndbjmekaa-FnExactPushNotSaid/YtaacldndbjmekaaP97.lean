/- Go functions of this seat as Lean functions, and the proofs that the calls come to what these say; printed by a program of this session. No condition. -/
import Derived.Test.YtaacldndbjmekaaP0
import Derived.Test.YtaacldndbjmekaaP5
import Derived.Test.YtaacldndbjmekaaP94
import Derived.Test.YtaacldndbjmekaaP96
namespace Go.Proofs.Ytaacldndbjmekaa.P
open Go.RowKit Go.Proofs.YtaacldndbjmekaaW.PrintWords Go.Proofs.YtaacldndbjmekaaW.PrintLast Go.Proofs.YtaacldndbjmekaaW.PrintMore Go.Proofs.Ytaacldndbjmekaa.Hof
attribute [local go_sem] max2_int min2_int max_two min_two max_three min_three max_four min_four   -- for this text's walks alone
set_option linter.unusedVariables false
set_option linter.unusedSimpArgs false

/-! ### spec_PushNot: function 28 -/
def spec_PushNot.f (k : Nat) (l0 : List (S59)) (a1 : Bool) : Option ((List (S59)) × Bool) := (spec_GoodSaid.f k l0).bind fun t657 => (if t657 = true then ((spec_l10Push.f k l0 (wrap64 ((l0.length : Int) - 1)) a1).bind fun t658 => ((spec_l10Made.f k t658).bind fun bt661 => (some (bt661.1, bt661.2)))) else (some (([] : List (S59)), false)))
theorem spec_PushNot.mono : ∀ a0 a1 k, LeO (spec_PushNot.f k a0 a1) (spec_PushNot.f (k + 1) a0 a1) := by
 intro a0 a1 k
 unfold spec_PushNot.f
 repeat' with_reducible first | apply spec_GoodSaid.mono | apply spec_l10Made.mono | apply spec_l10Push.mono | exact LeO.refl _ | exact LeO.none _ | apply LeO.ite | refine LeO.bind ?_ fun _ => ?_
set_option maxHeartbeats 8000000 in
set_option maxRecDepth 100000 in
theorem spec_PushNot.calls (k : Nat) (A0 : Option Addr) (c0 : Nat) (l0 : List (S59)) (a1 : Bool) (r1 : List (S59)) (r2 : Bool) (w : World) (hr0 : Kd.C k59 w A0 l0.length l0) (hc0 : l0.length ≤ c0) (h : spec_PushNot.f k l0 a1 = some (r1, r2)) :
  Calls Try.prog 28 #[.slice A0 l0.length c0, .bool a1] w fun e w' => ∃ v0_ : Value, e = .returned (.tuple #[v0_, .bool r2]) ∧ Kd.R k59 59 w' w.heap.size (fun _ => True) v0_ r1 ∧ Below w.heap.size w w' := by
 have HR0 := am_ hr0
 have HC0 := am_ hc0
 clear hr0 hc0
 have HB := am_ (Below.refl w.heap.size w)
 have H := h
 clear h
 unfold spec_PushNot.f at H
 obtain ⟨t657, A3, H⟩ := Sh.ba H
 by_cases c4 : t657 = true
 ·subst c4
  rw [if_pos rfl] at H
  obtain ⟨t658, A5, H⟩ := Sh.ba H
  obtain ⟨⟨t661, t664⟩, A60, H⟩ := Sh.bd H
  have A6 := am_ A60
  clear A60
  simp only [Option.some.injEq, Prod.mk.injEq] at H
  obtain ⟨rfl, rfl⟩ := H
  go_enter Try.func28, Try.ntmps28
  go_wp2_with (first | ((with_reducible refine Sh.k 37 ?_); refine Sh.gL (some 7) Try.func37 #[.slice A0 l0.length c0] (h := ?_); (with_reducible refine (spec_GoodSaid.calls k _ _ l0 true _ ?side1 ?side2 A3.out).mono ?_); (case side1 => repeat (first | exact HR0.out | (with_reducible first | refine Kd.C_alloc ?_ _ | refine Kd.C_drewN ?_ _ | refine Kd.C_drew ?_))); (case side2 => exact HC0.out); rintro e w7 ⟨rfl, hb⟩; refine ⟨_, rfl, ?_⟩; replace HB := Sh.hb hb; (try clear hb); (try clear hb2); (try clear hk); (try clear hi)) | ((with_reducible refine Sh.k 61 ?_); refine Sh.gL (some 14) Try.func61 #[.slice A0 l0.length c0, .int .i64 (wrap64 ((l0.length : Int) - 1)), .bool a1] (h := ?_); (with_reducible refine (spec_l10Push.calls k _ _ l0 (wrap64 ((l0.length : Int) - 1)) a1 t658 _ (Sh.cB HR0.out) HC0.out A5.out).mono ?_); rintro e w8 ⟨v659, rfl, ho0, hb⟩; refine ⟨_, rfl, ?_⟩; have HO660 := am_ (Kd.R_lower ho0 (below_size Sh.bw)); replace HB := Sh.hb hb; (try clear hb); (try clear hb2); (try clear hk); (try clear hi); (try clear ho0); obtain ⟨Ao9, co9, eo9⟩ := Kd.R_slice HO660.out; subst eo9) | ((with_reducible refine Sh.k 60 ?_); refine Sh.gL (some 15) Try.func60 #[.slice Ao9 t658.length co9] (h := ?_); (with_reducible refine (spec_l10Made.calls k (fun k_ => some k_ = (.slice Ao9 t658.length co9 : Value).ownBlock) (.slice Ao9 t658.length co9) t658 t661 t664 w _ ?side1 ?side2 A6.out).mono ?_); (case side1 => repeat (first | (with_reducible first | exact HB.out | apply below_alloc | apply pw_below_drewN | apply below_drew1) | exact HB.out)); (case side2 => exact Kd.R_tight rfl HO660.out); rintro e w10 ⟨v662, rfl, ho0, hb, hkp⟩; refine ⟨_, rfl, ?_⟩; have n0_ := am_ (Kd.R_mono (ok' := fun k_ => True) ho0 (fun k_ hk_ => trivial)); have n1_ := am_ hb; clear HB; clear HO660; have HO663 := n0_; have HB := n1_; clear n0_ n1_; (try clear hb); (try clear hkp); (try clear ho0)))
  go_ret2
  exact ⟨_, Sh.eR, Sh.rl HO663.out, Sh.bw⟩
 ·replace c4 := Bool.eq_false_iff.mpr c4
  subst c4
  rw [Sh.nf] at H
  simp only [Option.some.injEq, Prod.mk.injEq] at H
  obtain ⟨rfl, rfl⟩ := H
  go_enter Try.func28, Try.ntmps28
  go_wp2_with (first | ((with_reducible refine Sh.k 37 ?_); refine Sh.gL (some 7) Try.func37 #[.slice A0 l0.length c0] (h := ?_); (with_reducible refine (spec_GoodSaid.calls k _ _ l0 false _ ?side1 ?side2 A3.out).mono ?_); (case side1 => repeat (first | exact HR0.out | (with_reducible first | refine Kd.C_alloc ?_ _ | refine Kd.C_drewN ?_ _ | refine Kd.C_drew ?_))); (case side2 => exact HC0.out); rintro e w11 ⟨rfl, hb⟩; refine ⟨_, rfl, ?_⟩; replace HB := Sh.hb hb; (try clear hb); (try clear hb2); (try clear hk); (try clear hi)))
  go_ret2
  exact ⟨_, Sh.eR, by first | exact Kd.R_nil _ _ _ _ _ | exact Kd.N_nil _ _ _ _ _ | exact Kd.V_nil _ _ _ _ _ | exact Kd.Q_nil _ _ _ _ _ | exact Kd.S_nil _ _ _ _ _, Sh.bw⟩

end Go.Proofs.Ytaacldndbjmekaa.P
