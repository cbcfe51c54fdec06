/- Go functions of this seat as Lean functions, and the proofs that the calls come to what these say; printed by a program of this session. No condition. -/
import Derived.Test.YtaacldndbjmekaaP0
import Derived.Test.YtaacldndbjmekaaP12
import Derived.Test.YtaacldndbjmekaaP98
import Derived.Test.YtaacldndbjmekaaP101
namespace Go.Proofs.Ytaacldndbjmekaa.P
open Go.RowKit Go.Proofs.YtaacldndbjmekaaW.PrintWords Go.Proofs.YtaacldndbjmekaaW.PrintLast Go.Proofs.YtaacldndbjmekaaW.PrintMore Go.Proofs.Ytaacldndbjmekaa.Hof
attribute [local go_sem] max2_int min2_int max_two min_two max_three min_three max_four min_four   -- for this text's walks alone
set_option linter.unusedVariables false
set_option linter.unusedSimpArgs false

/-! ### impl_PushNot: function 29 -/
def impl_PushNot.f (k : Nat) (l0 : List (S59)) (a1 : Bool) : Option ((List (S59)) × Bool) := (impl_GoodSaid.f k l0).bind fun t713 => (if t713 = true then ((impl_pushNot.f k l0 a1).bind fun t714 => ((impl_checkedSaid.f k t714).bind fun bt717 => (some (bt717.1, bt717.2)))) else (some (([] : List (S59)), false)))
theorem impl_PushNot.mono : ∀ a0 a1 k, LeO (impl_PushNot.f k a0 a1) (impl_PushNot.f (k + 1) a0 a1) := by
 intro a0 a1 k
 unfold impl_PushNot.f
 repeat' with_reducible first | apply impl_GoodSaid.mono | apply impl_checkedSaid.mono | apply impl_pushNot.mono | exact LeO.refl _ | exact LeO.none _ | apply LeO.ite | refine LeO.bind ?_ fun _ => ?_
set_option maxHeartbeats 8000000 in
set_option maxRecDepth 100000 in
theorem impl_PushNot.calls (k : Nat) (A0 : Option Addr) (c0 : Nat) (l0 : List (S59)) (a1 : Bool) (r1 : List (S59)) (r2 : Bool) (w : World) (hr0 : Kd.C k59 w A0 l0.length l0) (hc0 : l0.length ≤ c0) (h : impl_PushNot.f k l0 a1 = some (r1, r2)) :
  Calls Try.prog 29 #[.slice A0 l0.length c0, .bool a1] w fun e w' => ∃ v0_ : Value, e = .returned (.tuple #[v0_, .bool r2]) ∧ Kd.R k59 59 w' w.heap.size (fun _ => True) v0_ r1 ∧ Below w.heap.size w w' := by
 have HR0 := am_ hr0
 have HC0 := am_ hc0
 clear hr0 hc0
 have HB := am_ (Below.refl w.heap.size w)
 have H := h
 clear h
 unfold impl_PushNot.f at H
 obtain ⟨t713, A3, H⟩ := Sh.ba H
 by_cases c4 : t713 = true
 ·subst c4
  rw [if_pos rfl] at H
  obtain ⟨t714, A5, H⟩ := Sh.ba H
  obtain ⟨⟨t717, t720⟩, A60, H⟩ := Sh.bd H
  have A6 := am_ A60
  clear A60
  simp only [Option.some.injEq, Prod.mk.injEq] at H
  obtain ⟨rfl, rfl⟩ := H
  go_enter Try.func29, Try.ntmps29
  go_wp2_with (first | ((with_reducible refine Sh.k 40 ?_); refine Sh.gL (some 7) Try.func40 #[.slice A0 l0.length c0] (h := ?_); (with_reducible refine (impl_GoodSaid.calls k _ _ l0 true _ ?side1 ?side2 A3.out).mono ?_); (case side1 => repeat (first | exact HR0.out | (with_reducible first | refine Kd.C_alloc ?_ _ | refine Kd.C_drewN ?_ _ | refine Kd.C_drew ?_))); (case side2 => exact HC0.out); rintro e w7 ⟨rfl, hb⟩; refine ⟨_, rfl, ?_⟩; replace HB := Sh.hb hb; (try clear hb); (try clear hb2); (try clear hk); (try clear hi)) | ((with_reducible refine Sh.k 63 ?_); refine Sh.gL (some 11) Try.func63 #[.slice A0 l0.length c0, .bool a1] (h := ?_); (with_reducible refine (impl_pushNot.calls k _ _ l0 a1 t714 _ (Sh.cB HR0.out) HC0.out A5.out).mono ?_); rintro e w8 ⟨v715, rfl, ho0, hb⟩; refine ⟨_, rfl, ?_⟩; have HO716 := am_ (Kd.R_lower ho0 (below_size Sh.bw)); replace HB := Sh.hb hb; (try clear hb); (try clear hb2); (try clear hk); (try clear hi); (try clear ho0); obtain ⟨Ao9, co9, eo9⟩ := Kd.R_slice HO716.out; subst eo9) | ((with_reducible refine Sh.k 62 ?_); refine Sh.gL (some 12) Try.func62 #[.slice Ao9 t714.length co9] (h := ?_); (with_reducible refine (impl_checkedSaid.calls k (fun k_ => some k_ = (.slice Ao9 t714.length co9 : Value).ownBlock) (.slice Ao9 t714.length co9) t714 t717 t720 w _ ?side1 ?side2 A6.out).mono ?_); (case side1 => repeat (first | (with_reducible first | exact HB.out | apply below_alloc | apply pw_below_drewN | apply below_drew1) | exact HB.out)); (case side2 => exact Kd.R_tight rfl HO716.out); rintro e w10 ⟨v718, rfl, ho0, hb, hkp⟩; refine ⟨_, rfl, ?_⟩; have n0_ := am_ (Kd.R_mono (ok' := fun k_ => True) ho0 (fun k_ hk_ => trivial)); have n1_ := am_ hb; clear HB; clear HO716; have HO719 := n0_; have HB := n1_; clear n0_ n1_; (try clear hb); (try clear hkp); (try clear ho0)))
  go_ret2
  exact ⟨_, Sh.eR, Sh.rl HO719.out, Sh.bw⟩
 ·replace c4 := Bool.eq_false_iff.mpr c4
  subst c4
  rw [Sh.nf] at H
  simp only [Option.some.injEq, Prod.mk.injEq] at H
  obtain ⟨rfl, rfl⟩ := H
  go_enter Try.func29, Try.ntmps29
  go_wp2_with (first | ((with_reducible refine Sh.k 40 ?_); refine Sh.gL (some 7) Try.func40 #[.slice A0 l0.length c0] (h := ?_); (with_reducible refine (impl_GoodSaid.calls k _ _ l0 false _ ?side1 ?side2 A3.out).mono ?_); (case side1 => repeat (first | exact HR0.out | (with_reducible first | refine Kd.C_alloc ?_ _ | refine Kd.C_drewN ?_ _ | refine Kd.C_drew ?_))); (case side2 => exact HC0.out); rintro e w11 ⟨rfl, hb⟩; refine ⟨_, rfl, ?_⟩; replace HB := Sh.hb hb; (try clear hb); (try clear hb2); (try clear hk); (try clear hi)))
  go_ret2
  exact ⟨_, Sh.eR, by first | exact Kd.R_nil _ _ _ _ _ | exact Kd.N_nil _ _ _ _ _ | exact Kd.V_nil _ _ _ _ _ | exact Kd.Q_nil _ _ _ _ _ | exact Kd.S_nil _ _ _ _ _, Sh.bw⟩

end Go.Proofs.Ytaacldndbjmekaa.P
