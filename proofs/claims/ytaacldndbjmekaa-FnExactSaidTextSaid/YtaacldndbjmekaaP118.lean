/- Go functions of this seat as Lean functions, and the proofs that the calls come to what these say; printed by a program of this session. No condition. -/
import Derived.Test.YtaacldndbjmekaaP0
import Derived.Test.YtaacldndbjmekaaP5
import Derived.Test.YtaacldndbjmekaaP117
namespace Go.Proofs.Ytaacldndbjmekaa.P
open Go.RowKit Go.Proofs.YtaacldndbjmekaaW.PrintWords Go.Proofs.YtaacldndbjmekaaW.PrintLast Go.Proofs.YtaacldndbjmekaaW.PrintMore Go.Proofs.Ytaacldndbjmekaa.Hof
attribute [local go_sem] max2_int min2_int max_two min_two max_three min_three max_four min_four   -- for this text's walks alone
set_option linter.unusedVariables false
set_option linter.unusedSimpArgs false

/-! ### spec_SaidText: function 31 -/
def spec_SaidText.f (k : Nat) (l0 : List (S59)) : Option (ByteArray × Bool) := (spec_GoodSaid.f k l0).bind fun t900 => (if t900 = true then ((spec_l10Text.f k l0 (wrap64 ((l0.length : Int) - 1))).bind fun t901 => (some (t901, true))) else (some ((⟨#[]⟩ : ByteArray), false)))
theorem spec_SaidText.mono : ∀ a0 k, LeO (spec_SaidText.f k a0) (spec_SaidText.f (k + 1) a0) := by
 intro a0 k
 unfold spec_SaidText.f
 repeat' with_reducible first | apply spec_GoodSaid.mono | apply spec_l10Text.mono | exact LeO.refl _ | exact LeO.none _ | apply LeO.ite | refine LeO.bind ?_ fun _ => ?_
set_option maxHeartbeats 8000000 in
set_option maxRecDepth 100000 in
theorem spec_SaidText.calls (k : Nat) (A0 : Option Addr) (c0 : Nat) (l0 : List (S59)) (r1 : ByteArray) (r2 : Bool) (w : World) (hr0 : Kd.C k59 w A0 l0.length l0) (hc0 : l0.length ≤ c0) (h : spec_SaidText.f k l0 = some (r1, r2)) :
  Calls Try.prog 31 #[.slice A0 l0.length c0] w fun e w' => e = .returned (.tuple #[.string r1, .bool r2]) ∧ Below w.heap.size w w' := by
 have HR0 := am_ hr0
 have HC0 := am_ hc0
 clear hr0 hc0
 have HB := am_ (Below.refl w.heap.size w)
 have H := h
 clear h
 unfold spec_SaidText.f at H
 obtain ⟨t900, A2, H⟩ := Sh.ba H
 by_cases c3 : t900 = true
 ·subst c3
  rw [if_pos rfl] at H
  obtain ⟨t901, A4, H⟩ := Sh.ba H
  simp only [Option.some.injEq, Prod.mk.injEq] at H
  obtain ⟨rfl, rfl⟩ := H
  go_enter Try.func31, Try.ntmps31
  go_wp2_with (first | ((with_reducible refine Sh.k 37 ?_); refine Sh.gL (some 5) Try.func37 #[.slice A0 l0.length c0] (h := ?_); (with_reducible refine (spec_GoodSaid.calls k _ _ l0 true _ ?side1 ?side2 A2.out).mono ?_); (case side1 => repeat (first | exact HR0.out | (with_reducible first | refine Kd.C_alloc ?_ _ | refine Kd.C_drewN ?_ _ | refine Kd.C_drew ?_))); (case side2 => exact HC0.out); rintro e w5 ⟨rfl, hb⟩; refine ⟨_, rfl, ?_⟩; replace HB := Sh.hb hb; (try clear hb); (try clear hb2); (try clear hk); (try clear hi)) | ((with_reducible refine Sh.k 64 ?_); refine Sh.gB (some 11) Try.func64 #[.slice A0 l0.length c0, .int .i64 (wrap64 ((l0.length : Int) - 1))] (spec_l10Text.calls k _ _ l0 (wrap64 ((l0.length : Int) - 1)) t901 _ (Sh.cB HR0.out) HC0.out A4.out) fun w6 hb => ?_; replace HB := Sh.hb hb; (try clear hb); (try clear hb2); (try clear hk); (try clear hi)))
  go_ret2
  exact ⟨Sh.eR, Sh.bw⟩
 ·replace c3 := Bool.eq_false_iff.mpr c3
  subst c3
  rw [Sh.nf] at H
  simp only [Option.some.injEq, Prod.mk.injEq] at H
  obtain ⟨rfl, rfl⟩ := H
  go_enter Try.func31, Try.ntmps31
  go_wp2_with (first | ((with_reducible refine Sh.k 37 ?_); refine Sh.gL (some 5) Try.func37 #[.slice A0 l0.length c0] (h := ?_); (with_reducible refine (spec_GoodSaid.calls k _ _ l0 false _ ?side1 ?side2 A2.out).mono ?_); (case side1 => repeat (first | exact HR0.out | (with_reducible first | refine Kd.C_alloc ?_ _ | refine Kd.C_drewN ?_ _ | refine Kd.C_drew ?_))); (case side2 => exact HC0.out); rintro e w7 ⟨rfl, hb⟩; refine ⟨_, rfl, ?_⟩; replace HB := Sh.hb hb; (try clear hb); (try clear hb2); (try clear hk); (try clear hi)))
  go_ret2
  exact ⟨Sh.eR, Sh.bw⟩

end Go.Proofs.Ytaacldndbjmekaa.P
