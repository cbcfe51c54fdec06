/- Go functions of this seat as Lean functions, and the proofs that the calls come to what these say; printed by a program of this session. No condition. -/
import Derived.Test.YtaacldndbjmekaaP0
namespace Go.Proofs.Ytaacldndbjmekaa.P
open Go.RowKit Go.Proofs.YtaacldndbjmekaaW.PrintWords Go.Proofs.YtaacldndbjmekaaW.PrintLast Go.Proofs.YtaacldndbjmekaaW.PrintMore Go.Proofs.Ytaacldndbjmekaa.Hof
attribute [local go_sem] max2_int min2_int max_two min_two max_three min_three max_four min_four   -- for this text's walks alone
set_option linter.unusedVariables false
set_option linter.unusedSimpArgs false

/-! ### impl_Said_107: function 107, of nil -/
def impl_Said_107.f (n : Int) : Option (List (S59)) := if 0 ≤ n then (if n.toNat < 8796093022208 then some [] else none) else none
set_option maxHeartbeats 8000000 in
set_option maxRecDepth 100000 in
theorem impl_Said_107.calls (a1 : Int) (r : List (S59)) (w : World) (h : impl_Said_107.f a1 = some r) :
  Calls Try.prog 107 #[.slice none 0 0, .int .i64 a1] w fun e w' => ∃ v0_ : Value, e = .returned (v0_) ∧ Kd.R k59 59 w' w.heap.size (fun _ => True) v0_ r ∧ Below w.heap.size w w' := by
 have h0 : 0 ≤ a1 := by
  rcases Int.lt_or_le a1 0 with h1 | h1
  ·rw [impl_Said_107.f, if_neg (by omega)] at h; cases h
  ·exact h1
 have hlim : a1.toNat < 8796093022208 := by
  rcases Nat.lt_or_ge a1.toNat 8796093022208 with h1 | h1
  ·exact h1
  ·rw [impl_Said_107.f, if_pos h0, if_neg (by omega)] at h; cases h
 rw [impl_Said_107.f, if_pos h0, if_pos hlim] at h
 obtain rfl := Option.some.inj h
 clear h
 have n0 : ¬ (a1 < 0) := by omega
 have ew : wrap64 a1 = a1 := by unfold wrap64; omega
 by_cases hp : a1 > 0
 ·have HB := am_ (Below.refl w.heap.size w)
  have LM := am_ hlim
  clear hlim n0
  obtain ⟨i0, hi0, _, hsz, _⟩ := info_parts info59
  have hcut := cut_to (P := Try.prog) 27 59 .i64 Try.underlying27 hi0 none 0 0 0 (by omega) (by omega) (by omega)
  clear hsz
  have HI := am_ hi0
  clear hi0
  go_enter Try.func107, Try.ntmps107
  go_wp2_with (first | (at_builtin; refine Kd.R_append_zeros k59 (w0 := w) w.heap.size rfl (.tmp 20) (.tmp 21) 27 3 59 (.agg #[(.int .i64 0), (.int .i64 0)]) 16 rfl Try.underlying27 Try.underlying3 info59 rfl (by decide) (by omega) (.slice none 0 0) [] z59 (wrap64 a1) (fun _ => True) rfl rfl (k59_mkM _ _ _ z59) ?aF ?aO (by rw [ew]; exact h0) ?aB ?aS ?aL ?_; (case aF => exact (fun _ _ => trivial)); (case aO => exact (Kd.R_nil _ _ _ _ _)); (case aB => exact HB.out); (case aS => exact Nat.le_refl _); (case aL => have := LM.out; rw [ew]; simp only [List.length_nil]; omega); intro v1 w1 ho hb hg hat; clear hg hat HB; obtain ⟨A1, c1, e1⟩ := Kd.R_slice ho; subst e1; have hcut2 := cut_to (P := Try.prog) 27 59 .i64 Try.underlying27 HI.out A1 _ c1 0 (by omega) (by omega) (Kd.R_reads' ho).2.1; have HO := am_ (Kd.R_take (m := 0) ho (Nat.zero_le _)); clear ho; have HB := am_ hb; clear hb))
  go_ret
  exact ⟨_, rfl, HO.out, HB.out⟩
 ·have ha : a1 = 0 := by omega
  subst ha
  go_enter Try.func107, Try.ntmps107
  go_wp2
  go_ret
  exact ⟨_, rfl, Kd.R_nil _ _ _ _ _, Below.refl _ _⟩

end Go.Proofs.Ytaacldndbjmekaa.P
