/- Go functions of this seat as Lean functions, and the proofs that the calls come to what these say; printed by a program of this session. No condition. -/
import Derived.Test.YtdaodonjikaalaaP0
namespace Go.Proofs.Ytdaodonjikaalaa.P
open Go.RowKit Go.Proofs.YtdaodonjikaalaaW.PrintWords Go.Proofs.YtdaodonjikaalaaW.PrintLast Go.Proofs.YtdaodonjikaalaaW.PrintMore Go.Proofs.Ytdaodonjikaalaa.Hof
attribute [local go_sem] max2_int min2_int max_two min_two max_three min_three max_four min_four   -- for this text's walks alone
set_option linter.unusedVariables false
set_option linter.unusedSimpArgs false

/-! ### slices_Grow_int_int: function 116, of nil -/
def slices_Grow_int_int.f (n : Int) : Option (List (Int)) := if 0 ≤ n then (if n.toNat < 17592186044416 then some [] else none) else none
set_option maxHeartbeats 8000000 in
set_option maxRecDepth 100000 in
theorem slices_Grow_int_int.calls (a1 : Int) (r : List (Int)) (w : World) (h : slices_Grow_int_int.f a1 = some r) :
    Calls Try.prog 116 #[.slice none 0 0, .int .i64 a1] w fun e w' => ∃ v0_ : Value, e = .returned (v0_) ∧ Kd.R (Kd.int .i64) 3 w' w.heap.size (fun _ => True) v0_ r ∧ Below w.heap.size w w' := by
  have h0 : 0 ≤ a1 := by
    rcases Int.lt_or_le a1 0 with h1 | h1
    · rw [slices_Grow_int_int.f, if_neg (by omega)] at h; cases h
    · exact h1
  have hlim : a1.toNat < 17592186044416 := by
    rcases Nat.lt_or_ge a1.toNat 17592186044416 with h1 | h1
    · exact h1
    · rw [slices_Grow_int_int.f, if_pos h0, if_neg (by omega)] at h; cases h
  rw [slices_Grow_int_int.f, if_pos h0, if_pos hlim] at h
  obtain rfl := Option.some.inj h
  clear h
  have n0 : ¬ (a1 < 0) := by omega
  have ew : wrap64 a1 = a1 := by unfold wrap64; omega
  by_cases hp : a1 > 0
  · have HB := Aside0.mk (Below.refl w.heap.size w)
    have LM := Aside0.mk hlim
    clear hlim n0
    obtain ⟨i0, hi0, _, hsz, _⟩ := info_parts info3
    have hcut := cut_to (P := Try.prog) 22 3 .i64 Try.underlying22 hi0 none 0 0 0 (by omega) (by omega) (by omega)
    clear hsz
    have HI := Aside0.mk hi0
    clear hi0
    go_enter Try.func116, Try.ntmps116
    go_wp2_with (first | (at_builtin; refine Kd.R_append_zeros (Kd.int .i64) (w0 := w) w.heap.size rfl (.tmp 20) (.tmp 21) 22 3 3 (.int .i64 0) 8 rfl Try.underlying22 Try.underlying3 info3 rfl (by decide) (by omega) (.slice none 0 0) [] 0 (wrap64 a1) (fun _ => True) rfl rfl rfl ?aF ?aO (by rw [ew]; exact h0) ?aB ?aS ?aL ?_; (case aF => exact (fun _ _ => trivial)); (case aO => exact (Kd.R_nil _ _ _ _ _)); (case aB => exact HB.out); (case aS => exact Nat.le_refl _); (case aL => have := LM.out; rw [ew]; simp only [List.length_nil]; omega); intro v1 w1 ho hb hg hat; clear hg hat HB; obtain ⟨A1, c1, e1⟩ := Kd.R_slice ho; subst e1; have hcut2 := cut_to (P := Try.prog) 22 3 .i64 Try.underlying22 HI.out A1 _ c1 0 (by omega) (by omega) (Kd.R_reads' ho).2.1; have HO := Aside0.mk (Kd.R_take (m := 0) ho (Nat.zero_le _)); clear ho; have HB := Aside0.mk hb; clear hb))
    go_ret
    exact ⟨_, rfl, HO.out, HB.out⟩
  · have ha : a1 = 0 := by omega
    subst ha
    go_enter Try.func116, Try.ntmps116
    go_wp2
    go_ret
    exact ⟨_, rfl, Kd.R_nil _ _ _ _ _, Below.refl _ _⟩

end Go.Proofs.Ytdaodonjikaalaa.P
