/- Go functions of this seat as Lean functions, and the proofs that the calls come to what these say; printed by a program of this session. No condition. -/
import Derived.Test.YtaacldndbjmekaaP0
namespace Go.Proofs.Ytaacldndbjmekaa.P
open Go.RowKit Go.Proofs.YtaacldndbjmekaaW.PrintWords Go.Proofs.YtaacldndbjmekaaW.PrintLast Go.Proofs.YtaacldndbjmekaaW.PrintMore Go.Proofs.Ytaacldndbjmekaa.Hof
attribute [local go_sem] max2_int min2_int max_two min_two max_three min_three max_four min_four   -- for this text's walks alone
set_option linter.unusedVariables false
set_option linter.unusedSimpArgs false

/-! ### laws_eqSaid: function 42 -/
def laws_eqSaid.f (a0_0 : Int) (a0_1 : Int) (a1_0 : Int) (a1_1 : Int) : Option (Bool) := if a0_0 = a1_0 then (if a0_1 = a1_1 then (some true) else (some false)) else (some false)
set_option maxHeartbeats 8000000 in
set_option maxRecDepth 100000 in
theorem laws_eqSaid.calls (a0_0 : Int) (a0_1 : Int) (a1_0 : Int) (a1_1 : Int) (r : Bool) (w : World) (h : laws_eqSaid.f a0_0 a0_1 a1_0 a1_1 = some r) :
  Calls Try.prog 42 #[.agg #[.int .i64 a0_0, .int .i64 a0_1], .agg #[.int .i64 a1_0, .int .i64 a1_1]] w fun e w' => e = .returned (.bool r) ∧ Below w.heap.size w w' := by
 have hu59 := Try.underlying59
 have HB := am_ (Below.refl w.heap.size w)
 have H := h
 clear h
 unfold laws_eqSaid.f at H
 by_cases c3 : a0_0 = a1_0
 ·rw [if_pos c3] at H
  have c3b0 : (a0_0 == a1_0) = true := beq_iff_eq.mpr c3
  have c3b1 : (a0_0 != a1_0) = false := bne_eq_false_iff_eq.mpr c3
  clear c3
  by_cases c4 : a0_1 = a1_1
  ·rw [if_pos c4] at H
   have c4b0 : (a0_1 == a1_1) = true := beq_iff_eq.mpr c4
   have c4b1 : (a0_1 != a1_1) = false := bne_eq_false_iff_eq.mpr c4
   clear c4
   obtain rfl := Option.some.inj H
   go_enter Try.func42, Try.ntmps42
   go_wp2_with (first | ((with_reducible refine Sh.d 2 ?_); refine Sh.bz w (N := 2) (cs := #[.int .i64 a0_0, .int .i64 a0_1]) (t := 59) (h := ?_); clear HB; intro gb313 w5 BK313 GE313 HB) | ((with_reducible refine Sh.d 3 ?_); refine Sh.bx (N := 3) (cs := #[.int .i64 a1_0, .int .i64 a1_1]) (t := 59) (h := ?_); intro gb314 hg w6 hbox hb; have BK314 := am_ hbox; have GE314 := Sh.ag w hg; replace HB := Sh.hb hb; have NB313_314 := am_ (Sh.nl hg BK313.out); have NB314_313 := am_ (Sh.ng hg BK313.out); replace BK313 := Sh.ab BK313 hb; clear hb hbox hg; have hnb7 := NB313_314.out; have hnc7 := NB314_313.out; obtain ⟨hcz8_0, hcz8_1, hfz8_0, hfz8_1⟩ := Sh.b2 BK313.out; obtain ⟨hcz9_0, hcz9_1, hfz9_0, hfz9_1⟩ := Sh.b2 BK314.out))
   go_ret
   exact ⟨Sh.eR, Sh.bw⟩
  ·rw [if_neg c4] at H
   have c4b0 : (a0_1 == a1_1) = false := beq_eq_false_iff_ne.mpr c4
   have c4b1 : (a0_1 != a1_1) = true := bne_iff_ne.mpr c4
   obtain rfl := Option.some.inj H
   go_enter Try.func42, Try.ntmps42
   go_wp2_with (first | ((with_reducible refine Sh.d 2 ?_); refine Sh.bz w (N := 2) (cs := #[.int .i64 a0_0, .int .i64 a0_1]) (t := 59) (h := ?_); clear HB; intro gb313 w10 BK313 GE313 HB) | ((with_reducible refine Sh.d 3 ?_); refine Sh.bx (N := 3) (cs := #[.int .i64 a1_0, .int .i64 a1_1]) (t := 59) (h := ?_); intro gb314 hg w11 hbox hb; have BK314 := am_ hbox; have GE314 := Sh.ag w hg; replace HB := Sh.hb hb; have NB313_314 := am_ (Sh.nl hg BK313.out); have NB314_313 := am_ (Sh.ng hg BK313.out); replace BK313 := Sh.ab BK313 hb; clear hb hbox hg; have hnb12 := NB313_314.out; have hnc12 := NB314_313.out; obtain ⟨hcz13_0, hcz13_1, hfz13_0, hfz13_1⟩ := Sh.b2 BK313.out; obtain ⟨hcz14_0, hcz14_1, hfz14_0, hfz14_1⟩ := Sh.b2 BK314.out))
   go_ret
   exact ⟨Sh.eR, Sh.bw⟩
 ·rw [if_neg c3] at H
  have c3b0 : (a0_0 == a1_0) = false := beq_eq_false_iff_ne.mpr c3
  have c3b1 : (a0_0 != a1_0) = true := bne_iff_ne.mpr c3
  obtain rfl := Option.some.inj H
  go_enter Try.func42, Try.ntmps42
  go_wp2_with (first | ((with_reducible refine Sh.d 2 ?_); refine Sh.bz w (N := 2) (cs := #[.int .i64 a0_0, .int .i64 a0_1]) (t := 59) (h := ?_); clear HB; intro gb313 w15 BK313 GE313 HB) | ((with_reducible refine Sh.d 3 ?_); refine Sh.bx (N := 3) (cs := #[.int .i64 a1_0, .int .i64 a1_1]) (t := 59) (h := ?_); intro gb314 hg w16 hbox hb; have BK314 := am_ hbox; have GE314 := Sh.ag w hg; replace HB := Sh.hb hb; have NB313_314 := am_ (Sh.nl hg BK313.out); have NB314_313 := am_ (Sh.ng hg BK313.out); replace BK313 := Sh.ab BK313 hb; clear hb hbox hg; have hnb17 := NB313_314.out; have hnc17 := NB314_313.out; obtain ⟨hcz18_0, hcz18_1, hfz18_0, hfz18_1⟩ := Sh.b2 BK313.out; obtain ⟨hcz19_0, hcz19_1, hfz19_0, hfz19_1⟩ := Sh.b2 BK314.out))
  go_ret
  exact ⟨Sh.eR, Sh.bw⟩

end Go.Proofs.Ytaacldndbjmekaa.P
