/- Go functions of this seat as Lean functions, and the proofs that the calls come to what these say; printed by a program of this session. No condition. -/
import Derived.Test.YtaacldndbjmekaaP0
namespace Go.Proofs.Ytaacldndbjmekaa.P
open Go.RowKit Go.Proofs.YtaacldndbjmekaaW.PrintWords Go.Proofs.YtaacldndbjmekaaW.PrintLast Go.Proofs.YtaacldndbjmekaaW.PrintMore Go.Proofs.Ytaacldndbjmekaa.Hof
attribute [local go_sem] max2_int min2_int max_two min_two max_three min_three max_four min_four   -- for this text's walks alone
set_option linter.unusedVariables false
set_option linter.unusedSimpArgs false

/-! ### laws_toSaid: function 39 -/
def laws_toSaid.f (a0_0 : Int) (a0_1 : Int) : Option (Int × Int) := some (a0_0, a0_1)
set_option maxHeartbeats 8000000 in
set_option maxRecDepth 100000 in
theorem laws_toSaid.calls (a0_0 : Int) (a0_1 : Int) (r1 : Int) (r2 : Int) (w : World) (h : laws_toSaid.f a0_0 a0_1 = some (r1, r2)) :
  Calls Try.prog 39 #[.agg #[.int .i64 a0_0, .int .i64 a0_1]] w fun e w' => e = .returned (.agg #[.int .i64 r1, .int .i64 r2]) ∧ Below w.heap.size w w' := by
 have hu62 := Try.underlying62
 have hu59 := Try.underlying59
 have HB := am_ (Below.refl w.heap.size w)
 have H := h
 clear h
 unfold laws_toSaid.f at H
 simp only [Option.some.injEq, Prod.mk.injEq] at H
 obtain ⟨rfl, rfl⟩ := H
 go_enter Try.func39, Try.ntmps39
 go_wp2_with (first | ((with_reducible refine Sh.d 1 ?_); refine Sh.bz w (N := 1) (cs := #[.int .i64 a0_0, .int .i64 a0_1]) (t := 62) (h := ?_); clear HB; intro gb157 w2 BK157 GE157 HB) | ((with_reducible refine Sh.d 2 ?_); refine Sh.bx (N := 2) (cs := #[.int .i64 0, .int .i64 0]) (t := 59) (h := ?_); intro gb158 hg w3 hbox hb; have BK158 := am_ hbox; have GE158 := Sh.ag w hg; replace HB := Sh.hb hb; have NB157_158 := am_ (Sh.nl hg BK157.out); have NB158_157 := am_ (Sh.ng hg BK157.out); replace BK157 := Sh.ab BK157 hb; clear hb hbox hg) | ((with_reducible refine Sh.d 3 ?_); refine Sh.bx (N := 3) (cs := #[.int .i64 0, .int .i64 0]) (t := 59) (h := ?_); intro gb159 hg w4 hbox hb; have BK159 := am_ hbox; have GE159 := Sh.ag w hg; replace HB := Sh.hb hb; have NB157_159 := am_ (Sh.nl hg BK157.out); have NB159_157 := am_ (Sh.ng hg BK157.out); replace BK157 := Sh.ab BK157 hb; have NB158_159 := am_ (Sh.nl hg BK158.out); have NB159_158 := am_ (Sh.ng hg BK158.out); replace BK158 := Sh.ab BK158 hb; clear hb hbox hg; have hnb5 := NB157_158.out; have hnc5 := NB158_157.out; have hnb6 := NB157_159.out; have hnc6 := NB159_157.out; obtain ⟨hcz7_0, hcz7_1, hfz7_0, hfz7_1⟩ := Sh.b2 BK157.out; have hnb8 := NB159_158.out; have hnc8 := NB158_159.out; obtain ⟨hcz9_0, hcz9_1, hfz9_0, hfz9_1⟩ := Sh.b2 BK159.out; obtain ⟨hcz10_0, hcz10_1, hfz10_0, hfz10_1⟩ := Sh.b2 BK158.out))
 refine bodyPost_ret (results_cell_row rfl _ _ gb158 59 #[.int .i64 a0_0, .int .i64 a0_1] (0, 0) _ rfl (by refine Sh.pl ?_; refine blk_put (cs := #[.int .i64 a0_0, .int .i64 0]) ?_ 1 _ rfl; refine Sh.pl ?_; refine blk_put (cs := #[.int .i64 0, .int .i64 0]) ?_ 0 _ rfl; refine Sh.pl ?_; refine blk_far ?_ NB158_159.out _; refine Sh.pl ?_; refine blk_far ?_ NB158_159.out _; refine Sh.pl ?_; exact BK158.out) Try.underlying59 rfl (by kernel_rfl)) rfl ?_
 exact ⟨Sh.eR, Sh.bw⟩

end Go.Proofs.Ytaacldndbjmekaa.P
