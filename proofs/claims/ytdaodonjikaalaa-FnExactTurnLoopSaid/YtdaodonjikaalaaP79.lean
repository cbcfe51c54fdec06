/- Go functions of this seat as Lean functions, and the proofs that the calls come to what these say; printed by a program of this session. No condition. -/
import Derived.Test.YtdaodonjikaalaaP0
import Derived.Test.YtdaodonjikaalaaP17
import Derived.Test.YtdaodonjikaalaaP20
import Derived.Test.YtdaodonjikaalaaP27
import Derived.Test.YtdaodonjikaalaaP70
import Derived.Test.YtdaodonjikaalaaP72
import Derived.Test.YtdaodonjikaalaaP76
import Derived.Test.YtdaodonjikaalaaP78
namespace Go.Proofs.Ytdaodonjikaalaa.P
open Go.RowKit Go.Proofs.YtdaodonjikaalaaW.PrintWords Go.Proofs.YtdaodonjikaalaaW.PrintLast Go.Proofs.YtdaodonjikaalaaW.PrintMore Go.Proofs.Ytdaodonjikaalaa.Hof
attribute [local go_sem] max2_int min2_int max_two min_two max_three min_three max_four min_four   -- for this text's walks alone
set_option linter.unusedVariables false
set_option linter.unusedSimpArgs false

/-! ### laws_FnExactTurnLoop: function 14 -/
mutual
def laws_FnExactTurnLoop.j0 : Nat → Bool → Bool → Bool → List Int → List Int → List Int → List Int → List Int → List Int → List Int → List Int → Option (Bool)
 | 0, _, _, _, _, _, _, _, _, _, _, _ => none
 | k + 1, x5, x8, x40, x568000, x568001, x583000, x583001, x590000, x590001, x598000, x598001 => if x40 = true then (some false) else ((laws_toLasso.f k x568000 x568001).bind fun bt599 => ((laws_eqLasso.f k x590000 x590001 bt599.1 bt599.2).bind fun t605 => (if t605 = true then ((laws_markLasso.f k x590000 x590001 1).bind fun bt606 => (if bt606.1 < 0 then (laws_FnExactTurnLoop.j1 k x5 true x568000 x568001 x583000 x583001 x598000 x598001) else ((laws_eqLasso.f k x598000 x598001 x583000 x583001).bind fun t609 => (if t609 = true then (laws_FnExactTurnLoop.j1 k x5 (x8 != x5) x568000 x568001 x583000 x583001 x598000 x598001) else (laws_FnExactTurnLoop.j1 k x5 true x568000 x568001 x583000 x583001 x598000 x598001))))) else (some false))))
def laws_FnExactTurnLoop.j1 : Nat → Bool → Bool → List Int → List Int → List Int → List Int → List Int → List Int → Option (Bool)
 | 0, _, _, _, _, _, _, _, _ => none
 | k + 1, x5, x61, x568000, x568001, x583000, x583001, x598000, x598001 => if x61 = true then (some false) else ((laws_markLasso.f k x598000 x598001 1).bind fun bt610 => ((laws_heldLasso.f k bt610.2.1 bt610.2.2 1).bind fun t613 => (if t613 < 0 then (some false) else (if t613 = bt610.1 then ((laws_toLasso.f k x568000 x568001).bind fun bt614 => ((impl_TurnLoop.f k bt614.1 bt614.2).bind fun bt620 => ((laws_eqLasso.f k bt620.1 bt620.2.1 x583000 x583001).bind fun t628 => (if t628 = true then (laws_FnExactTurnLoop.j2 k bt610.1 (bt620.2.2 != x5) bt610.2.1 bt610.2.2) else (laws_FnExactTurnLoop.j2 k bt610.1 true bt610.2.1 bt610.2.2))))) else (some false)))))
def laws_FnExactTurnLoop.j2 : Nat → Int → Bool → List Int → List Int → Option (Bool)
 | 0, _, _, _, _ => none
 | k + 1, x10, x87, x598000, x598001 => if x87 = true then (some false) else ((laws_heldLasso.f k x598000 x598001 1).bind fun t629 => (if t629 < 0 then (some false) else (if t629 = x10 then (some true) else (some false))))
end
def laws_FnExactTurnLoop.f (k : Nat) (l0_0 : List Int) (l0_1 : List Int) : Option (Bool) := (laws_szLasso.f l0_0 l0_1 1048576).bind fun t568 => (if t568 < 0 then (some true) else ((laws_toLasso.f k l0_0 l0_1).bind fun bt569 => ((spec_TurnLoop.f k bt569.1 bt569.2).bind fun bt575 => ((laws_toLasso.f k l0_0 l0_1).bind fun bt583 => ((impl_TurnLoop.f k bt583.1 bt583.2).bind fun bt590 => ((laws_eqLasso.f k bt590.1 bt590.2.1 bt575.1 bt575.2.1).bind fun t598 => (if t598 = true then (laws_FnExactTurnLoop.j0 k bt575.2.2 bt590.2.2 (bt590.2.2 != bt575.2.2) l0_0 l0_1 bt575.1 bt575.2.1 bt583.1 bt583.2 bt590.1 bt590.2.1) else (laws_FnExactTurnLoop.j0 k bt575.2.2 bt590.2.2 true l0_0 l0_1 bt575.1 bt575.2.1 bt583.1 bt583.2 bt590.1 bt590.2.1))))))))
theorem laws_FnExactTurnLoop.mono_l : ∀ k, (∀ y0 y1 y2 y3 y4 y5 y6 y7 y8 y9 y10, LeO (laws_FnExactTurnLoop.j0 k y0 y1 y2 y3 y4 y5 y6 y7 y8 y9 y10) (laws_FnExactTurnLoop.j0 (k + 1) y0 y1 y2 y3 y4 y5 y6 y7 y8 y9 y10)) ∧ (∀ y0 y1 y2 y3 y4 y5 y6 y7, LeO (laws_FnExactTurnLoop.j1 k y0 y1 y2 y3 y4 y5 y6 y7) (laws_FnExactTurnLoop.j1 (k + 1) y0 y1 y2 y3 y4 y5 y6 y7)) ∧ (∀ y0 y1 y2 y3, LeO (laws_FnExactTurnLoop.j2 k y0 y1 y2 y3) (laws_FnExactTurnLoop.j2 (k + 1) y0 y1 y2 y3))
 | 0 => ⟨fun _ _ _ _ _ _ _ _ _ _ _ r h => by simp [laws_FnExactTurnLoop.j0] at h, fun _ _ _ _ _ _ _ _ r h => by simp [laws_FnExactTurnLoop.j1] at h, fun _ _ _ _ r h => by simp [laws_FnExactTurnLoop.j2] at h⟩
 | k + 1 => by
  obtain ⟨ih0, ih1, ih2⟩ := laws_FnExactTurnLoop.mono_l k
  refine ⟨?_, ?_, ?_⟩
  ·intro y0 y1 y2 y3 y4 y5 y6 y7 y8 y9 y10
   unfold laws_FnExactTurnLoop.j0
   repeat' first
   | (with_reducible exact ih0 _ _ _ _ _ _ _ _ _ _ _)
   | (with_reducible exact ih1 _ _ _ _ _ _ _ _)
   | (with_reducible exact ih2 _ _ _ _)
   | (with_reducible exact impl_TurnLoop.mono _ _ _)
   | (with_reducible exact laws_eqLasso.mono _ _ _ _ _)
   | (with_reducible exact laws_heldLasso.mono _ _ _ _)
   | (with_reducible exact laws_markLasso.mono _ _ _ _)
   | (with_reducible exact laws_toLasso.mono _ _ _)
   | (with_reducible exact spec_TurnLoop.mono _ _ _)
   | (with_reducible exact LeO.refl _)
   | (with_reducible exact LeO.none _)
   | (with_reducible refine LeO.ite ?_ ?_)
   | (with_reducible refine LeO.bind ?_ (fun _ => ?_))
   | exact ih0 _ _ _ _ _ _ _ _ _ _ _
   | exact ih1 _ _ _ _ _ _ _ _
   | exact ih2 _ _ _ _
   | exact impl_TurnLoop.mono _ _ _
   | exact laws_eqLasso.mono _ _ _ _ _
   | exact laws_heldLasso.mono _ _ _ _
   | exact laws_markLasso.mono _ _ _ _
   | exact laws_toLasso.mono _ _ _
   | exact spec_TurnLoop.mono _ _ _
   | exact LeO.none _
   | refine LeO.ite ?_ ?_
   | refine LeO.bind ?_ (fun _ => ?_)
  ·intro y0 y1 y2 y3 y4 y5 y6 y7
   unfold laws_FnExactTurnLoop.j1
   repeat' first
   | (with_reducible exact ih0 _ _ _ _ _ _ _ _ _ _ _)
   | (with_reducible exact ih1 _ _ _ _ _ _ _ _)
   | (with_reducible exact ih2 _ _ _ _)
   | (with_reducible exact impl_TurnLoop.mono _ _ _)
   | (with_reducible exact laws_eqLasso.mono _ _ _ _ _)
   | (with_reducible exact laws_heldLasso.mono _ _ _ _)
   | (with_reducible exact laws_markLasso.mono _ _ _ _)
   | (with_reducible exact laws_toLasso.mono _ _ _)
   | (with_reducible exact spec_TurnLoop.mono _ _ _)
   | (with_reducible exact LeO.refl _)
   | (with_reducible exact LeO.none _)
   | (with_reducible refine LeO.ite ?_ ?_)
   | (with_reducible refine LeO.bind ?_ (fun _ => ?_))
   | exact ih0 _ _ _ _ _ _ _ _ _ _ _
   | exact ih1 _ _ _ _ _ _ _ _
   | exact ih2 _ _ _ _
   | exact impl_TurnLoop.mono _ _ _
   | exact laws_eqLasso.mono _ _ _ _ _
   | exact laws_heldLasso.mono _ _ _ _
   | exact laws_markLasso.mono _ _ _ _
   | exact laws_toLasso.mono _ _ _
   | exact spec_TurnLoop.mono _ _ _
   | exact LeO.none _
   | refine LeO.ite ?_ ?_
   | refine LeO.bind ?_ (fun _ => ?_)
  ·intro y0 y1 y2 y3
   unfold laws_FnExactTurnLoop.j2
   repeat' first
   | (with_reducible exact ih0 _ _ _ _ _ _ _ _ _ _ _)
   | (with_reducible exact ih1 _ _ _ _ _ _ _ _)
   | (with_reducible exact ih2 _ _ _ _)
   | (with_reducible exact impl_TurnLoop.mono _ _ _)
   | (with_reducible exact laws_eqLasso.mono _ _ _ _ _)
   | (with_reducible exact laws_heldLasso.mono _ _ _ _)
   | (with_reducible exact laws_markLasso.mono _ _ _ _)
   | (with_reducible exact laws_toLasso.mono _ _ _)
   | (with_reducible exact spec_TurnLoop.mono _ _ _)
   | (with_reducible exact LeO.refl _)
   | (with_reducible exact LeO.none _)
   | (with_reducible refine LeO.ite ?_ ?_)
   | (with_reducible refine LeO.bind ?_ (fun _ => ?_))
   | exact ih0 _ _ _ _ _ _ _ _ _ _ _
   | exact ih1 _ _ _ _ _ _ _ _
   | exact ih2 _ _ _ _
   | exact impl_TurnLoop.mono _ _ _
   | exact laws_eqLasso.mono _ _ _ _ _
   | exact laws_heldLasso.mono _ _ _ _
   | exact laws_markLasso.mono _ _ _ _
   | exact laws_toLasso.mono _ _ _
   | exact spec_TurnLoop.mono _ _ _
   | exact LeO.none _
   | refine LeO.ite ?_ ?_
   | refine LeO.bind ?_ (fun _ => ?_)
theorem laws_FnExactTurnLoop.mono : ∀ a0 a1 k, LeO (laws_FnExactTurnLoop.f k a0 a1) (laws_FnExactTurnLoop.f (k + 1) a0 a1) := by
 intro a0 a1 k
 obtain ⟨ih0, ih1, ih2⟩ := laws_FnExactTurnLoop.mono_l k
 unfold laws_FnExactTurnLoop.f
 repeat' first
   | (with_reducible exact ih0 _ _ _ _ _ _ _ _ _ _ _)
   | (with_reducible exact ih1 _ _ _ _ _ _ _ _)
   | (with_reducible exact ih2 _ _ _ _)
   | (with_reducible exact impl_TurnLoop.mono _ _ _)
   | (with_reducible exact laws_eqLasso.mono _ _ _ _ _)
   | (with_reducible exact laws_heldLasso.mono _ _ _ _)
   | (with_reducible exact laws_markLasso.mono _ _ _ _)
   | (with_reducible exact laws_toLasso.mono _ _ _)
   | (with_reducible exact spec_TurnLoop.mono _ _ _)
   | (with_reducible exact LeO.refl _)
   | (with_reducible exact LeO.none _)
   | (with_reducible refine LeO.ite ?_ ?_)
   | (with_reducible refine LeO.bind ?_ (fun _ => ?_))
   | exact ih0 _ _ _ _ _ _ _ _ _ _ _
   | exact ih1 _ _ _ _ _ _ _ _
   | exact ih2 _ _ _ _
   | exact impl_TurnLoop.mono _ _ _
   | exact laws_eqLasso.mono _ _ _ _ _
   | exact laws_heldLasso.mono _ _ _ _
   | exact laws_markLasso.mono _ _ _ _
   | exact laws_toLasso.mono _ _ _
   | exact spec_TurnLoop.mono _ _ _
   | exact LeO.none _
   | refine LeO.ite ?_ ?_
   | refine LeO.bind ?_ (fun _ => ?_)
set_option maxHeartbeats 8000000 in
set_option maxRecDepth 100000 in
theorem laws_FnExactTurnLoop.calls (k : Nat) (A0_0 : Option Addr) (c0_0 : Nat) (l0_0 : List Int) (A0_1 : Option Addr) (c0_1 : Nat) (l0_1 : List Int) (r : Bool) (w : World) (hr0_0 : Kd.C (Kd.int .i64) w A0_0 l0_0.length l0_0) (hc0_0 : l0_0.length ≤ c0_0) (hr0_1 : Kd.C (Kd.int .i64) w A0_1 l0_1.length l0_1) (hc0_1 : l0_1.length ≤ c0_1) (h : laws_FnExactTurnLoop.f k l0_0 l0_1 = some r) :
  Calls Try.prog 14 #[.agg #[.slice A0_0 l0_0.length c0_0, .slice A0_1 l0_1.length c0_1]] w fun e w' => e = .returned (.bool r) ∧ Below w.heap.size w w' := by
 have hu24 := Try.underlying24
 have hu27 := Try.underlying27
 have HR0_0 := am_ hr0_0
 have HC0_0 := am_ hc0_0
 clear hr0_0 hc0_0
 have HR0_1 := am_ hr0_1
 have HC0_1 := am_ hc0_1
 clear hr0_1 hc0_1
 have HB := am_ (Below.refl w.heap.size w)
 have H : ((laws_szLasso.f l0_0 l0_1 1048576).bind fun t568 => (if t568 < 0 then (some true) else ((laws_toLasso.f k l0_0 l0_1).bind fun bt569 => ((spec_TurnLoop.f k bt569.1 bt569.2).bind fun bt575 => ((laws_toLasso.f k l0_0 l0_1).bind fun bt583 => ((impl_TurnLoop.f k bt583.1 bt583.2).bind fun bt590 => ((laws_eqLasso.f k bt590.1 bt590.2.1 bt575.1 bt575.2.1).bind fun t598 => (if t598 = true then (laws_FnExactTurnLoop.j0 k bt575.2.2 bt590.2.2 (bt590.2.2 != bt575.2.2) l0_0 l0_1 bt575.1 bt575.2.1 bt583.1 bt583.2 bt590.1 bt590.2.1) else (laws_FnExactTurnLoop.j0 k bt575.2.2 bt590.2.2 true l0_0 l0_1 bt575.1 bt575.2.1 bt583.1 bt583.2 bt590.1 bt590.2.1))))))))) = some r := h
 clear h
 replace H := Option.bind_eq_some_iff.mp H
 obtain ⟨t568, A20, H⟩ := H
 replace H : (if t568 < 0 then (some true) else ((laws_toLasso.f k l0_0 l0_1).bind fun bt569 => ((spec_TurnLoop.f k bt569.1 bt569.2).bind fun bt575 => ((laws_toLasso.f k l0_0 l0_1).bind fun bt583 => ((impl_TurnLoop.f k bt583.1 bt583.2).bind fun bt590 => ((laws_eqLasso.f k bt590.1 bt590.2.1 bt575.1 bt575.2.1).bind fun t598 => (if t598 = true then (laws_FnExactTurnLoop.j0 k bt575.2.2 bt590.2.2 (bt590.2.2 != bt575.2.2) l0_0 l0_1 bt575.1 bt575.2.1 bt583.1 bt583.2 bt590.1 bt590.2.1) else (laws_FnExactTurnLoop.j0 k bt575.2.2 bt590.2.2 true l0_0 l0_1 bt575.1 bt575.2.1 bt583.1 bt583.2 bt590.1 bt590.2.1)))))))) = some r := H
 have A2 := am_ A20
 clear A20
 by_cases c3 : t568 < 0
 ·rw [if_pos c3] at H
  have c3b0 : decide (t568 < 0) = true := decide_eq_true c3
  clear c3
  obtain rfl := Option.some.inj H
  go_enter Try.func14, Try.ntmps14
  go_wp2_with (first | ((with_reducible refine gate_dst (N := 1) rfl ?_); refine box_event ?hg (N := 1) ?hd (cs := #[.slice A0_0 l0_0.length c0_0, .slice A0_1 l0_1.length c0_1]) (t := 24) ?hr ?_; (case hd => rfl); (case hg => rfl); (case hr => first | (go_simp; done) | (go_simp; rfl)); intro gb567 hg w4 hbox hb; have n0_ := am_ (below_step (by repeat (first | (with_reducible first | exact HB.out | apply below_alloc | apply pw_below_drewN | apply below_drew1) | exact HB.out)) hb); have n1_ := am_ (hbox); have n2_ := am_ ((by rw [hg]; exact (below_size (by repeat (first | (with_reducible first | exact HB.out | apply below_alloc | apply pw_below_drewN | apply below_drew1) | exact HB.out))) : w.heap.size ≤ gb567)); have n3_ := am_ ((by rw [hg]; exact (below_size (by repeat (first | (with_reducible first | exact HB.out | apply below_alloc | apply pw_below_drewN | apply below_drew1) | exact HB.out))) : w.heap.size ≤ gb567)); clear HB; have HB := n0_; have BK567 := n1_; have GW567 := n2_; have GE567 := n3_; clear n0_ n1_ n2_ n3_; clear hb hbox hg; have hcz5_0 : w4.cell? ⟨gb567, 0, none⟩ = some (.slice A0_0 l0_0.length c0_0) := (blk_cell BK567.out 0).trans rfl; have hcz5_1 : w4.cell? ⟨gb567, 1, none⟩ = some (.slice A0_1 l0_1.length c0_1) := (blk_cell BK567.out 1).trans rfl; have hfz5_0 := blk_frozen BK567.out 0; have hfz5_1 := blk_frozen BK567.out 1) | ((with_reducible refine gate_callee (f := 15) rfl ?_); refine goesL_ (some 16) rfl rfl Try.func15 (by kernel_rfl) rfl #[.agg #[.slice A0_0 l0_0.length c0_0, .slice A0_1 l0_1.length c0_1], .int .i64 1048576] rfl (by (try simp only [List.map_toArray, List.map_cons, List.map_nil]); first | done | rfl | (simp only [List.length_drop, List.length_take]; rfl)) ?_; (with_reducible refine (laws_szLasso.calls _ _ l0_0 _ _ l0_1 1048576 t568 _ ?side1 ?side2 ?side3 ?side4 A2.out).mono ?_); (case side1 => repeat (first | exact (Kd.C_below HR0_0.out HB.out) | (with_reducible first | refine Kd.C_alloc ?_ _ | refine Kd.C_drewN ?_ _ | refine Kd.C_drew ?_))); (case side2 => exact HC0_0.out); (case side3 => repeat (first | exact (Kd.C_below HR0_1.out HB.out) | (with_reducible first | refine Kd.C_alloc ?_ _ | refine Kd.C_drewN ?_ _ | refine Kd.C_drew ?_))); (case side4 => exact HC0_1.out); rintro e w6 ⟨rfl, hb⟩; refine ⟨_, rfl, ?_⟩; have n0_ := am_ (blk_below (g := gb567) (o := .cells #[.slice A0_0 l0_0.length c0_0, .slice A0_1 l0_1.length c0_1] 24 (0, 0)) (by (with_reducible repeat (first | refine blk_drewN ?_ _ | refine blk_drew ?_ | refine blk_alloc ?_ _)); exact BK567.out) hb); have n1_ := am_ (below_step (by repeat (first | (with_reducible first | exact HB.out | apply below_alloc | apply pw_below_drewN | apply below_drew1 | refine below_set ?_ GE567.out) | exact HB.out)) hb); clear BK567; clear HB; have BK567 := n0_; have HB := n1_; clear n0_ n1_; (try clear hb); (try clear hb2); (try clear hk); (try clear hi)))
  go_ret
  exact ⟨by first | rfl | (simp [errW_none, errW_some] <;> rfl) | (simp [*, errW_none, errW_some] <;> rfl), by repeat (first | (with_reducible first | exact HB.out | apply below_alloc | apply pw_below_drewN | apply below_drew1 | refine below_set ?_ GE567.out) | exact HB.out)⟩
 ·rw [if_neg c3] at H
  have c3b0 : decide (t568 < 0) = false := decide_eq_false c3
  clear c3
  replace H := Option.bind_eq_some_iff.mp H
  obtain ⟨⟨t569, t572⟩, A70, H⟩ := H
  replace H : ((spec_TurnLoop.f k t569 t572).bind fun bt575 => ((laws_toLasso.f k l0_0 l0_1).bind fun bt583 => ((impl_TurnLoop.f k bt583.1 bt583.2).bind fun bt590 => ((laws_eqLasso.f k bt590.1 bt590.2.1 bt575.1 bt575.2.1).bind fun t598 => (if t598 = true then (laws_FnExactTurnLoop.j0 k bt575.2.2 bt590.2.2 (bt590.2.2 != bt575.2.2) l0_0 l0_1 bt575.1 bt575.2.1 bt583.1 bt583.2 bt590.1 bt590.2.1) else (laws_FnExactTurnLoop.j0 k bt575.2.2 bt590.2.2 true l0_0 l0_1 bt575.1 bt575.2.1 bt583.1 bt583.2 bt590.1 bt590.2.1)))))) = some r := H
  have A7 := am_ A70
  clear A70
  replace H := Option.bind_eq_some_iff.mp H
  obtain ⟨⟨t575, t578, t581⟩, A80, H⟩ := H
  replace H : ((laws_toLasso.f k l0_0 l0_1).bind fun bt583 => ((impl_TurnLoop.f k bt583.1 bt583.2).bind fun bt590 => ((laws_eqLasso.f k bt590.1 bt590.2.1 t575 t578).bind fun t598 => (if t598 = true then (laws_FnExactTurnLoop.j0 k t581 bt590.2.2 (bt590.2.2 != t581) l0_0 l0_1 t575 t578 bt583.1 bt583.2 bt590.1 bt590.2.1) else (laws_FnExactTurnLoop.j0 k t581 bt590.2.2 true l0_0 l0_1 t575 t578 bt583.1 bt583.2 bt590.1 bt590.2.1))))) = some r := H
  have A8 := am_ A80
  clear A80
  replace H := Option.bind_eq_some_iff.mp H
  obtain ⟨⟨t583, t586⟩, A90, H⟩ := H
  replace H : ((impl_TurnLoop.f k t583 t586).bind fun bt590 => ((laws_eqLasso.f k bt590.1 bt590.2.1 t575 t578).bind fun t598 => (if t598 = true then (laws_FnExactTurnLoop.j0 k t581 bt590.2.2 (bt590.2.2 != t581) l0_0 l0_1 t575 t578 t583 t586 bt590.1 bt590.2.1) else (laws_FnExactTurnLoop.j0 k t581 bt590.2.2 true l0_0 l0_1 t575 t578 t583 t586 bt590.1 bt590.2.1)))) = some r := H
  have A9 := am_ A90
  clear A90
  replace H := Option.bind_eq_some_iff.mp H
  obtain ⟨⟨t590, t593, t596⟩, A100, H⟩ := H
  replace H : ((laws_eqLasso.f k t590 t593 t575 t578).bind fun t598 => (if t598 = true then (laws_FnExactTurnLoop.j0 k t581 t596 (t596 != t581) l0_0 l0_1 t575 t578 t583 t586 t590 t593) else (laws_FnExactTurnLoop.j0 k t581 t596 true l0_0 l0_1 t575 t578 t583 t586 t590 t593))) = some r := H
  have A10 := am_ A100
  clear A100
  have HC11 := am_ H
  clear H
  go_enter Try.func14, Try.ntmps14
  go_upto_region 8 with (first | ((with_reducible refine gate_dst (N := 1) rfl ?_); refine box_event ?hg (N := 1) ?hd (cs := #[.slice A0_0 l0_0.length c0_0, .slice A0_1 l0_1.length c0_1]) (t := 24) ?hr ?_; (case hd => rfl); (case hg => rfl); (case hr => first | (go_simp; done) | (go_simp; rfl)); intro gb567 hg w12 hbox hb; have n0_ := am_ (below_step (by repeat (first | (with_reducible first | exact HB.out | apply below_alloc | apply pw_below_drewN | apply below_drew1) | exact HB.out)) hb); have n1_ := am_ (hbox); have n2_ := am_ ((by rw [hg]; exact (below_size (by repeat (first | (with_reducible first | exact HB.out | apply below_alloc | apply pw_below_drewN | apply below_drew1) | exact HB.out))) : w.heap.size ≤ gb567)); have n3_ := am_ ((by rw [hg]; exact (below_size (by repeat (first | (with_reducible first | exact HB.out | apply below_alloc | apply pw_below_drewN | apply below_drew1) | exact HB.out))) : w.heap.size ≤ gb567)); clear HB; have HB := n0_; have BK567 := n1_; have GW567 := n2_; have GE567 := n3_; clear n0_ n1_ n2_ n3_; clear hb hbox hg; have hcz13_0 : w12.cell? ⟨gb567, 0, none⟩ = some (.slice A0_0 l0_0.length c0_0) := (blk_cell BK567.out 0).trans rfl; have hcz13_1 : w12.cell? ⟨gb567, 1, none⟩ = some (.slice A0_1 l0_1.length c0_1) := (blk_cell BK567.out 1).trans rfl; have hfz13_0 := blk_frozen BK567.out 0; have hfz13_1 := blk_frozen BK567.out 1) | ((with_reducible refine gate_callee (f := 15) rfl ?_); refine goesL_ (some 16) rfl rfl Try.func15 (by kernel_rfl) rfl #[.agg #[.slice A0_0 l0_0.length c0_0, .slice A0_1 l0_1.length c0_1], .int .i64 1048576] rfl (by (try simp only [List.map_toArray, List.map_cons, List.map_nil]); first | done | rfl | (simp only [List.length_drop, List.length_take]; rfl)) ?_; (with_reducible refine (laws_szLasso.calls _ _ l0_0 _ _ l0_1 1048576 t568 _ ?side1 ?side2 ?side3 ?side4 A2.out).mono ?_); (case side1 => repeat (first | exact (Kd.C_below HR0_0.out HB.out) | (with_reducible first | refine Kd.C_alloc ?_ _ | refine Kd.C_drewN ?_ _ | refine Kd.C_drew ?_))); (case side2 => exact HC0_0.out); (case side3 => repeat (first | exact (Kd.C_below HR0_1.out HB.out) | (with_reducible first | refine Kd.C_alloc ?_ _ | refine Kd.C_drewN ?_ _ | refine Kd.C_drew ?_))); (case side4 => exact HC0_1.out); rintro e w14 ⟨rfl, hb⟩; refine ⟨_, rfl, ?_⟩; have n0_ := am_ (blk_below (g := gb567) (o := .cells #[.slice A0_0 l0_0.length c0_0, .slice A0_1 l0_1.length c0_1] 24 (0, 0)) (by (with_reducible repeat (first | refine blk_drewN ?_ _ | refine blk_drew ?_ | refine blk_alloc ?_ _)); exact BK567.out) hb); have n1_ := am_ (below_step (by repeat (first | (with_reducible first | exact HB.out | apply below_alloc | apply pw_below_drewN | apply below_drew1 | refine below_set ?_ GE567.out) | exact HB.out)) hb); clear BK567; clear HB; have BK567 := n0_; have HB := n1_; clear n0_ n1_; (try clear hb); (try clear hb2); (try clear hk); (try clear hi); have hcz15_0 : w14.cell? ⟨gb567, 0, none⟩ = some (.slice A0_0 l0_0.length c0_0) := (blk_cell BK567.out 0).trans rfl; have hcz15_1 : w14.cell? ⟨gb567, 1, none⟩ = some (.slice A0_1 l0_1.length c0_1) := (blk_cell BK567.out 1).trans rfl; have hfz15_0 := blk_frozen BK567.out 0; have hfz15_1 := blk_frozen BK567.out 1) | ((with_reducible refine gate_callee (f := 17) rfl ?_); refine goesL_ (some 21) rfl rfl Try.func17 (by kernel_rfl) rfl #[.agg #[.slice A0_0 l0_0.length c0_0, .slice A0_1 l0_1.length c0_1]] rfl (by (try simp only [List.map_toArray, List.map_cons, List.map_nil]); first | done | rfl | (simp only [List.length_drop, List.length_take]; rfl)) ?_; (with_reducible refine (laws_toLasso.calls k _ _ l0_0 _ _ l0_1 t569 t572 _ ?side1 ?side2 ?side3 ?side4 A7.out).mono ?_); (case side1 => repeat (first | exact (Kd.C_below HR0_0.out HB.out) | (with_reducible first | refine Kd.C_alloc ?_ _ | refine Kd.C_drewN ?_ _ | refine Kd.C_drew ?_))); (case side2 => exact HC0_0.out); (case side3 => repeat (first | exact (Kd.C_below HR0_1.out HB.out) | (with_reducible first | refine Kd.C_alloc ?_ _ | refine Kd.C_drewN ?_ _ | refine Kd.C_drew ?_))); (case side4 => exact HC0_1.out); rintro e w16 ⟨v570, v573, rfl, ho0, ho1, hb⟩; refine ⟨_, rfl, ?_⟩; have n0_ := am_ (Kd.R_lower ho0 (below_size (by repeat (first | (with_reducible first | exact HB.out | apply below_alloc | apply pw_below_drewN | apply below_drew1 | refine below_set ?_ GE567.out) | exact HB.out)))); have n1_ := am_ (Kd.R_lower ho1 (below_size (by repeat (first | (with_reducible first | exact HB.out | apply below_alloc | apply pw_below_drewN | apply below_drew1 | refine below_set ?_ GE567.out) | exact HB.out)))); have n2_ := am_ (blk_below (g := gb567) (o := .cells #[.slice A0_0 l0_0.length c0_0, .slice A0_1 l0_1.length c0_1] 24 (0, 0)) (by (with_reducible repeat (first | refine blk_drewN ?_ _ | refine blk_drew ?_ | refine blk_alloc ?_ _)); exact BK567.out) hb); have n3_ := am_ (below_step (by repeat (first | (with_reducible first | exact HB.out | apply below_alloc | apply pw_below_drewN | apply below_drew1 | refine below_set ?_ GE567.out) | exact HB.out)) hb); clear BK567; clear HB; have HO571 := n0_; have HO574 := n1_; have BK567 := n2_; have HB := n3_; clear n0_ n1_ n2_ n3_; (try clear hb); (try clear hb2); (try clear hk); (try clear hi); (try clear ho0); (try clear ho1); obtain ⟨Ao17, co17, eo17⟩ := Kd.R_slice HO571.out; subst eo17; obtain ⟨Ao18, co18, eo18⟩ := Kd.R_slice HO574.out; subst eo18) | ((with_reducible refine gate_callee (f := 63) rfl ?_); refine goesL_ (some 22) rfl rfl Try.func63 (by kernel_rfl) rfl #[.agg #[.slice Ao17 t569.length co17, .slice Ao18 t572.length co18]] rfl (by (try simp only [List.map_toArray, List.map_cons, List.map_nil]); first | done | rfl | (simp only [List.length_drop, List.length_take]; rfl)) ?_; (with_reducible refine (spec_TurnLoop.calls k _ _ t569 _ _ t572 t575 t578 t581 _ ?side1 ?side2 ?side3 ?side4 A8.out).mono ?_); (case side1 => repeat (first | exact (Kd.R_reads' HO571.out).2.2 | (with_reducible first | refine Kd.C_alloc ?_ _ | refine Kd.C_drewN ?_ _ | refine Kd.C_drew ?_))); (case side2 => exact (Kd.R_reads' HO571.out).2.1); (case side3 => repeat (first | exact (Kd.R_reads' HO574.out).2.2 | (with_reducible first | refine Kd.C_alloc ?_ _ | refine Kd.C_drewN ?_ _ | refine Kd.C_drew ?_))); (case side4 => exact (Kd.R_reads' HO574.out).2.1); rintro e w19 ⟨v576, v579, rfl, ho0, ho1, hb⟩; refine ⟨_, rfl, ?_⟩; have n0_ := am_ (Kd.R_mono (Kd.R_told (Kd.R_told (Kd.R_old (by (with_reducible repeat (first | apply Kd.R_alloc | apply Kd.R_drewN | apply Kd.R_drew)); exact HO571.out) hb) (Kd.R_base ho0)) (Kd.R_base ho1)) (fun _ h_ => h_.1)); have n1_ := am_ (Kd.R_mono (Kd.R_told (Kd.R_told (Kd.R_old (by (with_reducible repeat (first | apply Kd.R_alloc | apply Kd.R_drewN | apply Kd.R_drew)); exact HO574.out) hb) (Kd.R_base ho0)) (Kd.R_base ho1)) (fun _ h_ => h_.1)); have n2_ := am_ (Kd.R_lower (Kd.R_new' (Kd.R_new' ho0 (Kd.R_lt (by (with_reducible repeat (first | apply Kd.R_alloc | apply Kd.R_drewN | apply Kd.R_drew)); exact HO571.out))) (Kd.R_lt (by (with_reducible repeat (first | apply Kd.R_alloc | apply Kd.R_drewN | apply Kd.R_drew)); exact HO574.out))) (below_size (by repeat (first | (with_reducible first | exact HB.out | apply below_alloc | apply pw_below_drewN | apply below_drew1 | refine below_set ?_ GE567.out) | exact HB.out)))); have n3_ := am_ (Kd.R_lower (Kd.R_new' (Kd.R_new' ho1 (Kd.R_lt (by (with_reducible repeat (first | apply Kd.R_alloc | apply Kd.R_drewN | apply Kd.R_drew)); exact HO571.out))) (Kd.R_lt (by (with_reducible repeat (first | apply Kd.R_alloc | apply Kd.R_drewN | apply Kd.R_drew)); exact HO574.out))) (below_size (by repeat (first | (with_reducible first | exact HB.out | apply below_alloc | apply pw_below_drewN | apply below_drew1 | refine below_set ?_ GE567.out) | exact HB.out)))); have n4_ := am_ (blk_below (g := gb567) (o := .cells #[.slice A0_0 l0_0.length c0_0, .slice A0_1 l0_1.length c0_1] 24 (0, 0)) (by (with_reducible repeat (first | refine blk_drewN ?_ _ | refine blk_drew ?_ | refine blk_alloc ?_ _)); exact BK567.out) hb); have n5_ := am_ (below_step (by repeat (first | (with_reducible first | exact HB.out | apply below_alloc | apply pw_below_drewN | apply below_drew1 | refine below_set ?_ GE567.out) | exact HB.out)) hb); clear HO571; clear HO574; clear BK567; clear HB; have HO571 := n0_; have HO574 := n1_; have HO577 := n2_; have HO580 := n3_; have BK567 := n4_; have HB := n5_; clear n0_ n1_ n2_ n3_ n4_ n5_; (try clear hb); (try clear hb2); (try clear hk); (try clear hi); (try clear ho0); (try clear ho1)) | ((with_reducible refine gate_dst (N := 4) rfl ?_); refine box_event ?hg (N := 4) ?hd (cs := #[.slice none 0 0, .slice none 0 0]) (t := 27) ?hr ?_; (case hd => rfl); (case hg => rfl); (case hr => first | (go_simp; done) | (go_simp; rfl)); intro gb582 hg w20 hbox hb; have n0_ := am_ (Kd.R_below (by (with_reducible repeat (first | apply Kd.R_alloc | apply Kd.R_drewN | apply Kd.R_drew)); exact HO571.out) hb); have n1_ := am_ (Kd.R_below (by (with_reducible repeat (first | apply Kd.R_alloc | apply Kd.R_drewN | apply Kd.R_drew)); exact HO574.out) hb); have n2_ := am_ (Kd.R_below (by (with_reducible repeat (first | apply Kd.R_alloc | apply Kd.R_drewN | apply Kd.R_drew)); exact HO577.out) hb); have n3_ := am_ (Kd.R_below (by (with_reducible repeat (first | apply Kd.R_alloc | apply Kd.R_drewN | apply Kd.R_drew)); exact HO580.out) hb); have n4_ := am_ (blk_below (g := gb567) (o := .cells #[.slice A0_0 l0_0.length c0_0, .slice A0_1 l0_1.length c0_1] 24 (0, 0)) (by (with_reducible repeat (first | refine blk_drewN ?_ _ | refine blk_drew ?_ | refine blk_alloc ?_ _)); exact BK567.out) hb); have n5_ := am_ (below_step (by repeat (first | (with_reducible first | exact HB.out | apply below_alloc | apply pw_below_drewN | apply below_drew1 | refine below_set ?_ GE567.out) | exact HB.out)) hb); have n6_ := am_ (hbox); have n7_ := am_ ((by rw [hg]; exact (below_size (by repeat (first | (with_reducible first | exact HB.out | apply below_alloc | apply pw_below_drewN | apply below_drew1 | refine below_set ?_ GE567.out) | exact HB.out))) : w.heap.size ≤ gb582)); have n8_ := am_ ((by rw [hg]; exact (below_size (by repeat (first | (with_reducible first | exact HB.out | apply below_alloc | apply pw_below_drewN | apply below_drew1 | refine below_set ?_ GE567.out) | exact HB.out))) : w.heap.size ≤ gb582)); have n9_ := am_ ((by rw [hg]; exact Nat.ne_of_lt (blk_lt (g := gb567) (o := .cells #[.slice A0_0 l0_0.length c0_0, .slice A0_1 l0_1.length c0_1] 24 (0, 0)) (by (with_reducible repeat (first | refine blk_drewN ?_ _ | refine blk_drew ?_ | refine blk_alloc ?_ _)); exact BK567.out)) : gb567 ≠ gb582)); have n10_ := am_ ((by rw [hg]; exact Nat.ne_of_gt (blk_lt (g := gb567) (o := .cells #[.slice A0_0 l0_0.length c0_0, .slice A0_1 l0_1.length c0_1] 24 (0, 0)) (by (with_reducible repeat (first | refine blk_drewN ?_ _ | refine blk_drew ?_ | refine blk_alloc ?_ _)); exact BK567.out)) : gb582 ≠ gb567)); clear HO571; clear HO574; clear HO577; clear HO580; clear BK567; clear HB; have HO571 := n0_; have HO574 := n1_; have HO577 := n2_; have HO580 := n3_; have BK567 := n4_; have HB := n5_; have BK582 := n6_; have GW582 := n7_; have GE582 := n8_; have NB567_582 := n9_; have NB582_567 := n10_; clear n0_ n1_ n2_ n3_ n4_ n5_ n6_ n7_ n8_ n9_ n10_; clear hb hbox hg; obtain ⟨Ao21, co21, eo21⟩ := Kd.R_slice HO577.out; subst eo21; have hnb22 := NB582_567.out; have hnc22 := NB567_582.out; have hcz23_0 : w20.cell? ⟨gb582, 0, none⟩ = some (.slice none 0 0) := (blk_cell BK582.out 0).trans rfl; have hcz23_1 : w20.cell? ⟨gb582, 1, none⟩ = some (.slice none 0 0) := (blk_cell BK582.out 1).trans rfl; have hfz23_0 := blk_frozen BK582.out 0; have hfz23_1 := blk_frozen BK582.out 1; obtain ⟨Ao24, co24, eo24⟩ := Kd.R_slice HO580.out; subst eo24; have hcz25_0 : w20.cell? ⟨gb567, 0, none⟩ = some (.slice A0_0 l0_0.length c0_0) := (blk_cell BK567.out 0).trans rfl; have hcz25_1 : w20.cell? ⟨gb567, 1, none⟩ = some (.slice A0_1 l0_1.length c0_1) := (blk_cell BK567.out 1).trans rfl; have hfz25_0 := blk_frozen BK567.out 0; have hfz25_1 := blk_frozen BK567.out 1) | ((with_reducible refine gate_callee (f := 17) rfl ?_); refine goesL_ (some 26) rfl rfl Try.func17 (by kernel_rfl) rfl #[.agg #[.slice A0_0 l0_0.length c0_0, .slice A0_1 l0_1.length c0_1]] rfl (by (try simp only [List.map_toArray, List.map_cons, List.map_nil]); first | done | rfl | (simp only [List.length_drop, List.length_take]; rfl)) ?_; (with_reducible refine (laws_toLasso.calls k _ _ l0_0 _ _ l0_1 t583 t586 _ ?side1 ?side2 ?side3 ?side4 A9.out).mono ?_); (case side1 => exact Kd.C_below HR0_0.out (by repeat (first | (with_reducible first | exact HB.out | apply below_alloc | apply pw_below_drewN | apply below_drew1 | refine below_set ?_ GE567.out | refine below_set ?_ GE582.out) | exact HB.out))); (case side2 => exact HC0_0.out); (case side3 => exact Kd.C_below HR0_1.out (by repeat (first | (with_reducible first | exact HB.out | apply below_alloc | apply pw_below_drewN | apply below_drew1 | refine below_set ?_ GE567.out | refine below_set ?_ GE582.out) | exact HB.out))); (case side4 => exact HC0_1.out); rintro e w26 ⟨v584, v587, rfl, ho0, ho1, hb⟩; refine ⟨_, rfl, ?_⟩; have n0_ := am_ (Kd.R_mono (Kd.R_told (Kd.R_told (Kd.R_old (by (with_reducible repeat (first | apply Kd.R_alloc | apply Kd.R_drewN | apply Kd.R_drew)); exact (Kd.R_mono (Kd.R_far (p := ⟨gb582, 1, none⟩) (Kd.R_far (p := ⟨gb582, 0, none⟩) (Kd.R_types HO571.out BK582.out (by decide)) (fun _ hk => hk.2) (.slice Ao21 t575.length co21)) (fun _ hk => hk.2) (.slice Ao24 t578.length co24)) (fun _ h_ => h_.1))) hb) (Kd.R_base ho0)) (Kd.R_base ho1)) (fun _ h_ => h_.1)); have n1_ := am_ (Kd.R_mono (Kd.R_told (Kd.R_told (Kd.R_old (by (with_reducible repeat (first | apply Kd.R_alloc | apply Kd.R_drewN | apply Kd.R_drew)); exact (Kd.R_mono (Kd.R_far (p := ⟨gb582, 1, none⟩) (Kd.R_far (p := ⟨gb582, 0, none⟩) (Kd.R_types HO574.out BK582.out (by decide)) (fun _ hk => hk.2) (.slice Ao21 t575.length co21)) (fun _ hk => hk.2) (.slice Ao24 t578.length co24)) (fun _ h_ => h_.1))) hb) (Kd.R_base ho0)) (Kd.R_base ho1)) (fun _ h_ => h_.1)); have n2_ := am_ (Kd.R_mono (Kd.R_told (Kd.R_told (Kd.R_old (by (with_reducible repeat (first | apply Kd.R_alloc | apply Kd.R_drewN | apply Kd.R_drew)); exact (Kd.R_mono (Kd.R_far (p := ⟨gb582, 1, none⟩) (Kd.R_far (p := ⟨gb582, 0, none⟩) (Kd.R_types HO577.out BK582.out (by decide)) (fun _ hk => hk.2) (.slice Ao21 t575.length co21)) (fun _ hk => hk.2) (.slice Ao24 t578.length co24)) (fun _ h_ => h_.1))) hb) (Kd.R_base ho0)) (Kd.R_base ho1)) (fun _ h_ => h_.1)); have n3_ := am_ (Kd.R_mono (Kd.R_told (Kd.R_told (Kd.R_old (by (with_reducible repeat (first | apply Kd.R_alloc | apply Kd.R_drewN | apply Kd.R_drew)); exact (Kd.R_mono (Kd.R_far (p := ⟨gb582, 1, none⟩) (Kd.R_far (p := ⟨gb582, 0, none⟩) (Kd.R_types HO580.out BK582.out (by decide)) (fun _ hk => hk.2) (.slice Ao21 t575.length co21)) (fun _ hk => hk.2) (.slice Ao24 t578.length co24)) (fun _ h_ => h_.1))) hb) (Kd.R_base ho0)) (Kd.R_base ho1)) (fun _ h_ => h_.1)); have n4_ := am_ (Kd.R_lower (Kd.R_new' (Kd.R_new' (Kd.R_new' (Kd.R_new' ho0 (Kd.R_lt (by (with_reducible repeat (first | apply Kd.R_alloc | apply Kd.R_drewN | apply Kd.R_drew)); exact (Kd.R_mono (Kd.R_far (p := ⟨gb582, 1, none⟩) (Kd.R_far (p := ⟨gb582, 0, none⟩) (Kd.R_types HO571.out BK582.out (by decide)) (fun _ hk => hk.2) (.slice Ao21 t575.length co21)) (fun _ hk => hk.2) (.slice Ao24 t578.length co24)) (fun _ h_ => h_.1))))) (Kd.R_lt (by (with_reducible repeat (first | apply Kd.R_alloc | apply Kd.R_drewN | apply Kd.R_drew)); exact (Kd.R_mono (Kd.R_far (p := ⟨gb582, 1, none⟩) (Kd.R_far (p := ⟨gb582, 0, none⟩) (Kd.R_types HO574.out BK582.out (by decide)) (fun _ hk => hk.2) (.slice Ao21 t575.length co21)) (fun _ hk => hk.2) (.slice Ao24 t578.length co24)) (fun _ h_ => h_.1))))) (Kd.R_lt (by (with_reducible repeat (first | apply Kd.R_alloc | apply Kd.R_drewN | apply Kd.R_drew)); exact (Kd.R_mono (Kd.R_far (p := ⟨gb582, 1, none⟩) (Kd.R_far (p := ⟨gb582, 0, none⟩) (Kd.R_types HO577.out BK582.out (by decide)) (fun _ hk => hk.2) (.slice Ao21 t575.length co21)) (fun _ hk => hk.2) (.slice Ao24 t578.length co24)) (fun _ h_ => h_.1))))) (Kd.R_lt (by (with_reducible repeat (first | apply Kd.R_alloc | apply Kd.R_drewN | apply Kd.R_drew)); exact (Kd.R_mono (Kd.R_far (p := ⟨gb582, 1, none⟩) (Kd.R_far (p := ⟨gb582, 0, none⟩) (Kd.R_types HO580.out BK582.out (by decide)) (fun _ hk => hk.2) (.slice Ao21 t575.length co21)) (fun _ hk => hk.2) (.slice Ao24 t578.length co24)) (fun _ h_ => h_.1))))) (below_size (by repeat (first | (with_reducible first | exact HB.out | apply below_alloc | apply pw_below_drewN | apply below_drew1 | refine below_set ?_ GE567.out | refine below_set ?_ GE582.out) | exact HB.out)))); have n5_ := am_ (Kd.R_lower (Kd.R_new' (Kd.R_new' (Kd.R_new' (Kd.R_new' ho1 (Kd.R_lt (by (with_reducible repeat (first | apply Kd.R_alloc | apply Kd.R_drewN | apply Kd.R_drew)); exact (Kd.R_mono (Kd.R_far (p := ⟨gb582, 1, none⟩) (Kd.R_far (p := ⟨gb582, 0, none⟩) (Kd.R_types HO571.out BK582.out (by decide)) (fun _ hk => hk.2) (.slice Ao21 t575.length co21)) (fun _ hk => hk.2) (.slice Ao24 t578.length co24)) (fun _ h_ => h_.1))))) (Kd.R_lt (by (with_reducible repeat (first | apply Kd.R_alloc | apply Kd.R_drewN | apply Kd.R_drew)); exact (Kd.R_mono (Kd.R_far (p := ⟨gb582, 1, none⟩) (Kd.R_far (p := ⟨gb582, 0, none⟩) (Kd.R_types HO574.out BK582.out (by decide)) (fun _ hk => hk.2) (.slice Ao21 t575.length co21)) (fun _ hk => hk.2) (.slice Ao24 t578.length co24)) (fun _ h_ => h_.1))))) (Kd.R_lt (by (with_reducible repeat (first | apply Kd.R_alloc | apply Kd.R_drewN | apply Kd.R_drew)); exact (Kd.R_mono (Kd.R_far (p := ⟨gb582, 1, none⟩) (Kd.R_far (p := ⟨gb582, 0, none⟩) (Kd.R_types HO577.out BK582.out (by decide)) (fun _ hk => hk.2) (.slice Ao21 t575.length co21)) (fun _ hk => hk.2) (.slice Ao24 t578.length co24)) (fun _ h_ => h_.1))))) (Kd.R_lt (by (with_reducible repeat (first | apply Kd.R_alloc | apply Kd.R_drewN | apply Kd.R_drew)); exact (Kd.R_mono (Kd.R_far (p := ⟨gb582, 1, none⟩) (Kd.R_far (p := ⟨gb582, 0, none⟩) (Kd.R_types HO580.out BK582.out (by decide)) (fun _ hk => hk.2) (.slice Ao21 t575.length co21)) (fun _ hk => hk.2) (.slice Ao24 t578.length co24)) (fun _ h_ => h_.1))))) (below_size (by repeat (first | (with_reducible first | exact HB.out | apply below_alloc | apply pw_below_drewN | apply below_drew1 | refine below_set ?_ GE567.out | refine below_set ?_ GE582.out) | exact HB.out)))); have n6_ := am_ (blk_below (g := gb567) (o := .cells #[.slice A0_0 l0_0.length c0_0, .slice A0_1 l0_1.length c0_1] 24 (0, 0)) (by (with_reducible repeat (first | refine blk_drewN ?_ _ | refine blk_drew ?_ | refine blk_alloc ?_ _)); refine blk_far ?_ NB567_582.out _; (with_reducible repeat (first | refine blk_drewN ?_ _ | refine blk_drew ?_ | refine blk_alloc ?_ _)); refine blk_far ?_ NB567_582.out _; (with_reducible repeat (first | refine blk_drewN ?_ _ | refine blk_drew ?_ | refine blk_alloc ?_ _)); exact BK567.out) hb); have n7_ := am_ (blk_below (g := gb582) (o := .cells #[.slice Ao21 t575.length co21, .slice Ao24 t578.length co24] 27 (0, 0)) (by (with_reducible repeat (first | refine blk_drewN ?_ _ | refine blk_drew ?_ | refine blk_alloc ?_ _)); refine blk_put (cs := #[.slice Ao21 t575.length co21, .slice none 0 0]) ?_ 1 _ rfl; (with_reducible repeat (first | refine blk_drewN ?_ _ | refine blk_drew ?_ | refine blk_alloc ?_ _)); refine blk_put (cs := #[.slice none 0 0, .slice none 0 0]) ?_ 0 _ rfl; (with_reducible repeat (first | refine blk_drewN ?_ _ | refine blk_drew ?_ | refine blk_alloc ?_ _)); exact BK582.out) hb); have n8_ := am_ (below_step (by repeat (first | (with_reducible first | exact HB.out | apply below_alloc | apply pw_below_drewN | apply below_drew1 | refine below_set ?_ GE567.out | refine below_set ?_ GE582.out) | exact HB.out)) hb); clear HO571; clear HO574; clear HO577; clear HO580; clear BK567; clear BK582; clear HB; have HO571 := n0_; have HO574 := n1_; have HO577 := n2_; have HO580 := n3_; have HO585 := n4_; have HO588 := n5_; have BK567 := n6_; have BK582 := n7_; have HB := n8_; clear n0_ n1_ n2_ n3_ n4_ n5_ n6_ n7_ n8_; (try clear hb); (try clear hb2); (try clear hk); (try clear hi); (try clear ho0); (try clear ho1)) | ((with_reducible refine gate_dst (N := 6) rfl ?_); refine box_event ?hg (N := 6) ?hd (cs := #[.slice none 0 0, .slice none 0 0]) (t := 27) ?hr ?_; (case hd => rfl); (case hg => rfl); (case hr => first | (go_simp; done) | (go_simp; rfl)); intro gb589 hg w27 hbox hb; have n0_ := am_ (Kd.R_below (by (with_reducible repeat (first | apply Kd.R_alloc | apply Kd.R_drewN | apply Kd.R_drew)); exact HO571.out) hb); have n1_ := am_ (Kd.R_below (by (with_reducible repeat (first | apply Kd.R_alloc | apply Kd.R_drewN | apply Kd.R_drew)); exact HO574.out) hb); have n2_ := am_ (Kd.R_below (by (with_reducible repeat (first | apply Kd.R_alloc | apply Kd.R_drewN | apply Kd.R_drew)); exact HO577.out) hb); have n3_ := am_ (Kd.R_below (by (with_reducible repeat (first | apply Kd.R_alloc | apply Kd.R_drewN | apply Kd.R_drew)); exact HO580.out) hb); have n4_ := am_ (Kd.R_below (by (with_reducible repeat (first | apply Kd.R_alloc | apply Kd.R_drewN | apply Kd.R_drew)); exact HO585.out) hb); have n5_ := am_ (Kd.R_below (by (with_reducible repeat (first | apply Kd.R_alloc | apply Kd.R_drewN | apply Kd.R_drew)); exact HO588.out) hb); have n6_ := am_ (blk_below (g := gb567) (o := .cells #[.slice A0_0 l0_0.length c0_0, .slice A0_1 l0_1.length c0_1] 24 (0, 0)) (by (with_reducible repeat (first | refine blk_drewN ?_ _ | refine blk_drew ?_ | refine blk_alloc ?_ _)); exact BK567.out) hb); have n7_ := am_ (blk_below (g := gb582) (o := .cells #[.slice Ao21 t575.length co21, .slice Ao24 t578.length co24] 27 (0, 0)) (by (with_reducible repeat (first | refine blk_drewN ?_ _ | refine blk_drew ?_ | refine blk_alloc ?_ _)); exact BK582.out) hb); have n8_ := am_ (below_step (by repeat (first | (with_reducible first | exact HB.out | apply below_alloc | apply pw_below_drewN | apply below_drew1 | refine below_set ?_ GE567.out | refine below_set ?_ GE582.out) | exact HB.out)) hb); have n9_ := am_ (hbox); have n10_ := am_ ((by rw [hg]; exact (below_size (by repeat (first | (with_reducible first | exact HB.out | apply below_alloc | apply pw_below_drewN | apply below_drew1 | refine below_set ?_ GE567.out | refine below_set ?_ GE582.out) | exact HB.out))) : w.heap.size ≤ gb589)); have n11_ := am_ ((by rw [hg]; exact (below_size (by repeat (first | (with_reducible first | exact HB.out | apply below_alloc | apply pw_below_drewN | apply below_drew1 | refine below_set ?_ GE567.out | refine below_set ?_ GE582.out) | exact HB.out))) : w.heap.size ≤ gb589)); have n12_ := am_ ((by rw [hg]; exact Nat.ne_of_lt (blk_lt (g := gb567) (o := .cells #[.slice A0_0 l0_0.length c0_0, .slice A0_1 l0_1.length c0_1] 24 (0, 0)) (by (with_reducible repeat (first | refine blk_drewN ?_ _ | refine blk_drew ?_ | refine blk_alloc ?_ _)); exact BK567.out)) : gb567 ≠ gb589)); have n13_ := am_ ((by rw [hg]; exact Nat.ne_of_gt (blk_lt (g := gb567) (o := .cells #[.slice A0_0 l0_0.length c0_0, .slice A0_1 l0_1.length c0_1] 24 (0, 0)) (by (with_reducible repeat (first | refine blk_drewN ?_ _ | refine blk_drew ?_ | refine blk_alloc ?_ _)); exact BK567.out)) : gb589 ≠ gb567)); have n14_ := am_ ((by rw [hg]; exact Nat.ne_of_lt (blk_lt (g := gb582) (o := .cells #[.slice Ao21 t575.length co21, .slice Ao24 t578.length co24] 27 (0, 0)) (by (with_reducible repeat (first | refine blk_drewN ?_ _ | refine blk_drew ?_ | refine blk_alloc ?_ _)); exact BK582.out)) : gb582 ≠ gb589)); have n15_ := am_ ((by rw [hg]; exact Nat.ne_of_gt (blk_lt (g := gb582) (o := .cells #[.slice Ao21 t575.length co21, .slice Ao24 t578.length co24] 27 (0, 0)) (by (with_reducible repeat (first | refine blk_drewN ?_ _ | refine blk_drew ?_ | refine blk_alloc ?_ _)); exact BK582.out)) : gb589 ≠ gb582)); clear HO571; clear HO574; clear HO577; clear HO580; clear HO585; clear HO588; clear BK567; clear BK582; clear HB; have HO571 := n0_; have HO574 := n1_; have HO577 := n2_; have HO580 := n3_; have HO585 := n4_; have HO588 := n5_; have BK567 := n6_; have BK582 := n7_; have HB := n8_; have BK589 := n9_; have GW589 := n10_; have GE589 := n11_; have NB567_589 := n12_; have NB589_567 := n13_; have NB582_589 := n14_; have NB589_582 := n15_; clear n0_ n1_ n2_ n3_ n4_ n5_ n6_ n7_ n8_ n9_ n10_ n11_ n12_ n13_ n14_ n15_; clear hb hbox hg; obtain ⟨Ao28, co28, eo28⟩ := Kd.R_slice HO585.out; subst eo28; have hnb29 := NB589_567.out; have hnc29 := NB567_589.out; have hnb30 := NB589_582.out; have hnc30 := NB582_589.out; have hcz31_0 : w27.cell? ⟨gb589, 0, none⟩ = some (.slice none 0 0) := (blk_cell BK589.out 0).trans rfl; have hcz31_1 : w27.cell? ⟨gb589, 1, none⟩ = some (.slice none 0 0) := (blk_cell BK589.out 1).trans rfl; have hfz31_0 := blk_frozen BK589.out 0; have hfz31_1 := blk_frozen BK589.out 1; obtain ⟨Ao32, co32, eo32⟩ := Kd.R_slice HO588.out; subst eo32) | ((with_reducible refine gate_store (t := 27) (p := 6) rfl ?_); refine store_event (t := 27) (p := 6) (v := ?vo_w33) (w1 := ((w27.setCell ⟨gb589, 0, none⟩ (.slice Ao28 t583.length co28)).setCell ⟨gb589, 1, none⟩ (.slice Ao32 t586.length co32))) ?hg ?ho ?hn ?hr ?_; (case ho => rfl); (case hg => rfl); (case hn => rfl); (case hr => first | (go_simp; done) | (go_simp; rfl)); intro w33 hw; have n0_ : Aside0 (Kd.R (Kd.int .i64) 3 w33 w.heap.size (fun k_ => some k_ ≠ (.slice Ao18 t572.length co18 : Value).ownBlock ∧ some k_ ≠ (.slice Ao21 t575.length co21 : Value).ownBlock ∧ some k_ ≠ (.slice Ao24 t578.length co24 : Value).ownBlock ∧ some k_ ≠ (.slice Ao28 t583.length co28 : Value).ownBlock ∧ some k_ ≠ (.slice Ao32 t586.length co32 : Value).ownBlock) (.slice Ao17 t569.length co17) t569) := ⟨(by rw [hw]; exact (by (with_reducible repeat (first | apply Kd.R_alloc | apply Kd.R_drewN | apply Kd.R_drew)); exact Kd.R_mono (Kd.R_far (p := ⟨gb589, 1, none⟩) (Kd.R_far (p := ⟨gb589, 0, none⟩) (Kd.R_types HO571.out BK589.out (by decide)) (fun _ hk => hk.2) (.slice Ao28 t583.length co28)) (fun _ hk => hk.2) (.slice Ao32 t586.length co32)) (fun _ hk => ⟨hk.1.1.1.1.1, hk.1.1.1.1.2, hk.1.1.1.2, hk.1.1.2, hk.1.2⟩)))⟩; have n1_ : Aside0 (Kd.R (Kd.int .i64) 3 w33 w.heap.size (fun k_ => some k_ ≠ (.slice Ao17 t569.length co17 : Value).ownBlock ∧ some k_ ≠ (.slice Ao21 t575.length co21 : Value).ownBlock ∧ some k_ ≠ (.slice Ao24 t578.length co24 : Value).ownBlock ∧ some k_ ≠ (.slice Ao28 t583.length co28 : Value).ownBlock ∧ some k_ ≠ (.slice Ao32 t586.length co32 : Value).ownBlock) (.slice Ao18 t572.length co18) t572) := ⟨(by rw [hw]; exact (by (with_reducible repeat (first | apply Kd.R_alloc | apply Kd.R_drewN | apply Kd.R_drew)); exact Kd.R_mono (Kd.R_far (p := ⟨gb589, 1, none⟩) (Kd.R_far (p := ⟨gb589, 0, none⟩) (Kd.R_types HO574.out BK589.out (by decide)) (fun _ hk => hk.2) (.slice Ao28 t583.length co28)) (fun _ hk => hk.2) (.slice Ao32 t586.length co32)) (fun _ hk => ⟨hk.1.1.1.1.1, hk.1.1.1.1.2, hk.1.1.1.2, hk.1.1.2, hk.1.2⟩)))⟩; have n2_ : Aside0 (Kd.R (Kd.int .i64) 3 w33 w.heap.size (fun k_ => some k_ ≠ (.slice Ao17 t569.length co17 : Value).ownBlock ∧ some k_ ≠ (.slice Ao18 t572.length co18 : Value).ownBlock ∧ some k_ ≠ (.slice Ao24 t578.length co24 : Value).ownBlock ∧ some k_ ≠ (.slice Ao28 t583.length co28 : Value).ownBlock ∧ some k_ ≠ (.slice Ao32 t586.length co32 : Value).ownBlock) (.slice Ao21 t575.length co21) t575) := ⟨(by rw [hw]; exact (by (with_reducible repeat (first | apply Kd.R_alloc | apply Kd.R_drewN | apply Kd.R_drew)); exact Kd.R_mono (Kd.R_far (p := ⟨gb589, 1, none⟩) (Kd.R_far (p := ⟨gb589, 0, none⟩) (Kd.R_types HO577.out BK589.out (by decide)) (fun _ hk => hk.2) (.slice Ao28 t583.length co28)) (fun _ hk => hk.2) (.slice Ao32 t586.length co32)) (fun _ hk => ⟨hk.1.1.1.1.2, hk.1.1.1.2, hk.1.1.1.1.1, hk.1.1.2, hk.1.2⟩)))⟩; have n3_ : Aside0 (Kd.R (Kd.int .i64) 3 w33 w.heap.size (fun k_ => some k_ ≠ (.slice Ao17 t569.length co17 : Value).ownBlock ∧ some k_ ≠ (.slice Ao18 t572.length co18 : Value).ownBlock ∧ some k_ ≠ (.slice Ao21 t575.length co21 : Value).ownBlock ∧ some k_ ≠ (.slice Ao28 t583.length co28 : Value).ownBlock ∧ some k_ ≠ (.slice Ao32 t586.length co32 : Value).ownBlock) (.slice Ao24 t578.length co24) t578) := ⟨(by rw [hw]; exact (by (with_reducible repeat (first | apply Kd.R_alloc | apply Kd.R_drewN | apply Kd.R_drew)); exact Kd.R_mono (Kd.R_far (p := ⟨gb589, 1, none⟩) (Kd.R_far (p := ⟨gb589, 0, none⟩) (Kd.R_types HO580.out BK589.out (by decide)) (fun _ hk => hk.2) (.slice Ao28 t583.length co28)) (fun _ hk => hk.2) (.slice Ao32 t586.length co32)) (fun _ hk => ⟨hk.1.1.1.1.2, hk.1.1.1.2, hk.1.1.1.1.1, hk.1.1.2, hk.1.2⟩)))⟩; have n4_ : Aside0 (Kd.R (Kd.int .i64) 3 w33 w.heap.size (fun k_ => some k_ ≠ (.slice Ao17 t569.length co17 : Value).ownBlock ∧ some k_ ≠ (.slice Ao18 t572.length co18 : Value).ownBlock ∧ some k_ ≠ (.slice Ao21 t575.length co21 : Value).ownBlock ∧ some k_ ≠ (.slice Ao24 t578.length co24 : Value).ownBlock ∧ some k_ ≠ (.slice Ao32 t586.length co32 : Value).ownBlock) (.slice Ao28 t583.length co28) t583) := ⟨(by rw [hw]; exact (by (with_reducible repeat (first | apply Kd.R_alloc | apply Kd.R_drewN | apply Kd.R_drew)); exact Kd.R_mono (Kd.R_far (p := ⟨gb589, 1, none⟩) (Kd.R_far (p := ⟨gb589, 0, none⟩) (Kd.R_types HO585.out BK589.out (by decide)) (fun _ hk => hk.2) (.slice Ao28 t583.length co28)) (fun _ hk => hk.2) (.slice Ao32 t586.length co32)) (fun _ hk => ⟨hk.1.1.1.1.2, hk.1.1.1.2, hk.1.1.2, hk.1.2, hk.1.1.1.1.1⟩)))⟩; have n5_ : Aside0 (Kd.R (Kd.int .i64) 3 w33 w.heap.size (fun k_ => some k_ ≠ (.slice Ao17 t569.length co17 : Value).ownBlock ∧ some k_ ≠ (.slice Ao18 t572.length co18 : Value).ownBlock ∧ some k_ ≠ (.slice Ao21 t575.length co21 : Value).ownBlock ∧ some k_ ≠ (.slice Ao24 t578.length co24 : Value).ownBlock ∧ some k_ ≠ (.slice Ao28 t583.length co28 : Value).ownBlock) (.slice Ao32 t586.length co32) t586) := ⟨(by rw [hw]; exact (by (with_reducible repeat (first | apply Kd.R_alloc | apply Kd.R_drewN | apply Kd.R_drew)); exact Kd.R_mono (Kd.R_far (p := ⟨gb589, 1, none⟩) (Kd.R_far (p := ⟨gb589, 0, none⟩) (Kd.R_types HO588.out BK589.out (by decide)) (fun _ hk => hk.2) (.slice Ao28 t583.length co28)) (fun _ hk => hk.2) (.slice Ao32 t586.length co32)) (fun _ hk => ⟨hk.1.1.1.1.2, hk.1.1.1.2, hk.1.1.2, hk.1.2, hk.1.1.1.1.1⟩)))⟩; have n6_ : Aside0 (w33.heap[gb567]? = some (.cells #[.slice A0_0 l0_0.length c0_0, .slice A0_1 l0_1.length c0_1] 24 (0, 0))) := ⟨(by rw [hw]; exact (by (with_reducible repeat (first | refine blk_drewN ?_ _ | refine blk_drew ?_ | refine blk_alloc ?_ _)); refine blk_far ?_ NB567_589.out _; (with_reducible repeat (first | refine blk_drewN ?_ _ | refine blk_drew ?_ | refine blk_alloc ?_ _)); refine blk_far ?_ NB567_589.out _; (with_reducible repeat (first | refine blk_drewN ?_ _ | refine blk_drew ?_ | refine blk_alloc ?_ _)); exact BK567.out))⟩; have n7_ : Aside0 (w33.heap[gb582]? = some (.cells #[.slice Ao21 t575.length co21, .slice Ao24 t578.length co24] 27 (0, 0))) := ⟨(by rw [hw]; exact (by (with_reducible repeat (first | refine blk_drewN ?_ _ | refine blk_drew ?_ | refine blk_alloc ?_ _)); refine blk_far ?_ NB582_589.out _; (with_reducible repeat (first | refine blk_drewN ?_ _ | refine blk_drew ?_ | refine blk_alloc ?_ _)); refine blk_far ?_ NB582_589.out _; (with_reducible repeat (first | refine blk_drewN ?_ _ | refine blk_drew ?_ | refine blk_alloc ?_ _)); exact BK582.out))⟩; have n8_ : Aside0 (w33.heap[gb589]? = some (.cells #[.slice Ao28 t583.length co28, .slice Ao32 t586.length co32] 27 (0, 0))) := ⟨(by rw [hw]; exact (by (with_reducible repeat (first | refine blk_drewN ?_ _ | refine blk_drew ?_ | refine blk_alloc ?_ _)); refine blk_put (cs := #[.slice Ao28 t583.length co28, .slice none 0 0]) ?_ 1 _ rfl; (with_reducible repeat (first | refine blk_drewN ?_ _ | refine blk_drew ?_ | refine blk_alloc ?_ _)); refine blk_put (cs := #[.slice none 0 0, .slice none 0 0]) ?_ 0 _ rfl; (with_reducible repeat (first | refine blk_drewN ?_ _ | refine blk_drew ?_ | refine blk_alloc ?_ _)); exact BK589.out))⟩; have n9_ : Aside0 (Below w.heap.size w w33) := ⟨(by rw [hw]; exact (by repeat (first | (with_reducible first | exact HB.out | apply below_alloc | apply pw_below_drewN | apply below_drew1 | refine below_set ?_ GE567.out | refine below_set ?_ GE582.out | refine below_set ?_ GE589.out) | exact HB.out)))⟩; clear hw; clear HO571; clear HO574; clear HO577; clear HO580; clear HO585; clear HO588; clear BK567; clear BK582; clear BK589; clear HB; have HO571 := n0_; have HO574 := n1_; have HO577 := n2_; have HO580 := n3_; have HO585 := n4_; have HO588 := n5_; have BK567 := n6_; have BK582 := n7_; have BK589 := n8_; have HB := n9_; clear n0_ n1_ n2_ n3_ n4_ n5_ n6_ n7_ n8_ n9_; have hcz34_0 : w33.cell? ⟨gb589, 0, none⟩ = some (.slice Ao28 t583.length co28) := (blk_cell BK589.out 0).trans rfl; have hcz34_1 : w33.cell? ⟨gb589, 1, none⟩ = some (.slice Ao32 t586.length co32) := (blk_cell BK589.out 1).trans rfl; have hfz34_0 := blk_frozen BK589.out 0; have hfz34_1 := blk_frozen BK589.out 1) | ((with_reducible refine gate_callee (f := 64) rfl ?_); refine goesL_ (some 29) rfl rfl Try.func64 (by kernel_rfl) rfl #[.agg #[.slice Ao28 t583.length co28, .slice Ao32 t586.length co32]] rfl (by (try simp only [List.map_toArray, List.map_cons, List.map_nil]); first | done | rfl | (simp only [List.length_drop, List.length_take]; rfl)) ?_; (with_reducible refine (impl_TurnLoop.calls k (fun k_ => some k_ = (.slice Ao28 t583.length co28 : Value).ownBlock) _ _ t583 (fun k_ => some k_ = (.slice Ao32 t586.length co32 : Value).ownBlock) _ _ t586 t590 t593 t596 _ ?side1 ?side2 A10.out).mono ?_); (case side1 => exact Kd.R_V (Kd.R_tight rfl (Kd.R_types (Kd.R_types (Kd.R_types (HO585.out) BK567.out (by decide)) BK582.out (by decide)) BK589.out (by decide)))); (case side2 => exact Kd.R_V (Kd.R_tight rfl (Kd.R_types (Kd.R_types (Kd.R_types (HO588.out) BK567.out (by decide)) BK582.out (by decide)) BK589.out (by decide)))); rintro e w35 ⟨v591, v594, rfl, ho0, ho1, hb⟩; refine ⟨_, rfl, ?_⟩; have n0_ := am_ (Kd.R_mono (Kd.R_told (Kd.R_told (Kd.R_old (by (with_reducible repeat (first | apply Kd.R_alloc | apply Kd.R_drewN | apply Kd.R_drew)); exact HO571.out) hb) (Kd.R_base ho0)) (Kd.R_base ho1)) (fun _ h_ => h_.1)); have n1_ := am_ (Kd.R_mono (Kd.R_told (Kd.R_told (Kd.R_old (by (with_reducible repeat (first | apply Kd.R_alloc | apply Kd.R_drewN | apply Kd.R_drew)); exact HO574.out) hb) (Kd.R_base ho0)) (Kd.R_base ho1)) (fun _ h_ => h_.1)); have n2_ := am_ (Kd.R_mono (Kd.R_told (Kd.R_told (Kd.R_old (by (with_reducible repeat (first | apply Kd.R_alloc | apply Kd.R_drewN | apply Kd.R_drew)); exact HO577.out) hb) (Kd.R_base ho0)) (Kd.R_base ho1)) (fun _ h_ => h_.1)); have n3_ := am_ (Kd.R_mono (Kd.R_told (Kd.R_told (Kd.R_old (by (with_reducible repeat (first | apply Kd.R_alloc | apply Kd.R_drewN | apply Kd.R_drew)); exact HO580.out) hb) (Kd.R_base ho0)) (Kd.R_base ho1)) (fun _ h_ => h_.1)); have n4_ := am_ (Kd.R_mono (Kd.R_told (Kd.R_told (Kd.R_old (by (with_reducible repeat (first | apply Kd.R_alloc | apply Kd.R_drewN | apply Kd.R_drew)); exact HO585.out) hb) (Kd.R_base ho0)) (Kd.R_base ho1)) (fun _ h_ => h_.1)); have n5_ := am_ (Kd.R_mono (Kd.R_told (Kd.R_told (Kd.R_old (by (with_reducible repeat (first | apply Kd.R_alloc | apply Kd.R_drewN | apply Kd.R_drew)); exact HO588.out) hb) (Kd.R_base ho0)) (Kd.R_base ho1)) (fun _ h_ => h_.1)); have n6_ := am_ (Kd.R_lower (Kd.R_new' (Kd.R_new' (Kd.R_new' (Kd.R_new' (Kd.R_new' (Kd.R_new' (Kd.R_mono (ok' := fun k_ => some k_ ≠ (v594 : Value).ownBlock) ho0 (fun _ hk_ => hk_.2)) (Kd.R_lt (by (with_reducible repeat (first | apply Kd.R_alloc | apply Kd.R_drewN | apply Kd.R_drew)); exact HO571.out))) (Kd.R_lt (by (with_reducible repeat (first | apply Kd.R_alloc | apply Kd.R_drewN | apply Kd.R_drew)); exact HO574.out))) (Kd.R_lt (by (with_reducible repeat (first | apply Kd.R_alloc | apply Kd.R_drewN | apply Kd.R_drew)); exact HO577.out))) (Kd.R_lt (by (with_reducible repeat (first | apply Kd.R_alloc | apply Kd.R_drewN | apply Kd.R_drew)); exact HO580.out))) (Kd.R_lt (by (with_reducible repeat (first | apply Kd.R_alloc | apply Kd.R_drewN | apply Kd.R_drew)); exact HO585.out))) (Kd.R_lt (by (with_reducible repeat (first | apply Kd.R_alloc | apply Kd.R_drewN | apply Kd.R_drew)); exact HO588.out))) (below_size (by repeat (first | (with_reducible first | exact HB.out | apply below_alloc | apply pw_below_drewN | apply below_drew1 | refine below_set ?_ GE567.out | refine below_set ?_ GE582.out | refine below_set ?_ GE589.out) | exact HB.out)))); have n7_ := am_ (Kd.R_lower (Kd.R_new' (Kd.R_new' (Kd.R_new' (Kd.R_new' (Kd.R_new' (Kd.R_new' (Kd.R_mono (ok' := fun k_ => some k_ ≠ (v591 : Value).ownBlock) ho1 (fun _ hk_ => hk_.2)) (Kd.R_lt (by (with_reducible repeat (first | apply Kd.R_alloc | apply Kd.R_drewN | apply Kd.R_drew)); exact HO571.out))) (Kd.R_lt (by (with_reducible repeat (first | apply Kd.R_alloc | apply Kd.R_drewN | apply Kd.R_drew)); exact HO574.out))) (Kd.R_lt (by (with_reducible repeat (first | apply Kd.R_alloc | apply Kd.R_drewN | apply Kd.R_drew)); exact HO577.out))) (Kd.R_lt (by (with_reducible repeat (first | apply Kd.R_alloc | apply Kd.R_drewN | apply Kd.R_drew)); exact HO580.out))) (Kd.R_lt (by (with_reducible repeat (first | apply Kd.R_alloc | apply Kd.R_drewN | apply Kd.R_drew)); exact HO585.out))) (Kd.R_lt (by (with_reducible repeat (first | apply Kd.R_alloc | apply Kd.R_drewN | apply Kd.R_drew)); exact HO588.out))) (below_size (by repeat (first | (with_reducible first | exact HB.out | apply below_alloc | apply pw_below_drewN | apply below_drew1 | refine below_set ?_ GE567.out | refine below_set ?_ GE582.out | refine below_set ?_ GE589.out) | exact HB.out)))); have n8_ := am_ (blk_below (g := gb567) (o := .cells #[.slice A0_0 l0_0.length c0_0, .slice A0_1 l0_1.length c0_1] 24 (0, 0)) (by (with_reducible repeat (first | refine blk_drewN ?_ _ | refine blk_drew ?_ | refine blk_alloc ?_ _)); exact BK567.out) hb); have n9_ := am_ (blk_below (g := gb582) (o := .cells #[.slice Ao21 t575.length co21, .slice Ao24 t578.length co24] 27 (0, 0)) (by (with_reducible repeat (first | refine blk_drewN ?_ _ | refine blk_drew ?_ | refine blk_alloc ?_ _)); exact BK582.out) hb); have n10_ := am_ (blk_below (g := gb589) (o := .cells #[.slice Ao28 t583.length co28, .slice Ao32 t586.length co32] 27 (0, 0)) (by (with_reducible repeat (first | refine blk_drewN ?_ _ | refine blk_drew ?_ | refine blk_alloc ?_ _)); exact BK589.out) hb); have n11_ := am_ (below_step (by repeat (first | (with_reducible first | exact HB.out | apply below_alloc | apply pw_below_drewN | apply below_drew1 | refine below_set ?_ GE567.out | refine below_set ?_ GE582.out | refine below_set ?_ GE589.out) | exact HB.out)) hb); clear HO571; clear HO574; clear HO577; clear HO580; clear HO585; clear HO588; clear BK567; clear BK582; clear BK589; clear HB; have HO571 := n0_; have HO574 := n1_; have HO577 := n2_; have HO580 := n3_; have HO585 := n4_; have HO588 := n5_; have HO592 := n6_; have HO595 := n7_; have BK567 := n8_; have BK582 := n9_; have BK589 := n10_; have HB := n11_; clear n0_ n1_ n2_ n3_ n4_ n5_ n6_ n7_ n8_ n9_ n10_ n11_; (try clear hb); (try clear hb2); (try clear hk); (try clear hi); (try clear ho0); (try clear ho1)) | ((with_reducible refine gate_dst (N := 7) rfl ?_); refine box_event ?hg (N := 7) ?hd (cs := #[.slice none 0 0, .slice none 0 0]) (t := 27) ?hr ?_; (case hd => rfl); (case hg => rfl); (case hr => first | (go_simp; done) | (go_simp; rfl)); intro gb597 hg w36 hbox hb; have n0_ := am_ (Kd.R_below (by (with_reducible repeat (first | apply Kd.R_alloc | apply Kd.R_drewN | apply Kd.R_drew)); exact HO571.out) hb); have n1_ := am_ (Kd.R_below (by (with_reducible repeat (first | apply Kd.R_alloc | apply Kd.R_drewN | apply Kd.R_drew)); exact HO574.out) hb); have n2_ := am_ (Kd.R_below (by (with_reducible repeat (first | apply Kd.R_alloc | apply Kd.R_drewN | apply Kd.R_drew)); exact HO577.out) hb); have n3_ := am_ (Kd.R_below (by (with_reducible repeat (first | apply Kd.R_alloc | apply Kd.R_drewN | apply Kd.R_drew)); exact HO580.out) hb); have n4_ := am_ (Kd.R_below (by (with_reducible repeat (first | apply Kd.R_alloc | apply Kd.R_drewN | apply Kd.R_drew)); exact HO585.out) hb); have n5_ := am_ (Kd.R_below (by (with_reducible repeat (first | apply Kd.R_alloc | apply Kd.R_drewN | apply Kd.R_drew)); exact HO588.out) hb); have n6_ := am_ (Kd.R_below (by (with_reducible repeat (first | apply Kd.R_alloc | apply Kd.R_drewN | apply Kd.R_drew)); exact HO592.out) hb); have n7_ := am_ (Kd.R_below (by (with_reducible repeat (first | apply Kd.R_alloc | apply Kd.R_drewN | apply Kd.R_drew)); exact HO595.out) hb); have n8_ := am_ (blk_below (g := gb567) (o := .cells #[.slice A0_0 l0_0.length c0_0, .slice A0_1 l0_1.length c0_1] 24 (0, 0)) (by (with_reducible repeat (first | refine blk_drewN ?_ _ | refine blk_drew ?_ | refine blk_alloc ?_ _)); exact BK567.out) hb); have n9_ := am_ (blk_below (g := gb582) (o := .cells #[.slice Ao21 t575.length co21, .slice Ao24 t578.length co24] 27 (0, 0)) (by (with_reducible repeat (first | refine blk_drewN ?_ _ | refine blk_drew ?_ | refine blk_alloc ?_ _)); exact BK582.out) hb); have n10_ := am_ (blk_below (g := gb589) (o := .cells #[.slice Ao28 t583.length co28, .slice Ao32 t586.length co32] 27 (0, 0)) (by (with_reducible repeat (first | refine blk_drewN ?_ _ | refine blk_drew ?_ | refine blk_alloc ?_ _)); exact BK589.out) hb); have n11_ := am_ (below_step (by repeat (first | (with_reducible first | exact HB.out | apply below_alloc | apply pw_below_drewN | apply below_drew1 | refine below_set ?_ GE567.out | refine below_set ?_ GE582.out | refine below_set ?_ GE589.out) | exact HB.out)) hb); have n12_ := am_ (hbox); have n13_ := am_ ((by rw [hg]; exact (below_size (by repeat (first | (with_reducible first | exact HB.out | apply below_alloc | apply pw_below_drewN | apply below_drew1 | refine below_set ?_ GE567.out | refine below_set ?_ GE582.out | refine below_set ?_ GE589.out) | exact HB.out))) : w.heap.size ≤ gb597)); have n14_ := am_ ((by rw [hg]; exact (below_size (by repeat (first | (with_reducible first | exact HB.out | apply below_alloc | apply pw_below_drewN | apply below_drew1 | refine below_set ?_ GE567.out | refine below_set ?_ GE582.out | refine below_set ?_ GE589.out) | exact HB.out))) : w.heap.size ≤ gb597)); have n15_ := am_ ((by rw [hg]; exact Nat.ne_of_lt (blk_lt (g := gb567) (o := .cells #[.slice A0_0 l0_0.length c0_0, .slice A0_1 l0_1.length c0_1] 24 (0, 0)) (by (with_reducible repeat (first | refine blk_drewN ?_ _ | refine blk_drew ?_ | refine blk_alloc ?_ _)); exact BK567.out)) : gb567 ≠ gb597)); have n16_ := am_ ((by rw [hg]; exact Nat.ne_of_gt (blk_lt (g := gb567) (o := .cells #[.slice A0_0 l0_0.length c0_0, .slice A0_1 l0_1.length c0_1] 24 (0, 0)) (by (with_reducible repeat (first | refine blk_drewN ?_ _ | refine blk_drew ?_ | refine blk_alloc ?_ _)); exact BK567.out)) : gb597 ≠ gb567)); have n17_ := am_ ((by rw [hg]; exact Nat.ne_of_lt (blk_lt (g := gb582) (o := .cells #[.slice Ao21 t575.length co21, .slice Ao24 t578.length co24] 27 (0, 0)) (by (with_reducible repeat (first | refine blk_drewN ?_ _ | refine blk_drew ?_ | refine blk_alloc ?_ _)); exact BK582.out)) : gb582 ≠ gb597)); have n18_ := am_ ((by rw [hg]; exact Nat.ne_of_gt (blk_lt (g := gb582) (o := .cells #[.slice Ao21 t575.length co21, .slice Ao24 t578.length co24] 27 (0, 0)) (by (with_reducible repeat (first | refine blk_drewN ?_ _ | refine blk_drew ?_ | refine blk_alloc ?_ _)); exact BK582.out)) : gb597 ≠ gb582)); have n19_ := am_ ((by rw [hg]; exact Nat.ne_of_lt (blk_lt (g := gb589) (o := .cells #[.slice Ao28 t583.length co28, .slice Ao32 t586.length co32] 27 (0, 0)) (by (with_reducible repeat (first | refine blk_drewN ?_ _ | refine blk_drew ?_ | refine blk_alloc ?_ _)); exact BK589.out)) : gb589 ≠ gb597)); have n20_ := am_ ((by rw [hg]; exact Nat.ne_of_gt (blk_lt (g := gb589) (o := .cells #[.slice Ao28 t583.length co28, .slice Ao32 t586.length co32] 27 (0, 0)) (by (with_reducible repeat (first | refine blk_drewN ?_ _ | refine blk_drew ?_ | refine blk_alloc ?_ _)); exact BK589.out)) : gb597 ≠ gb589)); clear HO571; clear HO574; clear HO577; clear HO580; clear HO585; clear HO588; clear HO592; clear HO595; clear BK567; clear BK582; clear BK589; clear HB; have HO571 := n0_; have HO574 := n1_; have HO577 := n2_; have HO580 := n3_; have HO585 := n4_; have HO588 := n5_; have HO592 := n6_; have HO595 := n7_; have BK567 := n8_; have BK582 := n9_; have BK589 := n10_; have HB := n11_; have BK597 := n12_; have GW597 := n13_; have GE597 := n14_; have NB567_597 := n15_; have NB597_567 := n16_; have NB582_597 := n17_; have NB597_582 := n18_; have NB589_597 := n19_; have NB597_589 := n20_; clear n0_ n1_ n2_ n3_ n4_ n5_ n6_ n7_ n8_ n9_ n10_ n11_ n12_ n13_ n14_ n15_ n16_ n17_ n18_ n19_ n20_; clear hb hbox hg; obtain ⟨Ao37, co37, eo37⟩ := Kd.R_slice HO592.out; subst eo37; have hnb38 := NB597_567.out; have hnc38 := NB567_597.out; have hnb39 := NB597_582.out; have hnc39 := NB582_597.out; have hnb40 := NB597_589.out; have hnc40 := NB589_597.out; have hcz41_0 : w36.cell? ⟨gb597, 0, none⟩ = some (.slice none 0 0) := (blk_cell BK597.out 0).trans rfl; have hcz41_1 : w36.cell? ⟨gb597, 1, none⟩ = some (.slice none 0 0) := (blk_cell BK597.out 1).trans rfl; have hfz41_0 := blk_frozen BK597.out 0; have hfz41_1 := blk_frozen BK597.out 1; obtain ⟨Ao42, co42, eo42⟩ := Kd.R_slice HO595.out; subst eo42))
  (try simp only [Act.put, List.setIfInBounds_toArray, List.set_cons_zero, List.set_cons_succ])
  go_cut [40] (fun v40 wc => ∃ (kq : Nat) (x40_10 : Bool), v40 = .bool x40_10 ∧ Aside0 (laws_FnExactTurnLoop.j0 kq t581 t596 x40_10 l0_0 l0_1 t575 t578 t583 t586 t590 t593 = some r) ∧ Aside0 (kq ≤ k) ∧ Aside0 (Kd.R (Kd.int .i64) 3 wc w.heap.size (fun k_ => some k_ ≠ ((.slice Ao24 t578.length co24) : Value).ownBlock ∧ some k_ ≠ ((.slice Ao28 t583.length co28) : Value).ownBlock ∧ some k_ ≠ ((.slice Ao32 t586.length co32) : Value).ownBlock ∧ some k_ ≠ ((.slice Ao37 t590.length co37) : Value).ownBlock ∧ some k_ ≠ ((.slice Ao42 t593.length co42) : Value).ownBlock) (.slice Ao21 t575.length co21) t575) ∧ Aside0 (Kd.R (Kd.int .i64) 3 wc w.heap.size (fun k_ => some k_ ≠ ((.slice Ao21 t575.length co21) : Value).ownBlock ∧ some k_ ≠ ((.slice Ao28 t583.length co28) : Value).ownBlock ∧ some k_ ≠ ((.slice Ao32 t586.length co32) : Value).ownBlock ∧ some k_ ≠ ((.slice Ao37 t590.length co37) : Value).ownBlock ∧ some k_ ≠ ((.slice Ao42 t593.length co42) : Value).ownBlock) (.slice Ao24 t578.length co24) t578) ∧ Aside0 (Kd.R (Kd.int .i64) 3 wc w.heap.size (fun k_ => some k_ ≠ ((.slice Ao21 t575.length co21) : Value).ownBlock ∧ some k_ ≠ ((.slice Ao24 t578.length co24) : Value).ownBlock ∧ some k_ ≠ ((.slice Ao32 t586.length co32) : Value).ownBlock ∧ some k_ ≠ ((.slice Ao37 t590.length co37) : Value).ownBlock ∧ some k_ ≠ ((.slice Ao42 t593.length co42) : Value).ownBlock) (.slice Ao28 t583.length co28) t583) ∧ Aside0 (Kd.R (Kd.int .i64) 3 wc w.heap.size (fun k_ => some k_ ≠ ((.slice Ao21 t575.length co21) : Value).ownBlock ∧ some k_ ≠ ((.slice Ao24 t578.length co24) : Value).ownBlock ∧ some k_ ≠ ((.slice Ao28 t583.length co28) : Value).ownBlock ∧ some k_ ≠ ((.slice Ao37 t590.length co37) : Value).ownBlock ∧ some k_ ≠ ((.slice Ao42 t593.length co42) : Value).ownBlock) (.slice Ao32 t586.length co32) t586) ∧ Aside0 (Kd.R (Kd.int .i64) 3 wc w.heap.size (fun k_ => some k_ ≠ ((.slice Ao21 t575.length co21) : Value).ownBlock ∧ some k_ ≠ ((.slice Ao24 t578.length co24) : Value).ownBlock ∧ some k_ ≠ ((.slice Ao28 t583.length co28) : Value).ownBlock ∧ some k_ ≠ ((.slice Ao32 t586.length co32) : Value).ownBlock ∧ some k_ ≠ ((.slice Ao42 t593.length co42) : Value).ownBlock) (.slice Ao37 t590.length co37) t590) ∧ Aside0 (Kd.R (Kd.int .i64) 3 wc w.heap.size (fun k_ => some k_ ≠ ((.slice Ao21 t575.length co21) : Value).ownBlock ∧ some k_ ≠ ((.slice Ao24 t578.length co24) : Value).ownBlock ∧ some k_ ≠ ((.slice Ao28 t583.length co28) : Value).ownBlock ∧ some k_ ≠ ((.slice Ao32 t586.length co32) : Value).ownBlock ∧ some k_ ≠ ((.slice Ao37 t590.length co37) : Value).ownBlock) (.slice Ao42 t593.length co42) t593) ∧ Aside0 (wc.heap[gb567]? = some (.cells #[(.slice A0_0 l0_0.length c0_0), (.slice A0_1 l0_1.length c0_1)] 24 (0, 0))) ∧ Aside0 (wc.heap[gb582]? = some (.cells #[(.slice Ao21 t575.length co21), (.slice Ao24 t578.length co24)] 27 (0, 0))) ∧ Aside0 (wc.heap[gb589]? = some (.cells #[(.slice Ao28 t583.length co28), (.slice Ao32 t586.length co32)] 27 (0, 0))) ∧ Aside0 (wc.heap[gb597]? = some (.cells #[(.slice Ao37 t590.length co37), (.slice Ao42 t593.length co42)] 27 (0, 0))) ∧ Aside0 (Below w.heap.size w wc))
  case first =>
   have H := HC11.out
   clear HC11
   replace H := Option.bind_eq_some_iff.mp H
   obtain ⟨t598, A430, H⟩ := H
   replace H : (if t598 = true then (laws_FnExactTurnLoop.j0 k t581 t596 (t596 != t581) l0_0 l0_1 t575 t578 t583 t586 t590 t593) else (laws_FnExactTurnLoop.j0 k t581 t596 true l0_0 l0_1 t575 t578 t583 t586 t590 t593)) = some r := H
   have A43 := am_ A430
   clear A430
   by_cases c44 : t598 = true
   ·subst c44
    have H1 : (laws_FnExactTurnLoop.j0 k t581 t596 (t596 != t581) l0_0 l0_1 t575 t578 t583 t586 t590 t593) = some r := by rw [if_pos rfl] at H; exact H
    clear H
    have H := H1
    clear H1
    have H' := am_ H
    clear H
    have hnb45 := NB597_567.out
    have hnc45 := NB567_597.out
    have hnb46 := NB597_582.out
    have hnc46 := NB582_597.out
    have hnb47 := NB597_589.out
    have hnc47 := NB589_597.out
    have hcz48_0 : w36.cell? ⟨gb597, 0, none⟩ = some (.slice none 0 0) := (blk_cell BK597.out 0).trans rfl
    have hcz48_1 : w36.cell? ⟨gb597, 1, none⟩ = some (.slice none 0 0) := (blk_cell BK597.out 1).trans rfl
    have hfz48_0 := blk_frozen BK597.out 0
    have hfz48_1 := blk_frozen BK597.out 1
    have hnb49 := NB582_567.out
    have hnc49 := NB567_582.out
    have hnb50 := NB582_589.out
    have hnc50 := NB589_582.out
    have hcz51_0 : w36.cell? ⟨gb582, 0, none⟩ = some (.slice Ao21 t575.length co21) := (blk_cell BK582.out 0).trans rfl
    have hcz51_1 : w36.cell? ⟨gb582, 1, none⟩ = some (.slice Ao24 t578.length co24) := (blk_cell BK582.out 1).trans rfl
    have hfz51_0 := blk_frozen BK582.out 0
    have hfz51_1 := blk_frozen BK582.out 1
    go_wp2_with (first | ((with_reducible refine gate_callee (f := 19) rfl ?_); refine goesL_ (some 34) rfl rfl Try.func19 (by kernel_rfl) rfl #[.agg #[.slice Ao37 t590.length co37, .slice Ao42 t593.length co42], .agg #[.slice Ao21 t575.length co21, .slice Ao24 t578.length co24]] rfl (by (try simp only [List.map_toArray, List.map_cons, List.map_nil]); first | done | rfl | (simp only [List.length_drop, List.length_take]; rfl)) ?_; (with_reducible refine (laws_eqLasso.calls k _ _ t590 _ _ t593 _ _ t575 _ _ t578 true _ ?side1 ?side2 ?side3 ?side4 ?side5 ?side6 ?side7 ?side8 A43.out).mono ?_); (case side1 => refine (Kd.R_reads' (e := 3) (base := w.heap.size) (ok := fun k_ => ((((((some k_ ≠ (.slice Ao42 t593.length co42 : Value).ownBlock ∧ some k_ ≠ (.slice Ao17 t569.length co17 : Value).ownBlock) ∧ some k_ ≠ (.slice Ao18 t572.length co18 : Value).ownBlock) ∧ some k_ ≠ (.slice Ao21 t575.length co21 : Value).ownBlock) ∧ some k_ ≠ (.slice Ao24 t578.length co24 : Value).ownBlock) ∧ some k_ ≠ (.slice Ao28 t583.length co28 : Value).ownBlock) ∧ some k_ ≠ (.slice Ao32 t586.length co32 : Value).ownBlock)) (n := t590.length) (c := co37) ?_).2.2; exact (by (with_reducible repeat (first | apply Kd.R_alloc | apply Kd.R_drewN | apply Kd.R_drew)); exact (Kd.R_mono (Kd.R_far (p := ⟨gb597, 1, none⟩) (Kd.R_far (p := ⟨gb597, 0, none⟩) (Kd.R_types HO592.out BK597.out (by decide)) (fun _ hk => hk.2) (.slice Ao37 t590.length co37)) (fun _ hk => hk.2) (.slice Ao42 t593.length co42)) (fun _ h_ => h_.1)))); (case side2 => exact (Kd.R_reads' HO592.out).2.1); (case side3 => refine (Kd.R_reads' (e := 3) (base := w.heap.size) (ok := fun k_ => ((((((some k_ ≠ (.slice Ao37 t590.length co37 : Value).ownBlock ∧ some k_ ≠ (.slice Ao17 t569.length co17 : Value).ownBlock) ∧ some k_ ≠ (.slice Ao18 t572.length co18 : Value).ownBlock) ∧ some k_ ≠ (.slice Ao21 t575.length co21 : Value).ownBlock) ∧ some k_ ≠ (.slice Ao24 t578.length co24 : Value).ownBlock) ∧ some k_ ≠ (.slice Ao28 t583.length co28 : Value).ownBlock) ∧ some k_ ≠ (.slice Ao32 t586.length co32 : Value).ownBlock)) (n := t593.length) (c := co42) ?_).2.2; exact (by (with_reducible repeat (first | apply Kd.R_alloc | apply Kd.R_drewN | apply Kd.R_drew)); exact (Kd.R_mono (Kd.R_far (p := ⟨gb597, 1, none⟩) (Kd.R_far (p := ⟨gb597, 0, none⟩) (Kd.R_types HO595.out BK597.out (by decide)) (fun _ hk => hk.2) (.slice Ao37 t590.length co37)) (fun _ hk => hk.2) (.slice Ao42 t593.length co42)) (fun _ h_ => h_.1)))); (case side4 => exact (Kd.R_reads' HO595.out).2.1); (case side5 => refine (Kd.R_reads' (e := 3) (base := w.heap.size) (ok := fun k_ => (((some k_ ≠ (.slice Ao17 t569.length co17 : Value).ownBlock ∧ (some k_ ≠ (.slice Ao18 t572.length co18 : Value).ownBlock ∧ (some k_ ≠ (.slice Ao24 t578.length co24 : Value).ownBlock ∧ (some k_ ≠ (.slice Ao28 t583.length co28 : Value).ownBlock ∧ some k_ ≠ (.slice Ao32 t586.length co32 : Value).ownBlock)))) ∧ some k_ ≠ (.slice Ao37 t590.length co37 : Value).ownBlock) ∧ some k_ ≠ (.slice Ao42 t593.length co42 : Value).ownBlock)) (n := t575.length) (c := co21) ?_).2.2; exact (by (with_reducible repeat (first | apply Kd.R_alloc | apply Kd.R_drewN | apply Kd.R_drew)); exact (Kd.R_mono (Kd.R_far (p := ⟨gb597, 1, none⟩) (Kd.R_far (p := ⟨gb597, 0, none⟩) (Kd.R_types HO577.out BK597.out (by decide)) (fun _ hk => hk.2) (.slice Ao37 t590.length co37)) (fun _ hk => hk.2) (.slice Ao42 t593.length co42)) (fun _ h_ => h_.1)))); (case side6 => exact (Kd.R_reads' HO577.out).2.1); (case side7 => refine (Kd.R_reads' (e := 3) (base := w.heap.size) (ok := fun k_ => (((some k_ ≠ (.slice Ao17 t569.length co17 : Value).ownBlock ∧ (some k_ ≠ (.slice Ao18 t572.length co18 : Value).ownBlock ∧ (some k_ ≠ (.slice Ao21 t575.length co21 : Value).ownBlock ∧ (some k_ ≠ (.slice Ao28 t583.length co28 : Value).ownBlock ∧ some k_ ≠ (.slice Ao32 t586.length co32 : Value).ownBlock)))) ∧ some k_ ≠ (.slice Ao37 t590.length co37 : Value).ownBlock) ∧ some k_ ≠ (.slice Ao42 t593.length co42 : Value).ownBlock)) (n := t578.length) (c := co24) ?_).2.2; exact (by (with_reducible repeat (first | apply Kd.R_alloc | apply Kd.R_drewN | apply Kd.R_drew)); exact (Kd.R_mono (Kd.R_far (p := ⟨gb597, 1, none⟩) (Kd.R_far (p := ⟨gb597, 0, none⟩) (Kd.R_types HO580.out BK597.out (by decide)) (fun _ hk => hk.2) (.slice Ao37 t590.length co37)) (fun _ hk => hk.2) (.slice Ao42 t593.length co42)) (fun _ h_ => h_.1)))); (case side8 => exact (Kd.R_reads' HO580.out).2.1); rintro e w52 ⟨rfl, hb⟩; refine ⟨_, rfl, ?_⟩; have n0_ := am_ (Kd.R_below (by (with_reducible repeat (first | apply Kd.R_alloc | apply Kd.R_drewN | apply Kd.R_drew)); exact (Kd.R_mono (Kd.R_far (p := ⟨gb597, 1, none⟩) (Kd.R_far (p := ⟨gb597, 0, none⟩) (Kd.R_types HO571.out BK597.out (by decide)) (fun _ hk => hk.2) (.slice Ao37 t590.length co37)) (fun _ hk => hk.2) (.slice Ao42 t593.length co42)) (fun _ h_ => h_.1))) hb); have n1_ := am_ (Kd.R_below (by (with_reducible repeat (first | apply Kd.R_alloc | apply Kd.R_drewN | apply Kd.R_drew)); exact (Kd.R_mono (Kd.R_far (p := ⟨gb597, 1, none⟩) (Kd.R_far (p := ⟨gb597, 0, none⟩) (Kd.R_types HO574.out BK597.out (by decide)) (fun _ hk => hk.2) (.slice Ao37 t590.length co37)) (fun _ hk => hk.2) (.slice Ao42 t593.length co42)) (fun _ h_ => h_.1))) hb); have n2_ := am_ (Kd.R_below (by (with_reducible repeat (first | apply Kd.R_alloc | apply Kd.R_drewN | apply Kd.R_drew)); exact (Kd.R_mono (Kd.R_far (p := ⟨gb597, 1, none⟩) (Kd.R_far (p := ⟨gb597, 0, none⟩) (Kd.R_types HO577.out BK597.out (by decide)) (fun _ hk => hk.2) (.slice Ao37 t590.length co37)) (fun _ hk => hk.2) (.slice Ao42 t593.length co42)) (fun _ h_ => h_.1))) hb); have n3_ := am_ (Kd.R_below (by (with_reducible repeat (first | apply Kd.R_alloc | apply Kd.R_drewN | apply Kd.R_drew)); exact (Kd.R_mono (Kd.R_far (p := ⟨gb597, 1, none⟩) (Kd.R_far (p := ⟨gb597, 0, none⟩) (Kd.R_types HO580.out BK597.out (by decide)) (fun _ hk => hk.2) (.slice Ao37 t590.length co37)) (fun _ hk => hk.2) (.slice Ao42 t593.length co42)) (fun _ h_ => h_.1))) hb); have n4_ := am_ (Kd.R_below (by (with_reducible repeat (first | apply Kd.R_alloc | apply Kd.R_drewN | apply Kd.R_drew)); exact (Kd.R_mono (Kd.R_far (p := ⟨gb597, 1, none⟩) (Kd.R_far (p := ⟨gb597, 0, none⟩) (Kd.R_types HO585.out BK597.out (by decide)) (fun _ hk => hk.2) (.slice Ao37 t590.length co37)) (fun _ hk => hk.2) (.slice Ao42 t593.length co42)) (fun _ h_ => h_.1))) hb); have n5_ := am_ (Kd.R_below (by (with_reducible repeat (first | apply Kd.R_alloc | apply Kd.R_drewN | apply Kd.R_drew)); exact (Kd.R_mono (Kd.R_far (p := ⟨gb597, 1, none⟩) (Kd.R_far (p := ⟨gb597, 0, none⟩) (Kd.R_types HO588.out BK597.out (by decide)) (fun _ hk => hk.2) (.slice Ao37 t590.length co37)) (fun _ hk => hk.2) (.slice Ao42 t593.length co42)) (fun _ h_ => h_.1))) hb); have n6_ := am_ (Kd.R_below (by (with_reducible repeat (first | apply Kd.R_alloc | apply Kd.R_drewN | apply Kd.R_drew)); exact (Kd.R_mono (Kd.R_far (p := ⟨gb597, 1, none⟩) (Kd.R_far (p := ⟨gb597, 0, none⟩) (Kd.R_types HO592.out BK597.out (by decide)) (fun _ hk => hk.2) (.slice Ao37 t590.length co37)) (fun _ hk => hk.2) (.slice Ao42 t593.length co42)) (fun _ h_ => h_.1))) hb); have n7_ := am_ (Kd.R_below (by (with_reducible repeat (first | apply Kd.R_alloc | apply Kd.R_drewN | apply Kd.R_drew)); exact (Kd.R_mono (Kd.R_far (p := ⟨gb597, 1, none⟩) (Kd.R_far (p := ⟨gb597, 0, none⟩) (Kd.R_types HO595.out BK597.out (by decide)) (fun _ hk => hk.2) (.slice Ao37 t590.length co37)) (fun _ hk => hk.2) (.slice Ao42 t593.length co42)) (fun _ h_ => h_.1))) hb); have n8_ := am_ (blk_below (g := gb567) (o := .cells #[.slice A0_0 l0_0.length c0_0, .slice A0_1 l0_1.length c0_1] 24 (0, 0)) (by (with_reducible repeat (first | refine blk_drewN ?_ _ | refine blk_drew ?_ | refine blk_alloc ?_ _)); refine blk_far ?_ NB567_597.out _; (with_reducible repeat (first | refine blk_drewN ?_ _ | refine blk_drew ?_ | refine blk_alloc ?_ _)); refine blk_far ?_ NB567_597.out _; (with_reducible repeat (first | refine blk_drewN ?_ _ | refine blk_drew ?_ | refine blk_alloc ?_ _)); exact BK567.out) hb); have n9_ := am_ (blk_below (g := gb582) (o := .cells #[.slice Ao21 t575.length co21, .slice Ao24 t578.length co24] 27 (0, 0)) (by (with_reducible repeat (first | refine blk_drewN ?_ _ | refine blk_drew ?_ | refine blk_alloc ?_ _)); refine blk_far ?_ NB582_597.out _; (with_reducible repeat (first | refine blk_drewN ?_ _ | refine blk_drew ?_ | refine blk_alloc ?_ _)); refine blk_far ?_ NB582_597.out _; (with_reducible repeat (first | refine blk_drewN ?_ _ | refine blk_drew ?_ | refine blk_alloc ?_ _)); exact BK582.out) hb); have n10_ := am_ (blk_below (g := gb589) (o := .cells #[.slice Ao28 t583.length co28, .slice Ao32 t586.length co32] 27 (0, 0)) (by (with_reducible repeat (first | refine blk_drewN ?_ _ | refine blk_drew ?_ | refine blk_alloc ?_ _)); refine blk_far ?_ NB589_597.out _; (with_reducible repeat (first | refine blk_drewN ?_ _ | refine blk_drew ?_ | refine blk_alloc ?_ _)); refine blk_far ?_ NB589_597.out _; (with_reducible repeat (first | refine blk_drewN ?_ _ | refine blk_drew ?_ | refine blk_alloc ?_ _)); exact BK589.out) hb); have n11_ := am_ (blk_below (g := gb597) (o := .cells #[.slice Ao37 t590.length co37, .slice Ao42 t593.length co42] 27 (0, 0)) (by (with_reducible repeat (first | refine blk_drewN ?_ _ | refine blk_drew ?_ | refine blk_alloc ?_ _)); refine blk_put (cs := #[.slice Ao37 t590.length co37, .slice none 0 0]) ?_ 1 _ rfl; (with_reducible repeat (first | refine blk_drewN ?_ _ | refine blk_drew ?_ | refine blk_alloc ?_ _)); refine blk_put (cs := #[.slice none 0 0, .slice none 0 0]) ?_ 0 _ rfl; (with_reducible repeat (first | refine blk_drewN ?_ _ | refine blk_drew ?_ | refine blk_alloc ?_ _)); exact BK597.out) hb); have n12_ := am_ (below_step (by repeat (first | (with_reducible first | exact HB.out | apply below_alloc | apply pw_below_drewN | apply below_drew1 | refine below_set ?_ GE567.out | refine below_set ?_ GE582.out | refine below_set ?_ GE589.out | refine below_set ?_ GE597.out) | exact HB.out)) hb); clear HO571; clear HO574; clear HO577; clear HO580; clear HO585; clear HO588; clear HO592; clear HO595; clear BK567; clear BK582; clear BK589; clear BK597; clear HB; have HO571 := n0_; have HO574 := n1_; have HO577 := n2_; have HO580 := n3_; have HO585 := n4_; have HO588 := n5_; have HO592 := n6_; have HO595 := n7_; have BK567 := n8_; have BK582 := n9_; have BK589 := n10_; have BK597 := n11_; have HB := n12_; clear n0_ n1_ n2_ n3_ n4_ n5_ n6_ n7_ n8_ n9_ n10_ n11_ n12_; (try clear hb); (try clear hb2); (try clear hk); (try clear hi)))
    go_meet
    case rel => exact ⟨_, ((t596 != t581)), (by first | rfl | (simp; done) | (simp [*]; done)), H', ⟨by first | omega | exact Nat.le_refl _⟩, ⟨by (with_reducible repeat (first | apply Kd.R_alloc | apply Kd.R_drewN | apply Kd.R_drew)); exact Kd.R_mono HO577.out (fun _ hk => ⟨hk.1.1.2.2.1, hk.1.1.2.2.2.1, hk.1.1.2.2.2.2, hk.1.2, hk.2⟩)⟩, ⟨by (with_reducible repeat (first | apply Kd.R_alloc | apply Kd.R_drewN | apply Kd.R_drew)); exact Kd.R_mono HO580.out (fun _ hk => ⟨hk.1.1.2.2.1, hk.1.1.2.2.2.1, hk.1.1.2.2.2.2, hk.1.2, hk.2⟩)⟩, ⟨by (with_reducible repeat (first | apply Kd.R_alloc | apply Kd.R_drewN | apply Kd.R_drew)); exact Kd.R_mono HO585.out (fun _ hk => ⟨hk.1.1.2.2.1, hk.1.1.2.2.2.1, hk.1.1.2.2.2.2, hk.1.2, hk.2⟩)⟩, ⟨by (with_reducible repeat (first | apply Kd.R_alloc | apply Kd.R_drewN | apply Kd.R_drew)); exact Kd.R_mono HO588.out (fun _ hk => ⟨hk.1.1.2.2.1, hk.1.1.2.2.2.1, hk.1.1.2.2.2.2, hk.1.2, hk.2⟩)⟩, ⟨by (with_reducible repeat (first | apply Kd.R_alloc | apply Kd.R_drewN | apply Kd.R_drew)); exact Kd.R_mono HO592.out (fun _ hk => ⟨hk.1.1.1.2, hk.1.1.2, hk.1.2, hk.2, hk.1.1.1.1.1.1⟩)⟩, ⟨by (with_reducible repeat (first | apply Kd.R_alloc | apply Kd.R_drewN | apply Kd.R_drew)); exact Kd.R_mono HO595.out (fun _ hk => ⟨hk.1.1.1.2, hk.1.1.2, hk.1.2, hk.2, hk.1.1.1.1.1.1⟩)⟩, ⟨by (with_reducible repeat (first | refine blk_drewN ?_ _ | refine blk_drew ?_ | refine blk_alloc ?_ _)); exact BK567.out⟩, ⟨by (with_reducible repeat (first | refine blk_drewN ?_ _ | refine blk_drew ?_ | refine blk_alloc ?_ _)); exact BK582.out⟩, ⟨by (with_reducible repeat (first | refine blk_drewN ?_ _ | refine blk_drew ?_ | refine blk_alloc ?_ _)); exact BK589.out⟩, ⟨by (with_reducible repeat (first | refine blk_drewN ?_ _ | refine blk_drew ?_ | refine blk_alloc ?_ _)); exact BK597.out⟩, ⟨by repeat (first | (with_reducible first | exact HB.out | apply below_alloc | apply pw_below_drewN | apply below_drew1 | refine below_set ?_ GE567.out | refine below_set ?_ GE582.out | refine below_set ?_ GE589.out | refine below_set ?_ GE597.out) | exact HB.out)⟩⟩
   ·replace c44 := Bool.eq_false_iff.mpr c44
    subst c44
    have H1 : (laws_FnExactTurnLoop.j0 k t581 t596 true l0_0 l0_1 t575 t578 t583 t586 t590 t593) = some r := by rw [if_neg (show ¬ (false = true) by decide)] at H; exact H
    clear H
    have H := H1
    clear H1
    have H' := am_ H
    clear H
    have hnb53 := NB597_567.out
    have hnc53 := NB567_597.out
    have hnb54 := NB597_582.out
    have hnc54 := NB582_597.out
    have hnb55 := NB597_589.out
    have hnc55 := NB589_597.out
    have hcz56_0 : w36.cell? ⟨gb597, 0, none⟩ = some (.slice none 0 0) := (blk_cell BK597.out 0).trans rfl
    have hcz56_1 : w36.cell? ⟨gb597, 1, none⟩ = some (.slice none 0 0) := (blk_cell BK597.out 1).trans rfl
    have hfz56_0 := blk_frozen BK597.out 0
    have hfz56_1 := blk_frozen BK597.out 1
    have hnb57 := NB582_567.out
    have hnc57 := NB567_582.out
    have hnb58 := NB582_589.out
    have hnc58 := NB589_582.out
    have hcz59_0 : w36.cell? ⟨gb582, 0, none⟩ = some (.slice Ao21 t575.length co21) := (blk_cell BK582.out 0).trans rfl
    have hcz59_1 : w36.cell? ⟨gb582, 1, none⟩ = some (.slice Ao24 t578.length co24) := (blk_cell BK582.out 1).trans rfl
    have hfz59_0 := blk_frozen BK582.out 0
    have hfz59_1 := blk_frozen BK582.out 1
    go_wp2_with (first | ((with_reducible refine gate_callee (f := 19) rfl ?_); refine goesL_ (some 34) rfl rfl Try.func19 (by kernel_rfl) rfl #[.agg #[.slice Ao37 t590.length co37, .slice Ao42 t593.length co42], .agg #[.slice Ao21 t575.length co21, .slice Ao24 t578.length co24]] rfl (by (try simp only [List.map_toArray, List.map_cons, List.map_nil]); first | done | rfl | (simp only [List.length_drop, List.length_take]; rfl)) ?_; (with_reducible refine (laws_eqLasso.calls k _ _ t590 _ _ t593 _ _ t575 _ _ t578 false _ ?side1 ?side2 ?side3 ?side4 ?side5 ?side6 ?side7 ?side8 A43.out).mono ?_); (case side1 => refine (Kd.R_reads' (e := 3) (base := w.heap.size) (ok := fun k_ => ((((((some k_ ≠ (.slice Ao42 t593.length co42 : Value).ownBlock ∧ some k_ ≠ (.slice Ao17 t569.length co17 : Value).ownBlock) ∧ some k_ ≠ (.slice Ao18 t572.length co18 : Value).ownBlock) ∧ some k_ ≠ (.slice Ao21 t575.length co21 : Value).ownBlock) ∧ some k_ ≠ (.slice Ao24 t578.length co24 : Value).ownBlock) ∧ some k_ ≠ (.slice Ao28 t583.length co28 : Value).ownBlock) ∧ some k_ ≠ (.slice Ao32 t586.length co32 : Value).ownBlock)) (n := t590.length) (c := co37) ?_).2.2; exact (by (with_reducible repeat (first | apply Kd.R_alloc | apply Kd.R_drewN | apply Kd.R_drew)); exact (Kd.R_mono (Kd.R_far (p := ⟨gb597, 1, none⟩) (Kd.R_far (p := ⟨gb597, 0, none⟩) (Kd.R_types HO592.out BK597.out (by decide)) (fun _ hk => hk.2) (.slice Ao37 t590.length co37)) (fun _ hk => hk.2) (.slice Ao42 t593.length co42)) (fun _ h_ => h_.1)))); (case side2 => exact (Kd.R_reads' HO592.out).2.1); (case side3 => refine (Kd.R_reads' (e := 3) (base := w.heap.size) (ok := fun k_ => ((((((some k_ ≠ (.slice Ao37 t590.length co37 : Value).ownBlock ∧ some k_ ≠ (.slice Ao17 t569.length co17 : Value).ownBlock) ∧ some k_ ≠ (.slice Ao18 t572.length co18 : Value).ownBlock) ∧ some k_ ≠ (.slice Ao21 t575.length co21 : Value).ownBlock) ∧ some k_ ≠ (.slice Ao24 t578.length co24 : Value).ownBlock) ∧ some k_ ≠ (.slice Ao28 t583.length co28 : Value).ownBlock) ∧ some k_ ≠ (.slice Ao32 t586.length co32 : Value).ownBlock)) (n := t593.length) (c := co42) ?_).2.2; exact (by (with_reducible repeat (first | apply Kd.R_alloc | apply Kd.R_drewN | apply Kd.R_drew)); exact (Kd.R_mono (Kd.R_far (p := ⟨gb597, 1, none⟩) (Kd.R_far (p := ⟨gb597, 0, none⟩) (Kd.R_types HO595.out BK597.out (by decide)) (fun _ hk => hk.2) (.slice Ao37 t590.length co37)) (fun _ hk => hk.2) (.slice Ao42 t593.length co42)) (fun _ h_ => h_.1)))); (case side4 => exact (Kd.R_reads' HO595.out).2.1); (case side5 => refine (Kd.R_reads' (e := 3) (base := w.heap.size) (ok := fun k_ => (((some k_ ≠ (.slice Ao17 t569.length co17 : Value).ownBlock ∧ (some k_ ≠ (.slice Ao18 t572.length co18 : Value).ownBlock ∧ (some k_ ≠ (.slice Ao24 t578.length co24 : Value).ownBlock ∧ (some k_ ≠ (.slice Ao28 t583.length co28 : Value).ownBlock ∧ some k_ ≠ (.slice Ao32 t586.length co32 : Value).ownBlock)))) ∧ some k_ ≠ (.slice Ao37 t590.length co37 : Value).ownBlock) ∧ some k_ ≠ (.slice Ao42 t593.length co42 : Value).ownBlock)) (n := t575.length) (c := co21) ?_).2.2; exact (by (with_reducible repeat (first | apply Kd.R_alloc | apply Kd.R_drewN | apply Kd.R_drew)); exact (Kd.R_mono (Kd.R_far (p := ⟨gb597, 1, none⟩) (Kd.R_far (p := ⟨gb597, 0, none⟩) (Kd.R_types HO577.out BK597.out (by decide)) (fun _ hk => hk.2) (.slice Ao37 t590.length co37)) (fun _ hk => hk.2) (.slice Ao42 t593.length co42)) (fun _ h_ => h_.1)))); (case side6 => exact (Kd.R_reads' HO577.out).2.1); (case side7 => refine (Kd.R_reads' (e := 3) (base := w.heap.size) (ok := fun k_ => (((some k_ ≠ (.slice Ao17 t569.length co17 : Value).ownBlock ∧ (some k_ ≠ (.slice Ao18 t572.length co18 : Value).ownBlock ∧ (some k_ ≠ (.slice Ao21 t575.length co21 : Value).ownBlock ∧ (some k_ ≠ (.slice Ao28 t583.length co28 : Value).ownBlock ∧ some k_ ≠ (.slice Ao32 t586.length co32 : Value).ownBlock)))) ∧ some k_ ≠ (.slice Ao37 t590.length co37 : Value).ownBlock) ∧ some k_ ≠ (.slice Ao42 t593.length co42 : Value).ownBlock)) (n := t578.length) (c := co24) ?_).2.2; exact (by (with_reducible repeat (first | apply Kd.R_alloc | apply Kd.R_drewN | apply Kd.R_drew)); exact (Kd.R_mono (Kd.R_far (p := ⟨gb597, 1, none⟩) (Kd.R_far (p := ⟨gb597, 0, none⟩) (Kd.R_types HO580.out BK597.out (by decide)) (fun _ hk => hk.2) (.slice Ao37 t590.length co37)) (fun _ hk => hk.2) (.slice Ao42 t593.length co42)) (fun _ h_ => h_.1)))); (case side8 => exact (Kd.R_reads' HO580.out).2.1); rintro e w60 ⟨rfl, hb⟩; refine ⟨_, rfl, ?_⟩; have n0_ := am_ (Kd.R_below (by (with_reducible repeat (first | apply Kd.R_alloc | apply Kd.R_drewN | apply Kd.R_drew)); exact (Kd.R_mono (Kd.R_far (p := ⟨gb597, 1, none⟩) (Kd.R_far (p := ⟨gb597, 0, none⟩) (Kd.R_types HO571.out BK597.out (by decide)) (fun _ hk => hk.2) (.slice Ao37 t590.length co37)) (fun _ hk => hk.2) (.slice Ao42 t593.length co42)) (fun _ h_ => h_.1))) hb); have n1_ := am_ (Kd.R_below (by (with_reducible repeat (first | apply Kd.R_alloc | apply Kd.R_drewN | apply Kd.R_drew)); exact (Kd.R_mono (Kd.R_far (p := ⟨gb597, 1, none⟩) (Kd.R_far (p := ⟨gb597, 0, none⟩) (Kd.R_types HO574.out BK597.out (by decide)) (fun _ hk => hk.2) (.slice Ao37 t590.length co37)) (fun _ hk => hk.2) (.slice Ao42 t593.length co42)) (fun _ h_ => h_.1))) hb); have n2_ := am_ (Kd.R_below (by (with_reducible repeat (first | apply Kd.R_alloc | apply Kd.R_drewN | apply Kd.R_drew)); exact (Kd.R_mono (Kd.R_far (p := ⟨gb597, 1, none⟩) (Kd.R_far (p := ⟨gb597, 0, none⟩) (Kd.R_types HO577.out BK597.out (by decide)) (fun _ hk => hk.2) (.slice Ao37 t590.length co37)) (fun _ hk => hk.2) (.slice Ao42 t593.length co42)) (fun _ h_ => h_.1))) hb); have n3_ := am_ (Kd.R_below (by (with_reducible repeat (first | apply Kd.R_alloc | apply Kd.R_drewN | apply Kd.R_drew)); exact (Kd.R_mono (Kd.R_far (p := ⟨gb597, 1, none⟩) (Kd.R_far (p := ⟨gb597, 0, none⟩) (Kd.R_types HO580.out BK597.out (by decide)) (fun _ hk => hk.2) (.slice Ao37 t590.length co37)) (fun _ hk => hk.2) (.slice Ao42 t593.length co42)) (fun _ h_ => h_.1))) hb); have n4_ := am_ (Kd.R_below (by (with_reducible repeat (first | apply Kd.R_alloc | apply Kd.R_drewN | apply Kd.R_drew)); exact (Kd.R_mono (Kd.R_far (p := ⟨gb597, 1, none⟩) (Kd.R_far (p := ⟨gb597, 0, none⟩) (Kd.R_types HO585.out BK597.out (by decide)) (fun _ hk => hk.2) (.slice Ao37 t590.length co37)) (fun _ hk => hk.2) (.slice Ao42 t593.length co42)) (fun _ h_ => h_.1))) hb); have n5_ := am_ (Kd.R_below (by (with_reducible repeat (first | apply Kd.R_alloc | apply Kd.R_drewN | apply Kd.R_drew)); exact (Kd.R_mono (Kd.R_far (p := ⟨gb597, 1, none⟩) (Kd.R_far (p := ⟨gb597, 0, none⟩) (Kd.R_types HO588.out BK597.out (by decide)) (fun _ hk => hk.2) (.slice Ao37 t590.length co37)) (fun _ hk => hk.2) (.slice Ao42 t593.length co42)) (fun _ h_ => h_.1))) hb); have n6_ := am_ (Kd.R_below (by (with_reducible repeat (first | apply Kd.R_alloc | apply Kd.R_drewN | apply Kd.R_drew)); exact (Kd.R_mono (Kd.R_far (p := ⟨gb597, 1, none⟩) (Kd.R_far (p := ⟨gb597, 0, none⟩) (Kd.R_types HO592.out BK597.out (by decide)) (fun _ hk => hk.2) (.slice Ao37 t590.length co37)) (fun _ hk => hk.2) (.slice Ao42 t593.length co42)) (fun _ h_ => h_.1))) hb); have n7_ := am_ (Kd.R_below (by (with_reducible repeat (first | apply Kd.R_alloc | apply Kd.R_drewN | apply Kd.R_drew)); exact (Kd.R_mono (Kd.R_far (p := ⟨gb597, 1, none⟩) (Kd.R_far (p := ⟨gb597, 0, none⟩) (Kd.R_types HO595.out BK597.out (by decide)) (fun _ hk => hk.2) (.slice Ao37 t590.length co37)) (fun _ hk => hk.2) (.slice Ao42 t593.length co42)) (fun _ h_ => h_.1))) hb); have n8_ := am_ (blk_below (g := gb567) (o := .cells #[.slice A0_0 l0_0.length c0_0, .slice A0_1 l0_1.length c0_1] 24 (0, 0)) (by (with_reducible repeat (first | refine blk_drewN ?_ _ | refine blk_drew ?_ | refine blk_alloc ?_ _)); refine blk_far ?_ NB567_597.out _; (with_reducible repeat (first | refine blk_drewN ?_ _ | refine blk_drew ?_ | refine blk_alloc ?_ _)); refine blk_far ?_ NB567_597.out _; (with_reducible repeat (first | refine blk_drewN ?_ _ | refine blk_drew ?_ | refine blk_alloc ?_ _)); exact BK567.out) hb); have n9_ := am_ (blk_below (g := gb582) (o := .cells #[.slice Ao21 t575.length co21, .slice Ao24 t578.length co24] 27 (0, 0)) (by (with_reducible repeat (first | refine blk_drewN ?_ _ | refine blk_drew ?_ | refine blk_alloc ?_ _)); refine blk_far ?_ NB582_597.out _; (with_reducible repeat (first | refine blk_drewN ?_ _ | refine blk_drew ?_ | refine blk_alloc ?_ _)); refine blk_far ?_ NB582_597.out _; (with_reducible repeat (first | refine blk_drewN ?_ _ | refine blk_drew ?_ | refine blk_alloc ?_ _)); exact BK582.out) hb); have n10_ := am_ (blk_below (g := gb589) (o := .cells #[.slice Ao28 t583.length co28, .slice Ao32 t586.length co32] 27 (0, 0)) (by (with_reducible repeat (first | refine blk_drewN ?_ _ | refine blk_drew ?_ | refine blk_alloc ?_ _)); refine blk_far ?_ NB589_597.out _; (with_reducible repeat (first | refine blk_drewN ?_ _ | refine blk_drew ?_ | refine blk_alloc ?_ _)); refine blk_far ?_ NB589_597.out _; (with_reducible repeat (first | refine blk_drewN ?_ _ | refine blk_drew ?_ | refine blk_alloc ?_ _)); exact BK589.out) hb); have n11_ := am_ (blk_below (g := gb597) (o := .cells #[.slice Ao37 t590.length co37, .slice Ao42 t593.length co42] 27 (0, 0)) (by (with_reducible repeat (first | refine blk_drewN ?_ _ | refine blk_drew ?_ | refine blk_alloc ?_ _)); refine blk_put (cs := #[.slice Ao37 t590.length co37, .slice none 0 0]) ?_ 1 _ rfl; (with_reducible repeat (first | refine blk_drewN ?_ _ | refine blk_drew ?_ | refine blk_alloc ?_ _)); refine blk_put (cs := #[.slice none 0 0, .slice none 0 0]) ?_ 0 _ rfl; (with_reducible repeat (first | refine blk_drewN ?_ _ | refine blk_drew ?_ | refine blk_alloc ?_ _)); exact BK597.out) hb); have n12_ := am_ (below_step (by repeat (first | (with_reducible first | exact HB.out | apply below_alloc | apply pw_below_drewN | apply below_drew1 | refine below_set ?_ GE567.out | refine below_set ?_ GE582.out | refine below_set ?_ GE589.out | refine below_set ?_ GE597.out) | exact HB.out)) hb); clear HO571; clear HO574; clear HO577; clear HO580; clear HO585; clear HO588; clear HO592; clear HO595; clear BK567; clear BK582; clear BK589; clear BK597; clear HB; have HO571 := n0_; have HO574 := n1_; have HO577 := n2_; have HO580 := n3_; have HO585 := n4_; have HO588 := n5_; have HO592 := n6_; have HO595 := n7_; have BK567 := n8_; have BK582 := n9_; have BK589 := n10_; have BK597 := n11_; have HB := n12_; clear n0_ n1_ n2_ n3_ n4_ n5_ n6_ n7_ n8_ n9_ n10_ n11_ n12_; (try clear hb); (try clear hb2); (try clear hk); (try clear hi)))
    go_meet
    case rel => exact ⟨_, (true), (by first | rfl | (simp; done) | (simp [*]; done)), H', ⟨by first | omega | exact Nat.le_refl _⟩, ⟨by (with_reducible repeat (first | apply Kd.R_alloc | apply Kd.R_drewN | apply Kd.R_drew)); exact Kd.R_mono HO577.out (fun _ hk => ⟨hk.1.1.2.2.1, hk.1.1.2.2.2.1, hk.1.1.2.2.2.2, hk.1.2, hk.2⟩)⟩, ⟨by (with_reducible repeat (first | apply Kd.R_alloc | apply Kd.R_drewN | apply Kd.R_drew)); exact Kd.R_mono HO580.out (fun _ hk => ⟨hk.1.1.2.2.1, hk.1.1.2.2.2.1, hk.1.1.2.2.2.2, hk.1.2, hk.2⟩)⟩, ⟨by (with_reducible repeat (first | apply Kd.R_alloc | apply Kd.R_drewN | apply Kd.R_drew)); exact Kd.R_mono HO585.out (fun _ hk => ⟨hk.1.1.2.2.1, hk.1.1.2.2.2.1, hk.1.1.2.2.2.2, hk.1.2, hk.2⟩)⟩, ⟨by (with_reducible repeat (first | apply Kd.R_alloc | apply Kd.R_drewN | apply Kd.R_drew)); exact Kd.R_mono HO588.out (fun _ hk => ⟨hk.1.1.2.2.1, hk.1.1.2.2.2.1, hk.1.1.2.2.2.2, hk.1.2, hk.2⟩)⟩, ⟨by (with_reducible repeat (first | apply Kd.R_alloc | apply Kd.R_drewN | apply Kd.R_drew)); exact Kd.R_mono HO592.out (fun _ hk => ⟨hk.1.1.1.2, hk.1.1.2, hk.1.2, hk.2, hk.1.1.1.1.1.1⟩)⟩, ⟨by (with_reducible repeat (first | apply Kd.R_alloc | apply Kd.R_drewN | apply Kd.R_drew)); exact Kd.R_mono HO595.out (fun _ hk => ⟨hk.1.1.1.2, hk.1.1.2, hk.1.2, hk.2, hk.1.1.1.1.1.1⟩)⟩, ⟨by (with_reducible repeat (first | refine blk_drewN ?_ _ | refine blk_drew ?_ | refine blk_alloc ?_ _)); exact BK567.out⟩, ⟨by (with_reducible repeat (first | refine blk_drewN ?_ _ | refine blk_drew ?_ | refine blk_alloc ?_ _)); exact BK582.out⟩, ⟨by (with_reducible repeat (first | refine blk_drewN ?_ _ | refine blk_drew ?_ | refine blk_alloc ?_ _)); exact BK589.out⟩, ⟨by (with_reducible repeat (first | refine blk_drewN ?_ _ | refine blk_drew ?_ | refine blk_alloc ?_ _)); exact BK597.out⟩, ⟨by repeat (first | (with_reducible first | exact HB.out | apply below_alloc | apply pw_below_drewN | apply below_drew1 | refine below_set ?_ GE567.out | refine below_set ?_ GE582.out | refine below_set ?_ GE589.out | refine below_set ?_ GE597.out) | exact HB.out)⟩⟩
  case rest =>
   clear HC11
   try clear c1
   try clear c2
   try clear p2
   try clear c3
   try clear c3b0
   try clear c4
   try clear c5
   try clear c6
   try clear c14
   try clear c15
   try clear c17
   try clear c19
   try clear c22
   try clear c29
   try clear c30
   try clear c38
   try clear c39
   try clear c40
   try clear c44
   try clear c45
   try clear c46
   try clear c47
   try clear c49
   try clear c50
   try clear c53
   try clear c54
   try clear c55
   try clear c57
   try clear c58
   try clear hcz13_0
   try clear hcz13_1
   try clear hcz15_0
   try clear hcz15_1
   try clear hcz23_0
   try clear hcz23_1
   try clear hcz25_0
   try clear hcz25_1
   try clear hcz31_0
   try clear hcz31_1
   try clear hcz34_0
   try clear hcz34_1
   try clear hcz41_0
   try clear hcz41_1
   try clear hcz48_0
   try clear hcz48_1
   try clear hcz51_0
   try clear hcz51_1
   try clear hcz56_0
   try clear hcz56_1
   try clear hcz59_0
   try clear hcz59_1
   try clear hcz5_0
   try clear hcz5_1
   try clear hfz13_0
   try clear hfz13_1
   try clear hfz15_0
   try clear hfz15_1
   try clear hfz23_0
   try clear hfz23_1
   try clear hfz25_0
   try clear hfz25_1
   try clear hfz31_0
   try clear hfz31_1
   try clear hfz34_0
   try clear hfz34_1
   try clear hfz41_0
   try clear hfz41_1
   try clear hfz48_0
   try clear hfz48_1
   try clear hfz51_0
   try clear hfz51_1
   try clear hfz56_0
   try clear hfz56_1
   try clear hfz59_0
   try clear hfz59_1
   try clear hfz5_0
   try clear hfz5_1
   obtain ⟨kq, x40_10, rfl, HA, HJ10, HO_583000, HO_583001, HO_590000, HO_590001, HO_598000, HO_598001, BK567, BK582, BK589, BK597, HB⟩ := hcut
   cases kq with
   | zero => exact absurd HA.out (by simp [laws_FnExactTurnLoop.j0])
   | succ kj10 =>
    have H := HA.out
    clear HA
    simp only [laws_FnExactTurnLoop.j0] at H
    by_cases c61 : x40_10 = true
    ·subst c61
     have H1 : (some false) = some r := by rw [if_pos rfl] at H; exact H
     clear H
     have H := H1
     clear H1
     obtain rfl := Option.some.inj H
     go_wp2
     go_ret
     exact ⟨by first | rfl | (simp [errW_none, errW_some] <;> rfl) | (simp [*, errW_none, errW_some] <;> rfl), by repeat (first | (with_reducible first | exact HB.out | apply below_alloc | apply pw_below_drewN | apply below_drew1 | refine below_set ?_ GE567.out | refine below_set ?_ GE582.out | refine below_set ?_ GE589.out | refine below_set ?_ GE597.out) | exact HB.out)⟩
    ·replace c61 := Bool.eq_false_iff.mpr c61
     subst c61
     have H1 : ((laws_toLasso.f kj10 l0_0 l0_1).bind fun bt599 => ((laws_eqLasso.f kj10 t583 t586 bt599.1 bt599.2).bind fun t605 => (if t605 = true then ((laws_markLasso.f kj10 t583 t586 1).bind fun bt606 => (if bt606.1 < 0 then (laws_FnExactTurnLoop.j1 kj10 t581 true l0_0 l0_1 t575 t578 t590 t593) else ((laws_eqLasso.f kj10 t590 t593 t575 t578).bind fun t609 => (if t609 = true then (laws_FnExactTurnLoop.j1 kj10 t581 (t596 != t581) l0_0 l0_1 t575 t578 t590 t593) else (laws_FnExactTurnLoop.j1 kj10 t581 true l0_0 l0_1 t575 t578 t590 t593))))) else (some false)))) = some r := by rw [if_neg (show ¬ (false = true) by decide)] at H; exact H
     clear H
     have H := H1
     clear H1
     replace H := Option.bind_eq_some_iff.mp H
     obtain ⟨⟨t599, t602⟩, A620, H⟩ := H
     replace H : ((laws_eqLasso.f kj10 t583 t586 t599 t602).bind fun t605 => (if t605 = true then ((laws_markLasso.f kj10 t583 t586 1).bind fun bt606 => (if bt606.1 < 0 then (laws_FnExactTurnLoop.j1 kj10 t581 true l0_0 l0_1 t575 t578 t590 t593) else ((laws_eqLasso.f kj10 t590 t593 t575 t578).bind fun t609 => (if t609 = true then (laws_FnExactTurnLoop.j1 kj10 t581 (t596 != t581) l0_0 l0_1 t575 t578 t590 t593) else (laws_FnExactTurnLoop.j1 kj10 t581 true l0_0 l0_1 t575 t578 t590 t593))))) else (some false))) = some r := H
     have A62 := am_ A620
     clear A620
     replace H := Option.bind_eq_some_iff.mp H
     obtain ⟨t605, A630, H⟩ := H
     replace H : (if t605 = true then ((laws_markLasso.f kj10 t583 t586 1).bind fun bt606 => (if bt606.1 < 0 then (laws_FnExactTurnLoop.j1 kj10 t581 true l0_0 l0_1 t575 t578 t590 t593) else ((laws_eqLasso.f kj10 t590 t593 t575 t578).bind fun t609 => (if t609 = true then (laws_FnExactTurnLoop.j1 kj10 t581 (t596 != t581) l0_0 l0_1 t575 t578 t590 t593) else (laws_FnExactTurnLoop.j1 kj10 t581 true l0_0 l0_1 t575 t578 t590 t593))))) else (some false)) = some r := H
     have A63 := am_ A630
     clear A630
     by_cases c64 : t605 = true
     ·subst c64
      have H1 : ((laws_markLasso.f kj10 t583 t586 1).bind fun bt606 => (if bt606.1 < 0 then (laws_FnExactTurnLoop.j1 kj10 t581 true l0_0 l0_1 t575 t578 t590 t593) else ((laws_eqLasso.f kj10 t590 t593 t575 t578).bind fun t609 => (if t609 = true then (laws_FnExactTurnLoop.j1 kj10 t581 (t596 != t581) l0_0 l0_1 t575 t578 t590 t593) else (laws_FnExactTurnLoop.j1 kj10 t581 true l0_0 l0_1 t575 t578 t590 t593))))) = some r := by rw [if_pos rfl] at H; exact H
      clear H
      have H := H1
      clear H1
      replace H := Option.bind_eq_some_iff.mp H
      obtain ⟨⟨t606, t607, t608⟩, A650, H⟩ := H
      replace H : (if t606 < 0 then (laws_FnExactTurnLoop.j1 kj10 t581 true l0_0 l0_1 t575 t578 t590 t593) else ((laws_eqLasso.f kj10 t590 t593 t575 t578).bind fun t609 => (if t609 = true then (laws_FnExactTurnLoop.j1 kj10 t581 (t596 != t581) l0_0 l0_1 t575 t578 t590 t593) else (laws_FnExactTurnLoop.j1 kj10 t581 true l0_0 l0_1 t575 t578 t590 t593)))) = some r := H
      have A65 := am_ A650
      clear A650
      have HC66 := am_ H
      clear H
      try go_wp2
      have n0_ := am_ (Kd.R_drew HO_583000.out)
      have n1_ := am_ (Kd.R_drew HO_583001.out)
      have n2_ := am_ (Kd.R_drew HO_590000.out)
      have n3_ := am_ (Kd.R_drew HO_590001.out)
      have n4_ := am_ (Kd.R_drew HO_598000.out)
      have n5_ := am_ (Kd.R_drew HO_598001.out)
      have n6_ := am_ (blk_drew BK567.out)
      have n7_ := am_ (blk_drew BK582.out)
      have n8_ := am_ (blk_drew BK589.out)
      have n9_ := am_ (blk_drew BK597.out)
      have n10_ := am_ (below_drew1 HB.out)
      clear HO_583000
      clear HO_583001
      clear HO_590000
      clear HO_590001
      clear HO_598000
      clear HO_598001
      clear BK567
      clear BK582
      clear BK589
      clear BK597
      clear HB
      have HO_583000 := n0_
      have HO_583001 := n1_
      have HO_590000 := n2_
      have HO_590001 := n3_
      have HO_598000 := n4_
      have HO_598001 := n5_
      have BK567 := n6_
      have BK582 := n7_
      have BK589 := n8_
      have BK597 := n9_
      have HB := n10_
      clear n0_ n1_ n2_ n3_ n4_ n5_ n6_ n7_ n8_ n9_ n10_
      refine start_ (n := 5) (S := fun w' => w'.cell? ⟨gb589, 0, none⟩ = some (.slice Ao28 t583.length co28) ∧ w'.cell? ⟨gb589, 1, none⟩ = some (.slice Ao32 t586.length co32) ∧ w'.cell? ⟨gb567, 0, none⟩ = some (.slice A0_0 l0_0.length c0_0) ∧ w'.cell? ⟨gb567, 1, none⟩ = some (.slice A0_1 l0_1.length c0_1)) (ds := []) #[false, false, false, false, false] (by kernel_rfl) rfl rfl ⟨(blk_cell BK589.out 0).trans rfl, (blk_cell BK589.out 1).trans rfl, (blk_cell BK567.out 0).trans rfl, (blk_cell BK567.out 1).trans rfl⟩ (fun hHeld => ?_)
      generalize wc.drew = w67 at HO_583000 HO_583001 HO_590000 HO_590001 HO_598000 HO_598001 BK567 BK582 BK589 BK597 HB hHeld ⊢
      refine take_ (i := 0) (N := some 41) (v := ?_) (a' := ?_) #[true, false, false, false, false] rfl rfl (by kernel_rfl) (fun _ _ _ h => h) (Or.inl ⟨by rfl, ?_⟩) hHeld ?_ ?_
      rotate_left
      ·rintro w' ⟨s0, s1, s2, s3⟩
       go_simp
       with_reducible rfl
      rotate_left
      ·simp only [Act.put, List.setIfInBounds_toArray, List.set_cons_zero, List.set_cons_succ, i64_w, i32_w]
       rfl
      refine take_ (i := 1) (N := some 42) (v := ?_) (a' := ?_) #[true, true, false, false, false] rfl rfl (by kernel_rfl) (fun _ _ _ h => h) (Or.inl ⟨by rfl, ?_⟩) hHeld ?_ ?_
      rotate_left
      ·rintro w' ⟨s0, s1, s2, s3⟩
       go_simp
       with_reducible rfl
      rotate_left
      ·simp only [Act.put, List.setIfInBounds_toArray, List.set_cons_zero, List.set_cons_succ, i64_w, i32_w]
       rfl
      refine one_ (i := 2) (N := some 43) #[true, true, true, false, false] rfl rfl (by kernel_rfl) (by decide) (fun K hK => ?_)
      refine goes_ Try.func17 (by kernel_rfl) rfl #[.agg #[.slice A0_0 l0_0.length c0_0, .slice A0_1 l0_1.length c0_1]] (by rfl) rfl rfl (by (try simp only [List.map_toArray, List.map_cons, List.map_nil]); first | done | rfl | (simp only [List.length_drop, List.length_take]; rfl)) ?_
      with_reducible refine (laws_toLasso.calls kj10 _ _ l0_0 _ _ l0_1 t599 t602 _ ?side1 ?side2 ?side3 ?side4 A62.out).mono ?_
      (case side1 => repeat (first | exact (Kd.C_below HR0_0.out HB.out) | (with_reducible first | refine Kd.C_alloc ?_ _ | refine Kd.C_drewN ?_ _ | refine Kd.C_drew ?_)))
      (case side2 => exact HC0_0.out)
      (case side3 => repeat (first | exact (Kd.C_below HR0_1.out HB.out) | (with_reducible first | refine Kd.C_alloc ?_ _ | refine Kd.C_drewN ?_ _ | refine Kd.C_drew ?_)))
      (case side4 => exact HC0_1.out)
      rintro e w68 ⟨v600, v603, rfl, ho0, ho1, hb⟩
      refine ⟨_, rfl, ?_⟩
      have n0_ := am_ (Kd.R_mono (Kd.R_told (Kd.R_told (Kd.R_old (by (with_reducible repeat (first | apply Kd.R_alloc | apply Kd.R_drewN | apply Kd.R_drew)); exact HO_583000.out) hb) (Kd.R_base ho0)) (Kd.R_base ho1)) (fun _ h_ => h_.1))
      have n1_ := am_ (Kd.R_mono (Kd.R_told (Kd.R_told (Kd.R_old (by (with_reducible repeat (first | apply Kd.R_alloc | apply Kd.R_drewN | apply Kd.R_drew)); exact HO_583001.out) hb) (Kd.R_base ho0)) (Kd.R_base ho1)) (fun _ h_ => h_.1))
      have n2_ := am_ (Kd.R_mono (Kd.R_told (Kd.R_told (Kd.R_old (by (with_reducible repeat (first | apply Kd.R_alloc | apply Kd.R_drewN | apply Kd.R_drew)); exact HO_590000.out) hb) (Kd.R_base ho0)) (Kd.R_base ho1)) (fun _ h_ => h_.1))
      have n3_ := am_ (Kd.R_mono (Kd.R_told (Kd.R_told (Kd.R_old (by (with_reducible repeat (first | apply Kd.R_alloc | apply Kd.R_drewN | apply Kd.R_drew)); exact HO_590001.out) hb) (Kd.R_base ho0)) (Kd.R_base ho1)) (fun _ h_ => h_.1))
      have n4_ := am_ (Kd.R_mono (Kd.R_told (Kd.R_told (Kd.R_old (by (with_reducible repeat (first | apply Kd.R_alloc | apply Kd.R_drewN | apply Kd.R_drew)); exact HO_598000.out) hb) (Kd.R_base ho0)) (Kd.R_base ho1)) (fun _ h_ => h_.1))
      have n5_ := am_ (Kd.R_mono (Kd.R_told (Kd.R_told (Kd.R_old (by (with_reducible repeat (first | apply Kd.R_alloc | apply Kd.R_drewN | apply Kd.R_drew)); exact HO_598001.out) hb) (Kd.R_base ho0)) (Kd.R_base ho1)) (fun _ h_ => h_.1))
      have n6_ := am_ (Kd.R_lower (Kd.R_new' (Kd.R_new' (Kd.R_new' (Kd.R_new' (Kd.R_new' (Kd.R_new' ho0 (Kd.R_lt (by (with_reducible repeat (first | apply Kd.R_alloc | apply Kd.R_drewN | apply Kd.R_drew)); exact HO_583000.out))) (Kd.R_lt (by (with_reducible repeat (first | apply Kd.R_alloc | apply Kd.R_drewN | apply Kd.R_drew)); exact HO_583001.out))) (Kd.R_lt (by (with_reducible repeat (first | apply Kd.R_alloc | apply Kd.R_drewN | apply Kd.R_drew)); exact HO_590000.out))) (Kd.R_lt (by (with_reducible repeat (first | apply Kd.R_alloc | apply Kd.R_drewN | apply Kd.R_drew)); exact HO_590001.out))) (Kd.R_lt (by (with_reducible repeat (first | apply Kd.R_alloc | apply Kd.R_drewN | apply Kd.R_drew)); exact HO_598000.out))) (Kd.R_lt (by (with_reducible repeat (first | apply Kd.R_alloc | apply Kd.R_drewN | apply Kd.R_drew)); exact HO_598001.out))) (below_size (by repeat (first | (with_reducible first | exact HB.out | apply below_alloc | apply pw_below_drewN | apply below_drew1 | refine below_set ?_ GE567.out | refine below_set ?_ GE582.out | refine below_set ?_ GE589.out | refine below_set ?_ GE597.out) | exact HB.out))))
      have n7_ := am_ (Kd.R_lower (Kd.R_new' (Kd.R_new' (Kd.R_new' (Kd.R_new' (Kd.R_new' (Kd.R_new' ho1 (Kd.R_lt (by (with_reducible repeat (first | apply Kd.R_alloc | apply Kd.R_drewN | apply Kd.R_drew)); exact HO_583000.out))) (Kd.R_lt (by (with_reducible repeat (first | apply Kd.R_alloc | apply Kd.R_drewN | apply Kd.R_drew)); exact HO_583001.out))) (Kd.R_lt (by (with_reducible repeat (first | apply Kd.R_alloc | apply Kd.R_drewN | apply Kd.R_drew)); exact HO_590000.out))) (Kd.R_lt (by (with_reducible repeat (first | apply Kd.R_alloc | apply Kd.R_drewN | apply Kd.R_drew)); exact HO_590001.out))) (Kd.R_lt (by (with_reducible repeat (first | apply Kd.R_alloc | apply Kd.R_drewN | apply Kd.R_drew)); exact HO_598000.out))) (Kd.R_lt (by (with_reducible repeat (first | apply Kd.R_alloc | apply Kd.R_drewN | apply Kd.R_drew)); exact HO_598001.out))) (below_size (by repeat (first | (with_reducible first | exact HB.out | apply below_alloc | apply pw_below_drewN | apply below_drew1 | refine below_set ?_ GE567.out | refine below_set ?_ GE582.out | refine below_set ?_ GE589.out | refine below_set ?_ GE597.out) | exact HB.out))))
      have n8_ := am_ (blk_below (g := gb567) (o := .cells #[.slice A0_0 l0_0.length c0_0, .slice A0_1 l0_1.length c0_1] 24 (0, 0)) (by (with_reducible repeat (first | refine blk_drewN ?_ _ | refine blk_drew ?_ | refine blk_alloc ?_ _)); exact BK567.out) hb)
      have n9_ := am_ (blk_below (g := gb582) (o := .cells #[.slice Ao21 t575.length co21, .slice Ao24 t578.length co24] 27 (0, 0)) (by (with_reducible repeat (first | refine blk_drewN ?_ _ | refine blk_drew ?_ | refine blk_alloc ?_ _)); exact BK582.out) hb)
      have n10_ := am_ (blk_below (g := gb589) (o := .cells #[.slice Ao28 t583.length co28, .slice Ao32 t586.length co32] 27 (0, 0)) (by (with_reducible repeat (first | refine blk_drewN ?_ _ | refine blk_drew ?_ | refine blk_alloc ?_ _)); exact BK589.out) hb)
      have n11_ := am_ (blk_below (g := gb597) (o := .cells #[.slice Ao37 t590.length co37, .slice Ao42 t593.length co42] 27 (0, 0)) (by (with_reducible repeat (first | refine blk_drewN ?_ _ | refine blk_drew ?_ | refine blk_alloc ?_ _)); exact BK597.out) hb)
      have n12_ := am_ (below_step (by repeat (first | (with_reducible first | exact HB.out | apply below_alloc | apply pw_below_drewN | apply below_drew1 | refine below_set ?_ GE567.out | refine below_set ?_ GE582.out | refine below_set ?_ GE589.out | refine below_set ?_ GE597.out) | exact HB.out)) hb)
      clear HO_583000
      clear HO_583001
      clear HO_590000
      clear HO_590001
      clear HO_598000
      clear HO_598001
      clear BK567
      clear BK582
      clear BK589
      clear BK597
      clear HB
      have HO_583000 := n0_
      have HO_583001 := n1_
      have HO_590000 := n2_
      have HO_590001 := n3_
      have HO_598000 := n4_
      have HO_598001 := n5_
      have HO601 := n6_
      have HO604 := n7_
      have BK567 := n8_
      have BK582 := n9_
      have BK589 := n10_
      have BK597 := n11_
      have HB := n12_
      clear n0_ n1_ n2_ n3_ n4_ n5_ n6_ n7_ n8_ n9_ n10_ n11_ n12_
      (try clear hb)
      (try clear hb2)
      (try clear hk)
      (try clear hi)
      (try clear ho0)
      (try clear ho1)
      obtain ⟨Ao69, co69, eo69⟩ := Kd.R_slice HO601.out
      (first | subst eo69 | (injection eo69 with f1_ f2_ f3_; have f4_ := f1_.symm; have f5_ := f3_.symm; clear f1_ f2_ f3_; subst f4_; subst f5_))
      obtain ⟨Ao70, co70, eo70⟩ := Kd.R_slice HO604.out
      (first | subst eo70 | (injection eo70 with f1_ f2_ f3_; have f4_ := f1_.symm; have f5_ := f3_.symm; clear f1_ f2_ f3_; subst f4_; subst f5_))
      refine hK.out _ _ ⟨(blk_cell BK589.out 0).trans rfl, (blk_cell BK589.out 1).trans rfl, (blk_cell BK567.out 0).trans rfl, (blk_cell BK567.out 1).trans rfl⟩ (fun hHeld => ?_)
      clear hK K
      refine norm_ (a' := ?_) ?_ ?_
      rotate_left
      ·show Act.put _ (some 43) _ = _
       simp only [Act.put, List.setIfInBounds_toArray, List.set_cons_zero, List.set_cons_succ, i64_w, i32_w]
       rfl
      refine one_ (i := 3) (N := some 44) #[true, true, true, true, false] rfl rfl (by kernel_rfl) (by decide) (fun K hK => ?_)
      refine goes_ Try.func19 (by kernel_rfl) rfl #[.agg #[.slice Ao28 t583.length co28, .slice Ao32 t586.length co32], .agg #[.slice Ao69 t599.length co69, .slice Ao70 t602.length co70]] (by rfl) rfl rfl (by (try simp only [List.map_toArray, List.map_cons, List.map_nil]); first | done | rfl | (simp only [List.length_drop, List.length_take]; rfl)) ?_
      with_reducible refine (laws_eqLasso.calls kj10 _ _ t583 _ _ t586 _ _ t599 _ _ t602 true _ ?side1 ?side2 ?side3 ?side4 ?side5 ?side6 ?side7 ?side8 A63.out).mono ?_
      (case side1 => repeat (first | exact (Kd.R_reads' HO_590000.out).2.2 | (with_reducible first | refine Kd.C_alloc ?_ _ | refine Kd.C_drewN ?_ _ | refine Kd.C_drew ?_)))
      (case side2 => exact (Kd.R_reads' HO_590000.out).2.1)
      (case side3 => repeat (first | exact (Kd.R_reads' HO_590001.out).2.2 | (with_reducible first | refine Kd.C_alloc ?_ _ | refine Kd.C_drewN ?_ _ | refine Kd.C_drew ?_)))
      (case side4 => exact (Kd.R_reads' HO_590001.out).2.1)
      (case side5 => repeat (first | exact (Kd.R_reads' HO601.out).2.2 | (with_reducible first | refine Kd.C_alloc ?_ _ | refine Kd.C_drewN ?_ _ | refine Kd.C_drew ?_)))
      (case side6 => exact (Kd.R_reads' HO601.out).2.1)
      (case side7 => repeat (first | exact (Kd.R_reads' HO604.out).2.2 | (with_reducible first | refine Kd.C_alloc ?_ _ | refine Kd.C_drewN ?_ _ | refine Kd.C_drew ?_)))
      (case side8 => exact (Kd.R_reads' HO604.out).2.1)
      rintro e w71 ⟨rfl, hb⟩
      refine ⟨_, rfl, ?_⟩
      have n0_ := am_ (Kd.R_below (by (with_reducible repeat (first | apply Kd.R_alloc | apply Kd.R_drewN | apply Kd.R_drew)); exact HO_583000.out) hb)
      have n1_ := am_ (Kd.R_below (by (with_reducible repeat (first | apply Kd.R_alloc | apply Kd.R_drewN | apply Kd.R_drew)); exact HO_583001.out) hb)
      have n2_ := am_ (Kd.R_below (by (with_reducible repeat (first | apply Kd.R_alloc | apply Kd.R_drewN | apply Kd.R_drew)); exact HO_590000.out) hb)
      have n3_ := am_ (Kd.R_below (by (with_reducible repeat (first | apply Kd.R_alloc | apply Kd.R_drewN | apply Kd.R_drew)); exact HO_590001.out) hb)
      have n4_ := am_ (Kd.R_below (by (with_reducible repeat (first | apply Kd.R_alloc | apply Kd.R_drewN | apply Kd.R_drew)); exact HO_598000.out) hb)
      have n5_ := am_ (Kd.R_below (by (with_reducible repeat (first | apply Kd.R_alloc | apply Kd.R_drewN | apply Kd.R_drew)); exact HO_598001.out) hb)
      have n6_ := am_ (Kd.R_below (by (with_reducible repeat (first | apply Kd.R_alloc | apply Kd.R_drewN | apply Kd.R_drew)); exact HO601.out) hb)
      have n7_ := am_ (Kd.R_below (by (with_reducible repeat (first | apply Kd.R_alloc | apply Kd.R_drewN | apply Kd.R_drew)); exact HO604.out) hb)
      have n8_ := am_ (blk_below (g := gb567) (o := .cells #[.slice A0_0 l0_0.length c0_0, .slice A0_1 l0_1.length c0_1] 24 (0, 0)) (by (with_reducible repeat (first | refine blk_drewN ?_ _ | refine blk_drew ?_ | refine blk_alloc ?_ _)); exact BK567.out) hb)
      have n9_ := am_ (blk_below (g := gb582) (o := .cells #[.slice Ao21 t575.length co21, .slice Ao24 t578.length co24] 27 (0, 0)) (by (with_reducible repeat (first | refine blk_drewN ?_ _ | refine blk_drew ?_ | refine blk_alloc ?_ _)); exact BK582.out) hb)
      have n10_ := am_ (blk_below (g := gb589) (o := .cells #[.slice Ao28 t583.length co28, .slice Ao32 t586.length co32] 27 (0, 0)) (by (with_reducible repeat (first | refine blk_drewN ?_ _ | refine blk_drew ?_ | refine blk_alloc ?_ _)); exact BK589.out) hb)
      have n11_ := am_ (blk_below (g := gb597) (o := .cells #[.slice Ao37 t590.length co37, .slice Ao42 t593.length co42] 27 (0, 0)) (by (with_reducible repeat (first | refine blk_drewN ?_ _ | refine blk_drew ?_ | refine blk_alloc ?_ _)); exact BK597.out) hb)
      have n12_ := am_ (below_step (by repeat (first | (with_reducible first | exact HB.out | apply below_alloc | apply pw_below_drewN | apply below_drew1 | refine below_set ?_ GE567.out | refine below_set ?_ GE582.out | refine below_set ?_ GE589.out | refine below_set ?_ GE597.out) | exact HB.out)) hb)
      clear HO_583000
      clear HO_583001
      clear HO_590000
      clear HO_590001
      clear HO_598000
      clear HO_598001
      clear HO601
      clear HO604
      clear BK567
      clear BK582
      clear BK589
      clear BK597
      clear HB
      have HO_583000 := n0_
      have HO_583001 := n1_
      have HO_590000 := n2_
      have HO_590001 := n3_
      have HO_598000 := n4_
      have HO_598001 := n5_
      have HO601 := n6_
      have HO604 := n7_
      have BK567 := n8_
      have BK582 := n9_
      have BK589 := n10_
      have BK597 := n11_
      have HB := n12_
      clear n0_ n1_ n2_ n3_ n4_ n5_ n6_ n7_ n8_ n9_ n10_ n11_ n12_
      (try clear hb)
      (try clear hb2)
      (try clear hk)
      (try clear hi)
      refine hK.out _ _ ⟨(blk_cell BK589.out 0).trans rfl, (blk_cell BK589.out 1).trans rfl, (blk_cell BK567.out 0).trans rfl, (blk_cell BK567.out 1).trans rfl⟩ (fun hHeld => ?_)
      clear hK K
      refine norm_ (a' := ?_) ?_ ?_
      rotate_left
      ·show Act.put _ (some 44) _ = _
       simp only [Act.put, List.setIfInBounds_toArray, List.set_cons_zero, List.set_cons_succ, i64_w, i32_w]
       rfl
      refine pure_ (i := 4) (N := some 45) (v := ?_) (a' := ?_) #[true, true, true, true, true] rfl rfl (by kernel_rfl) (fun _ _ _ h => h) (Or.inl ⟨by rfl, ?_⟩) ?_ ?_
      rotate_left
      ·intro w'
       go_simp
       with_reducible rfl
      rotate_left
      ·simp only [Act.put, List.setIfInBounds_toArray, List.set_cons_zero, List.set_cons_succ, i64_w, i32_w]
       rfl
      refine done_ (by kernel_rfl) ?_
      have hnb72 := NB589_567.out
      have hnc72 := NB567_589.out
      have hnb73 := NB589_582.out
      have hnc73 := NB582_589.out
      have hnb74 := NB589_597.out
      have hnc74 := NB597_589.out
      have hcz75_0 : w71.cell? ⟨gb589, 0, none⟩ = some (.slice Ao28 t583.length co28) := (blk_cell BK589.out 0).trans rfl
      have hcz75_1 : w71.cell? ⟨gb589, 1, none⟩ = some (.slice Ao32 t586.length co32) := (blk_cell BK589.out 1).trans rfl
      have hfz75_0 := blk_frozen BK589.out 0
      have hfz75_1 := blk_frozen BK589.out 1
      go_upto_region 14 with (first | ((with_reducible refine gate_callee (f := 50) rfl ?_); refine goesL_ (some 48) rfl rfl Try.func50 (by kernel_rfl) rfl #[.agg #[.slice Ao28 t583.length co28, .slice Ao32 t586.length co32], .int .i64 1] rfl (by (try simp only [List.map_toArray, List.map_cons, List.map_nil]); first | done | rfl | (simp only [List.length_drop, List.length_take]; rfl)) ?_; (with_reducible refine (laws_markLasso.calls kj10 (fun k_ => some k_ = (.slice Ao28 t583.length co28 : Value).ownBlock) (.slice Ao28 t583.length co28) t583 (fun k_ => some k_ = (.slice Ao32 t586.length co32 : Value).ownBlock) (.slice Ao32 t586.length co32) t586 1 t606 t607 t608 w _ ?side1 ?side2 ?side3 ?side4 ?side5 A65.out).mono ?_); (case side1 => repeat (first | (with_reducible first | exact HB.out | apply below_alloc | apply pw_below_drewN | apply below_drew1 | refine below_set ?_ GE567.out | refine below_set ?_ GE582.out | refine below_set ?_ GE589.out | refine below_set ?_ GE597.out) | exact HB.out)); (case side2 => exact Kd.R_tight rfl HO_590000.out); (case side3 => exact fun k_ e_ => (HO_590000.out.1 k_ e_.symm).1.1.2.2.1); (case side4 => exact Kd.R_tight rfl HO_590001.out); (case side5 => exact fun k_ e_ => (HO_590001.out.1 k_ e_.symm).1.1.2.2.1); rintro e w76 ⟨rfl, hy0, hy1, hb, hkp⟩; refine ⟨_, rfl, ?_⟩; have n0_ := am_ (Kd.R_mono (ok' := fun k_ => some k_ ≠ (.slice Ao24 t578.length co24 : Value).ownBlock ∧ some k_ ≠ (.slice Ao28 t583.length co28 : Value).ownBlock ∧ some k_ ≠ (.slice Ao32 t586.length co32 : Value).ownBlock ∧ some k_ ≠ (.slice Ao37 t590.length co37 : Value).ownBlock ∧ some k_ ≠ (.slice Ao42 t593.length co42 : Value).ownBlock ∧ some k_ ≠ (.slice Ao69 t599.length co69 : Value).ownBlock ∧ some k_ ≠ (.slice Ao70 t602.length co70 : Value).ownBlock) (Kd.R_keptB (HO_583000.out) hkp (fun k_ hk_ hs_ => Or.elim hs_ (fun e_ => (hk_.1.1.2.1) e_) (fun e_ => (hk_.1.1.2.2.1) e_))) (fun k_ hk_ => ⟨hk_.1.1.1.1, hk_.1.1.1.2.1, hk_.1.1.1.2.2.1, hk_.1.1.1.2.2.2.1, hk_.1.1.1.2.2.2.2, hk_.1.1.2, hk_.1.2⟩)); have n1_ := am_ (Kd.R_mono (ok' := fun k_ => some k_ ≠ (.slice Ao21 t575.length co21 : Value).ownBlock ∧ some k_ ≠ (.slice Ao28 t583.length co28 : Value).ownBlock ∧ some k_ ≠ (.slice Ao32 t586.length co32 : Value).ownBlock ∧ some k_ ≠ (.slice Ao37 t590.length co37 : Value).ownBlock ∧ some k_ ≠ (.slice Ao42 t593.length co42 : Value).ownBlock ∧ some k_ ≠ (.slice Ao69 t599.length co69 : Value).ownBlock ∧ some k_ ≠ (.slice Ao70 t602.length co70 : Value).ownBlock) (Kd.R_keptB (HO_583001.out) hkp (fun k_ hk_ hs_ => Or.elim hs_ (fun e_ => (hk_.1.1.2.1) e_) (fun e_ => (hk_.1.1.2.2.1) e_))) (fun k_ hk_ => ⟨hk_.1.1.1.1, hk_.1.1.1.2.1, hk_.1.1.1.2.2.1, hk_.1.1.1.2.2.2.1, hk_.1.1.1.2.2.2.2, hk_.1.1.2, hk_.1.2⟩)); have n2_ := am_ (Kd.R_reok rfl hy0 (fun k_ e_ => HO_590000.out.1 k_ e_)); have n3_ := am_ (Kd.R_reok rfl hy1 (fun k_ e_ => HO_590001.out.1 k_ e_)); have n4_ := am_ (Kd.R_mono (ok' := fun k_ => some k_ ≠ (.slice Ao21 t575.length co21 : Value).ownBlock ∧ some k_ ≠ (.slice Ao24 t578.length co24 : Value).ownBlock ∧ some k_ ≠ (.slice Ao28 t583.length co28 : Value).ownBlock ∧ some k_ ≠ (.slice Ao32 t586.length co32 : Value).ownBlock ∧ some k_ ≠ (.slice Ao42 t593.length co42 : Value).ownBlock ∧ some k_ ≠ (.slice Ao69 t599.length co69 : Value).ownBlock ∧ some k_ ≠ (.slice Ao70 t602.length co70 : Value).ownBlock) (Kd.R_keptB (HO_598000.out) hkp (fun k_ hk_ hs_ => Or.elim hs_ (fun e_ => (hk_.1.1.2.2.1) e_) (fun e_ => (hk_.1.1.2.2.2.1) e_))) (fun k_ hk_ => ⟨hk_.1.1.1.1, hk_.1.1.1.2.1, hk_.1.1.1.2.2.1, hk_.1.1.1.2.2.2.1, hk_.1.1.1.2.2.2.2, hk_.1.1.2, hk_.1.2⟩)); have n5_ := am_ (Kd.R_mono (ok' := fun k_ => some k_ ≠ (.slice Ao21 t575.length co21 : Value).ownBlock ∧ some k_ ≠ (.slice Ao24 t578.length co24 : Value).ownBlock ∧ some k_ ≠ (.slice Ao28 t583.length co28 : Value).ownBlock ∧ some k_ ≠ (.slice Ao32 t586.length co32 : Value).ownBlock ∧ some k_ ≠ (.slice Ao37 t590.length co37 : Value).ownBlock ∧ some k_ ≠ (.slice Ao69 t599.length co69 : Value).ownBlock ∧ some k_ ≠ (.slice Ao70 t602.length co70 : Value).ownBlock) (Kd.R_keptB (HO_598001.out) hkp (fun k_ hk_ hs_ => Or.elim hs_ (fun e_ => (hk_.1.1.2.2.1) e_) (fun e_ => (hk_.1.1.2.2.2.1) e_))) (fun k_ hk_ => ⟨hk_.1.1.1.1, hk_.1.1.1.2.1, hk_.1.1.1.2.2.1, hk_.1.1.1.2.2.2.1, hk_.1.1.1.2.2.2.2, hk_.1.1.2, hk_.1.2⟩)); have n6_ := am_ (blk_kept (by (with_reducible repeat (first | refine blk_drewN ?_ _ | refine blk_drew ?_ | refine blk_alloc ?_ _)); exact BK567.out) hkp (fun hs_ => Or.elim hs_ (fun e_ => (fun e_ => (Kd.R_ne HO_590000.out BK567.out (by decide)) e_) e_) (fun e_ => (fun e_ => (Kd.R_ne HO_590001.out BK567.out (by decide)) e_) e_))); have n7_ := am_ (blk_kept (by (with_reducible repeat (first | refine blk_drewN ?_ _ | refine blk_drew ?_ | refine blk_alloc ?_ _)); exact BK582.out) hkp (fun hs_ => Or.elim hs_ (fun e_ => (fun e_ => (Kd.R_ne HO_590000.out BK582.out (by decide)) e_) e_) (fun e_ => (fun e_ => (Kd.R_ne HO_590001.out BK582.out (by decide)) e_) e_))); have n8_ := am_ (blk_kept (by (with_reducible repeat (first | refine blk_drewN ?_ _ | refine blk_drew ?_ | refine blk_alloc ?_ _)); exact BK589.out) hkp (fun hs_ => Or.elim hs_ (fun e_ => (fun e_ => (Kd.R_ne HO_590000.out BK589.out (by decide)) e_) e_) (fun e_ => (fun e_ => (Kd.R_ne HO_590001.out BK589.out (by decide)) e_) e_))); have n9_ := am_ (blk_kept (by (with_reducible repeat (first | refine blk_drewN ?_ _ | refine blk_drew ?_ | refine blk_alloc ?_ _)); exact BK597.out) hkp (fun hs_ => Or.elim hs_ (fun e_ => (fun e_ => (Kd.R_ne HO_590000.out BK597.out (by decide)) e_) e_) (fun e_ => (fun e_ => (Kd.R_ne HO_590001.out BK597.out (by decide)) e_) e_))); have n10_ := am_ (Kd.R_mono (ok' := fun k_ => some k_ ≠ (.slice Ao21 t575.length co21 : Value).ownBlock ∧ some k_ ≠ (.slice Ao24 t578.length co24 : Value).ownBlock ∧ some k_ ≠ (.slice Ao28 t583.length co28 : Value).ownBlock ∧ some k_ ≠ (.slice Ao32 t586.length co32 : Value).ownBlock ∧ some k_ ≠ (.slice Ao37 t590.length co37 : Value).ownBlock ∧ some k_ ≠ (.slice Ao42 t593.length co42 : Value).ownBlock ∧ some k_ ≠ (.slice Ao70 t602.length co70 : Value).ownBlock) (Kd.R_keptB (HO601.out) hkp (fun k_ hk_ hs_ => Or.elim hs_ (fun e_ => (hk_.1.1.1.2) e_) (fun e_ => (hk_.1.1.2) e_))) (fun k_ hk_ => ⟨hk_.1.1.1.1.1.1.2, hk_.1.1.1.1.1.2, hk_.1.1.1.1.2, hk_.1.1.1.2, hk_.1.1.2, hk_.1.2, hk_.1.1.1.1.1.1.1⟩)); have n11_ := am_ (Kd.R_mono (ok' := fun k_ => some k_ ≠ (.slice Ao21 t575.length co21 : Value).ownBlock ∧ some k_ ≠ (.slice Ao24 t578.length co24 : Value).ownBlock ∧ some k_ ≠ (.slice Ao28 t583.length co28 : Value).ownBlock ∧ some k_ ≠ (.slice Ao32 t586.length co32 : Value).ownBlock ∧ some k_ ≠ (.slice Ao37 t590.length co37 : Value).ownBlock ∧ some k_ ≠ (.slice Ao42 t593.length co42 : Value).ownBlock ∧ some k_ ≠ (.slice Ao69 t599.length co69 : Value).ownBlock) (Kd.R_keptB (HO604.out) hkp (fun k_ hk_ hs_ => Or.elim hs_ (fun e_ => (hk_.1.1.1.2) e_) (fun e_ => (hk_.1.1.2) e_))) (fun k_ hk_ => ⟨hk_.1.1.1.1.1.1.2, hk_.1.1.1.1.1.2, hk_.1.1.1.1.2, hk_.1.1.1.2, hk_.1.1.2, hk_.1.2, hk_.1.1.1.1.1.1.1⟩)); have n12_ := am_ (hb); clear HO_583000; clear HO_583001; clear HO_590000; clear HO_590001; clear HO_598000; clear HO_598001; clear BK567; clear BK582; clear BK589; clear BK597; clear HO601; clear HO604; clear HB; have HO_583000 := n0_; have HO_583001 := n1_; have HO_590000 := n2_; have HO_590001 := n3_; have HO_598000 := n4_; have HO_598001 := n5_; have BK567 := n6_; have BK582 := n7_; have BK589 := n8_; have BK597 := n9_; have HO601 := n10_; have HO604 := n11_; have HB := n12_; clear n0_ n1_ n2_ n3_ n4_ n5_ n6_ n7_ n8_ n9_ n10_ n11_ n12_; (try clear hb); (try clear hkp); (try clear hy0); (try clear hy1)))
      (try simp only [Act.put, List.setIfInBounds_toArray, List.set_cons_zero, List.set_cons_succ])
      go_cut [61] (fun v61 wc => ∃ (kq : Nat) (x61_65 : Bool), v61 = .bool x61_65 ∧ Aside0 (laws_FnExactTurnLoop.j1 kq t581 x61_65 l0_0 l0_1 t575 t578 t590 t593 = some r) ∧ Aside0 (kq ≤ kj10) ∧ Aside0 (Kd.R (Kd.int .i64) 3 wc w.heap.size (fun k_ => some k_ ≠ ((.slice Ao24 t578.length co24) : Value).ownBlock ∧ some k_ ≠ ((.slice Ao28 t583.length co28) : Value).ownBlock ∧ some k_ ≠ ((.slice Ao32 t586.length co32) : Value).ownBlock ∧ some k_ ≠ ((.slice Ao37 t590.length co37) : Value).ownBlock ∧ some k_ ≠ ((.slice Ao42 t593.length co42) : Value).ownBlock) (.slice Ao21 t575.length co21) t575) ∧ Aside0 (Kd.R (Kd.int .i64) 3 wc w.heap.size (fun k_ => some k_ ≠ ((.slice Ao21 t575.length co21) : Value).ownBlock ∧ some k_ ≠ ((.slice Ao28 t583.length co28) : Value).ownBlock ∧ some k_ ≠ ((.slice Ao32 t586.length co32) : Value).ownBlock ∧ some k_ ≠ ((.slice Ao37 t590.length co37) : Value).ownBlock ∧ some k_ ≠ ((.slice Ao42 t593.length co42) : Value).ownBlock) (.slice Ao24 t578.length co24) t578) ∧ Aside0 (Kd.R (Kd.int .i64) 3 wc w.heap.size (fun k_ => some k_ ≠ ((.slice Ao21 t575.length co21) : Value).ownBlock ∧ some k_ ≠ ((.slice Ao24 t578.length co24) : Value).ownBlock ∧ some k_ ≠ ((.slice Ao32 t586.length co32) : Value).ownBlock ∧ some k_ ≠ ((.slice Ao37 t590.length co37) : Value).ownBlock ∧ some k_ ≠ ((.slice Ao42 t593.length co42) : Value).ownBlock) (.slice Ao28 t583.length co28) t607) ∧ Aside0 (Kd.R (Kd.int .i64) 3 wc w.heap.size (fun k_ => some k_ ≠ ((.slice Ao21 t575.length co21) : Value).ownBlock ∧ some k_ ≠ ((.slice Ao24 t578.length co24) : Value).ownBlock ∧ some k_ ≠ ((.slice Ao28 t583.length co28) : Value).ownBlock ∧ some k_ ≠ ((.slice Ao37 t590.length co37) : Value).ownBlock ∧ some k_ ≠ ((.slice Ao42 t593.length co42) : Value).ownBlock) (.slice Ao32 t586.length co32) t608) ∧ Aside0 (Kd.R (Kd.int .i64) 3 wc w.heap.size (fun k_ => some k_ ≠ ((.slice Ao21 t575.length co21) : Value).ownBlock ∧ some k_ ≠ ((.slice Ao24 t578.length co24) : Value).ownBlock ∧ some k_ ≠ ((.slice Ao28 t583.length co28) : Value).ownBlock ∧ some k_ ≠ ((.slice Ao32 t586.length co32) : Value).ownBlock ∧ some k_ ≠ ((.slice Ao42 t593.length co42) : Value).ownBlock) (.slice Ao37 t590.length co37) t590) ∧ Aside0 (Kd.R (Kd.int .i64) 3 wc w.heap.size (fun k_ => some k_ ≠ ((.slice Ao21 t575.length co21) : Value).ownBlock ∧ some k_ ≠ ((.slice Ao24 t578.length co24) : Value).ownBlock ∧ some k_ ≠ ((.slice Ao28 t583.length co28) : Value).ownBlock ∧ some k_ ≠ ((.slice Ao32 t586.length co32) : Value).ownBlock ∧ some k_ ≠ ((.slice Ao37 t590.length co37) : Value).ownBlock) (.slice Ao42 t593.length co42) t593) ∧ Aside0 (wc.heap[gb567]? = some (.cells #[(.slice A0_0 l0_0.length c0_0), (.slice A0_1 l0_1.length c0_1)] 24 (0, 0))) ∧ Aside0 (wc.heap[gb582]? = some (.cells #[(.slice Ao21 t575.length co21), (.slice Ao24 t578.length co24)] 27 (0, 0))) ∧ Aside0 (wc.heap[gb589]? = some (.cells #[(.slice Ao28 t583.length co28), (.slice Ao32 t586.length co32)] 27 (0, 0))) ∧ Aside0 (wc.heap[gb597]? = some (.cells #[(.slice Ao37 t590.length co37), (.slice Ao42 t593.length co42)] 27 (0, 0))) ∧ Aside0 (Below w.heap.size w wc))
      case first =>
       have H := HC66.out
       clear HC66
       by_cases c77 : t606 < 0
       ·rw [if_pos c77] at H
        have c77b0 : decide (t606 < 0) = true := decide_eq_true c77
        clear c77
        (first | rw [c77b0] | (simp only [i64_w, i32_w]; rw [c77b0]) | skip)
        have H' := am_ H
        clear H
        go_wp2
        go_meet
        case rel => exact ⟨_, (true), (by first | rfl | (simp; done) | (simp [*]; done)), H', ⟨by have := HJ10.out; first | omega | exact Nat.le_refl _⟩, ⟨by (with_reducible repeat (first | apply Kd.R_alloc | apply Kd.R_drewN | apply Kd.R_drew)); exact Kd.R_mono HO_583000.out (fun _ hk => ⟨hk.1, hk.2.1, hk.2.2.1, hk.2.2.2.1, hk.2.2.2.2.1⟩)⟩, ⟨by (with_reducible repeat (first | apply Kd.R_alloc | apply Kd.R_drewN | apply Kd.R_drew)); exact Kd.R_mono HO_583001.out (fun _ hk => ⟨hk.1, hk.2.1, hk.2.2.1, hk.2.2.2.1, hk.2.2.2.2.1⟩)⟩, ⟨by (with_reducible repeat (first | apply Kd.R_alloc | apply Kd.R_drewN | apply Kd.R_drew)); exact Kd.R_mono HO_590000.out (fun _ hk => ⟨hk.1.1.1, hk.1.1.2.1, hk.1.1.2.2.1, hk.1.1.2.2.2.1, hk.1.1.2.2.2.2⟩)⟩, ⟨by (with_reducible repeat (first | apply Kd.R_alloc | apply Kd.R_drewN | apply Kd.R_drew)); exact Kd.R_mono HO_590001.out (fun _ hk => ⟨hk.1.1.1, hk.1.1.2.1, hk.1.1.2.2.1, hk.1.1.2.2.2.1, hk.1.1.2.2.2.2⟩)⟩, ⟨by (with_reducible repeat (first | apply Kd.R_alloc | apply Kd.R_drewN | apply Kd.R_drew)); exact Kd.R_mono HO_598000.out (fun _ hk => ⟨hk.1, hk.2.1, hk.2.2.1, hk.2.2.2.1, hk.2.2.2.2.1⟩)⟩, ⟨by (with_reducible repeat (first | apply Kd.R_alloc | apply Kd.R_drewN | apply Kd.R_drew)); exact Kd.R_mono HO_598001.out (fun _ hk => ⟨hk.1, hk.2.1, hk.2.2.1, hk.2.2.2.1, hk.2.2.2.2.1⟩)⟩, ⟨by (with_reducible repeat (first | refine blk_drewN ?_ _ | refine blk_drew ?_ | refine blk_alloc ?_ _)); exact BK567.out⟩, ⟨by (with_reducible repeat (first | refine blk_drewN ?_ _ | refine blk_drew ?_ | refine blk_alloc ?_ _)); exact BK582.out⟩, ⟨by (with_reducible repeat (first | refine blk_drewN ?_ _ | refine blk_drew ?_ | refine blk_alloc ?_ _)); exact BK589.out⟩, ⟨by (with_reducible repeat (first | refine blk_drewN ?_ _ | refine blk_drew ?_ | refine blk_alloc ?_ _)); exact BK597.out⟩, ⟨by repeat (first | (with_reducible first | exact HB.out | apply below_alloc | apply pw_below_drewN | apply below_drew1 | refine below_set ?_ GE567.out | refine below_set ?_ GE582.out | refine below_set ?_ GE589.out | refine below_set ?_ GE597.out) | exact HB.out)⟩⟩
       ·rw [if_neg c77] at H
        have c77b0 : decide (t606 < 0) = false := decide_eq_false c77
        clear c77
        (first | rw [c77b0] | (simp only [i64_w, i32_w]; rw [c77b0]) | skip)
        replace H := Option.bind_eq_some_iff.mp H
        obtain ⟨t609, A780, H⟩ := H
        replace H : (if t609 = true then (laws_FnExactTurnLoop.j1 kj10 t581 (t596 != t581) l0_0 l0_1 t575 t578 t590 t593) else (laws_FnExactTurnLoop.j1 kj10 t581 true l0_0 l0_1 t575 t578 t590 t593)) = some r := H
        have A78 := am_ A780
        clear A780
        by_cases c79 : t609 = true
        ·subst c79
         have H1 : (laws_FnExactTurnLoop.j1 kj10 t581 (t596 != t581) l0_0 l0_1 t575 t578 t590 t593) = some r := by rw [if_pos rfl] at H; exact H
         clear H
         have H := H1
         clear H1
         have H' := am_ H
         clear H
         have hnb80 := NB597_567.out
         have hnc80 := NB567_597.out
         have hnb81 := NB597_582.out
         have hnc81 := NB582_597.out
         have hnb82 := NB597_589.out
         have hnc82 := NB589_597.out
         have hcz83_0 : w76.cell? ⟨gb597, 0, none⟩ = some (.slice Ao37 t590.length co37) := (blk_cell BK597.out 0).trans rfl
         have hcz83_1 : w76.cell? ⟨gb597, 1, none⟩ = some (.slice Ao42 t593.length co42) := (blk_cell BK597.out 1).trans rfl
         have hfz83_0 := blk_frozen BK597.out 0
         have hfz83_1 := blk_frozen BK597.out 1
         have hnb84 := NB582_567.out
         have hnc84 := NB567_582.out
         have hnb85 := NB582_589.out
         have hnc85 := NB589_582.out
         have hcz86_0 : w76.cell? ⟨gb582, 0, none⟩ = some (.slice Ao21 t575.length co21) := (blk_cell BK582.out 0).trans rfl
         have hcz86_1 : w76.cell? ⟨gb582, 1, none⟩ = some (.slice Ao24 t578.length co24) := (blk_cell BK582.out 1).trans rfl
         have hfz86_0 := blk_frozen BK582.out 0
         have hfz86_1 := blk_frozen BK582.out 1
         go_wp2_with (first | (go_at_call 19; (with_reducible refine (laws_eqLasso.calls kj10 _ _ t590 _ _ t593 _ _ t575 _ _ t578 true _ ?side1 ?side2 ?side3 ?side4 ?side5 ?side6 ?side7 ?side8 A78.out).mono ?_); (case side1 => repeat (first | exact (Kd.R_reads' HO_598000.out).2.2 | (with_reducible first | refine Kd.C_alloc ?_ _ | refine Kd.C_drewN ?_ _ | refine Kd.C_drew ?_))); (case side2 => exact (Kd.R_reads' HO_598000.out).2.1); (case side3 => repeat (first | exact (Kd.R_reads' HO_598001.out).2.2 | (with_reducible first | refine Kd.C_alloc ?_ _ | refine Kd.C_drewN ?_ _ | refine Kd.C_drew ?_))); (case side4 => exact (Kd.R_reads' HO_598001.out).2.1); (case side5 => repeat (first | exact (Kd.R_reads' HO_583000.out).2.2 | (with_reducible first | refine Kd.C_alloc ?_ _ | refine Kd.C_drewN ?_ _ | refine Kd.C_drew ?_))); (case side6 => exact (Kd.R_reads' HO_583000.out).2.1); (case side7 => repeat (first | exact (Kd.R_reads' HO_583001.out).2.2 | (with_reducible first | refine Kd.C_alloc ?_ _ | refine Kd.C_drewN ?_ _ | refine Kd.C_drew ?_))); (case side8 => exact (Kd.R_reads' HO_583001.out).2.1); rintro e w87 ⟨rfl, hb⟩; have n0_ := am_ (Kd.R_below (by (with_reducible repeat (first | apply Kd.R_alloc | apply Kd.R_drewN | apply Kd.R_drew)); exact HO_583000.out) hb); have n1_ := am_ (Kd.R_below (by (with_reducible repeat (first | apply Kd.R_alloc | apply Kd.R_drewN | apply Kd.R_drew)); exact HO_583001.out) hb); have n2_ := am_ (Kd.R_below (by (with_reducible repeat (first | apply Kd.R_alloc | apply Kd.R_drewN | apply Kd.R_drew)); exact HO_590000.out) hb); have n3_ := am_ (Kd.R_below (by (with_reducible repeat (first | apply Kd.R_alloc | apply Kd.R_drewN | apply Kd.R_drew)); exact HO_590001.out) hb); have n4_ := am_ (Kd.R_below (by (with_reducible repeat (first | apply Kd.R_alloc | apply Kd.R_drewN | apply Kd.R_drew)); exact HO_598000.out) hb); have n5_ := am_ (Kd.R_below (by (with_reducible repeat (first | apply Kd.R_alloc | apply Kd.R_drewN | apply Kd.R_drew)); exact HO_598001.out) hb); have n6_ := am_ (Kd.R_below (by (with_reducible repeat (first | apply Kd.R_alloc | apply Kd.R_drewN | apply Kd.R_drew)); exact HO601.out) hb); have n7_ := am_ (Kd.R_below (by (with_reducible repeat (first | apply Kd.R_alloc | apply Kd.R_drewN | apply Kd.R_drew)); exact HO604.out) hb); have n8_ := am_ (blk_below (g := gb567) (o := .cells #[.slice A0_0 l0_0.length c0_0, .slice A0_1 l0_1.length c0_1] 24 (0, 0)) (by (with_reducible repeat (first | refine blk_drewN ?_ _ | refine blk_drew ?_ | refine blk_alloc ?_ _)); exact BK567.out) hb); have n9_ := am_ (blk_below (g := gb582) (o := .cells #[.slice Ao21 t575.length co21, .slice Ao24 t578.length co24] 27 (0, 0)) (by (with_reducible repeat (first | refine blk_drewN ?_ _ | refine blk_drew ?_ | refine blk_alloc ?_ _)); exact BK582.out) hb); have n10_ := am_ (blk_below (g := gb589) (o := .cells #[.slice Ao28 t583.length co28, .slice Ao32 t586.length co32] 27 (0, 0)) (by (with_reducible repeat (first | refine blk_drewN ?_ _ | refine blk_drew ?_ | refine blk_alloc ?_ _)); exact BK589.out) hb); have n11_ := am_ (blk_below (g := gb597) (o := .cells #[.slice Ao37 t590.length co37, .slice Ao42 t593.length co42] 27 (0, 0)) (by (with_reducible repeat (first | refine blk_drewN ?_ _ | refine blk_drew ?_ | refine blk_alloc ?_ _)); exact BK597.out) hb); have n12_ := am_ (below_step (by repeat (first | (with_reducible first | exact HB.out | apply below_alloc | apply pw_below_drewN | apply below_drew1 | refine below_set ?_ GE567.out | refine below_set ?_ GE582.out | refine below_set ?_ GE589.out | refine below_set ?_ GE597.out) | exact HB.out)) hb); clear HO_583000; clear HO_583001; clear HO_590000; clear HO_590001; clear HO_598000; clear HO_598001; clear HO601; clear HO604; clear BK567; clear BK582; clear BK589; clear BK597; clear HB; have HO_583000 := n0_; have HO_583001 := n1_; have HO_590000 := n2_; have HO_590001 := n3_; have HO_598000 := n4_; have HO_598001 := n5_; have HO601 := n6_; have HO604 := n7_; have BK567 := n8_; have BK582 := n9_; have BK589 := n10_; have BK597 := n11_; have HB := n12_; clear n0_ n1_ n2_ n3_ n4_ n5_ n6_ n7_ n8_ n9_ n10_ n11_ n12_; (try clear hb); (try clear hb2); (try clear hk); (try clear hi)))
         go_meet
         case rel => exact ⟨_, ((t596 != t581)), (by first | rfl | (simp; done) | (simp [*]; done)), H', ⟨by have := HJ10.out; first | omega | exact Nat.le_refl _⟩, ⟨by (with_reducible repeat (first | apply Kd.R_alloc | apply Kd.R_drewN | apply Kd.R_drew)); exact Kd.R_mono HO_583000.out (fun _ hk => ⟨hk.1, hk.2.1, hk.2.2.1, hk.2.2.2.1, hk.2.2.2.2.1⟩)⟩, ⟨by (with_reducible repeat (first | apply Kd.R_alloc | apply Kd.R_drewN | apply Kd.R_drew)); exact Kd.R_mono HO_583001.out (fun _ hk => ⟨hk.1, hk.2.1, hk.2.2.1, hk.2.2.2.1, hk.2.2.2.2.1⟩)⟩, ⟨by (with_reducible repeat (first | apply Kd.R_alloc | apply Kd.R_drewN | apply Kd.R_drew)); exact Kd.R_mono HO_590000.out (fun _ hk => ⟨hk.1.1.1, hk.1.1.2.1, hk.1.1.2.2.1, hk.1.1.2.2.2.1, hk.1.1.2.2.2.2⟩)⟩, ⟨by (with_reducible repeat (first | apply Kd.R_alloc | apply Kd.R_drewN | apply Kd.R_drew)); exact Kd.R_mono HO_590001.out (fun _ hk => ⟨hk.1.1.1, hk.1.1.2.1, hk.1.1.2.2.1, hk.1.1.2.2.2.1, hk.1.1.2.2.2.2⟩)⟩, ⟨by (with_reducible repeat (first | apply Kd.R_alloc | apply Kd.R_drewN | apply Kd.R_drew)); exact Kd.R_mono HO_598000.out (fun _ hk => ⟨hk.1, hk.2.1, hk.2.2.1, hk.2.2.2.1, hk.2.2.2.2.1⟩)⟩, ⟨by (with_reducible repeat (first | apply Kd.R_alloc | apply Kd.R_drewN | apply Kd.R_drew)); exact Kd.R_mono HO_598001.out (fun _ hk => ⟨hk.1, hk.2.1, hk.2.2.1, hk.2.2.2.1, hk.2.2.2.2.1⟩)⟩, ⟨by (with_reducible repeat (first | refine blk_drewN ?_ _ | refine blk_drew ?_ | refine blk_alloc ?_ _)); exact BK567.out⟩, ⟨by (with_reducible repeat (first | refine blk_drewN ?_ _ | refine blk_drew ?_ | refine blk_alloc ?_ _)); exact BK582.out⟩, ⟨by (with_reducible repeat (first | refine blk_drewN ?_ _ | refine blk_drew ?_ | refine blk_alloc ?_ _)); exact BK589.out⟩, ⟨by (with_reducible repeat (first | refine blk_drewN ?_ _ | refine blk_drew ?_ | refine blk_alloc ?_ _)); exact BK597.out⟩, ⟨by repeat (first | (with_reducible first | exact HB.out | apply below_alloc | apply pw_below_drewN | apply below_drew1 | refine below_set ?_ GE567.out | refine below_set ?_ GE582.out | refine below_set ?_ GE589.out | refine below_set ?_ GE597.out) | exact HB.out)⟩⟩
        ·replace c79 := Bool.eq_false_iff.mpr c79
         subst c79
         have H1 : (laws_FnExactTurnLoop.j1 kj10 t581 true l0_0 l0_1 t575 t578 t590 t593) = some r := by rw [if_neg (show ¬ (false = true) by decide)] at H; exact H
         clear H
         have H := H1
         clear H1
         have H' := am_ H
         clear H
         have hnb88 := NB597_567.out
         have hnc88 := NB567_597.out
         have hnb89 := NB597_582.out
         have hnc89 := NB582_597.out
         have hnb90 := NB597_589.out
         have hnc90 := NB589_597.out
         have hcz91_0 : w76.cell? ⟨gb597, 0, none⟩ = some (.slice Ao37 t590.length co37) := (blk_cell BK597.out 0).trans rfl
         have hcz91_1 : w76.cell? ⟨gb597, 1, none⟩ = some (.slice Ao42 t593.length co42) := (blk_cell BK597.out 1).trans rfl
         have hfz91_0 := blk_frozen BK597.out 0
         have hfz91_1 := blk_frozen BK597.out 1
         have hnb92 := NB582_567.out
         have hnc92 := NB567_582.out
         have hnb93 := NB582_589.out
         have hnc93 := NB589_582.out
         have hcz94_0 : w76.cell? ⟨gb582, 0, none⟩ = some (.slice Ao21 t575.length co21) := (blk_cell BK582.out 0).trans rfl
         have hcz94_1 : w76.cell? ⟨gb582, 1, none⟩ = some (.slice Ao24 t578.length co24) := (blk_cell BK582.out 1).trans rfl
         have hfz94_0 := blk_frozen BK582.out 0
         have hfz94_1 := blk_frozen BK582.out 1
         go_wp2_with (first | (go_at_call 19; (with_reducible refine (laws_eqLasso.calls kj10 _ _ t590 _ _ t593 _ _ t575 _ _ t578 false _ ?side1 ?side2 ?side3 ?side4 ?side5 ?side6 ?side7 ?side8 A78.out).mono ?_); (case side1 => repeat (first | exact (Kd.R_reads' HO_598000.out).2.2 | (with_reducible first | refine Kd.C_alloc ?_ _ | refine Kd.C_drewN ?_ _ | refine Kd.C_drew ?_))); (case side2 => exact (Kd.R_reads' HO_598000.out).2.1); (case side3 => repeat (first | exact (Kd.R_reads' HO_598001.out).2.2 | (with_reducible first | refine Kd.C_alloc ?_ _ | refine Kd.C_drewN ?_ _ | refine Kd.C_drew ?_))); (case side4 => exact (Kd.R_reads' HO_598001.out).2.1); (case side5 => repeat (first | exact (Kd.R_reads' HO_583000.out).2.2 | (with_reducible first | refine Kd.C_alloc ?_ _ | refine Kd.C_drewN ?_ _ | refine Kd.C_drew ?_))); (case side6 => exact (Kd.R_reads' HO_583000.out).2.1); (case side7 => repeat (first | exact (Kd.R_reads' HO_583001.out).2.2 | (with_reducible first | refine Kd.C_alloc ?_ _ | refine Kd.C_drewN ?_ _ | refine Kd.C_drew ?_))); (case side8 => exact (Kd.R_reads' HO_583001.out).2.1); rintro e w95 ⟨rfl, hb⟩; have n0_ := am_ (Kd.R_below (by (with_reducible repeat (first | apply Kd.R_alloc | apply Kd.R_drewN | apply Kd.R_drew)); exact HO_583000.out) hb); have n1_ := am_ (Kd.R_below (by (with_reducible repeat (first | apply Kd.R_alloc | apply Kd.R_drewN | apply Kd.R_drew)); exact HO_583001.out) hb); have n2_ := am_ (Kd.R_below (by (with_reducible repeat (first | apply Kd.R_alloc | apply Kd.R_drewN | apply Kd.R_drew)); exact HO_590000.out) hb); have n3_ := am_ (Kd.R_below (by (with_reducible repeat (first | apply Kd.R_alloc | apply Kd.R_drewN | apply Kd.R_drew)); exact HO_590001.out) hb); have n4_ := am_ (Kd.R_below (by (with_reducible repeat (first | apply Kd.R_alloc | apply Kd.R_drewN | apply Kd.R_drew)); exact HO_598000.out) hb); have n5_ := am_ (Kd.R_below (by (with_reducible repeat (first | apply Kd.R_alloc | apply Kd.R_drewN | apply Kd.R_drew)); exact HO_598001.out) hb); have n6_ := am_ (Kd.R_below (by (with_reducible repeat (first | apply Kd.R_alloc | apply Kd.R_drewN | apply Kd.R_drew)); exact HO601.out) hb); have n7_ := am_ (Kd.R_below (by (with_reducible repeat (first | apply Kd.R_alloc | apply Kd.R_drewN | apply Kd.R_drew)); exact HO604.out) hb); have n8_ := am_ (blk_below (g := gb567) (o := .cells #[.slice A0_0 l0_0.length c0_0, .slice A0_1 l0_1.length c0_1] 24 (0, 0)) (by (with_reducible repeat (first | refine blk_drewN ?_ _ | refine blk_drew ?_ | refine blk_alloc ?_ _)); exact BK567.out) hb); have n9_ := am_ (blk_below (g := gb582) (o := .cells #[.slice Ao21 t575.length co21, .slice Ao24 t578.length co24] 27 (0, 0)) (by (with_reducible repeat (first | refine blk_drewN ?_ _ | refine blk_drew ?_ | refine blk_alloc ?_ _)); exact BK582.out) hb); have n10_ := am_ (blk_below (g := gb589) (o := .cells #[.slice Ao28 t583.length co28, .slice Ao32 t586.length co32] 27 (0, 0)) (by (with_reducible repeat (first | refine blk_drewN ?_ _ | refine blk_drew ?_ | refine blk_alloc ?_ _)); exact BK589.out) hb); have n11_ := am_ (blk_below (g := gb597) (o := .cells #[.slice Ao37 t590.length co37, .slice Ao42 t593.length co42] 27 (0, 0)) (by (with_reducible repeat (first | refine blk_drewN ?_ _ | refine blk_drew ?_ | refine blk_alloc ?_ _)); exact BK597.out) hb); have n12_ := am_ (below_step (by repeat (first | (with_reducible first | exact HB.out | apply below_alloc | apply pw_below_drewN | apply below_drew1 | refine below_set ?_ GE567.out | refine below_set ?_ GE582.out | refine below_set ?_ GE589.out | refine below_set ?_ GE597.out) | exact HB.out)) hb); clear HO_583000; clear HO_583001; clear HO_590000; clear HO_590001; clear HO_598000; clear HO_598001; clear HO601; clear HO604; clear BK567; clear BK582; clear BK589; clear BK597; clear HB; have HO_583000 := n0_; have HO_583001 := n1_; have HO_590000 := n2_; have HO_590001 := n3_; have HO_598000 := n4_; have HO_598001 := n5_; have HO601 := n6_; have HO604 := n7_; have BK567 := n8_; have BK582 := n9_; have BK589 := n10_; have BK597 := n11_; have HB := n12_; clear n0_ n1_ n2_ n3_ n4_ n5_ n6_ n7_ n8_ n9_ n10_ n11_ n12_; (try clear hb); (try clear hb2); (try clear hk); (try clear hi)))
         go_meet
         case rel => exact ⟨_, (true), (by first | rfl | (simp; done) | (simp [*]; done)), H', ⟨by have := HJ10.out; first | omega | exact Nat.le_refl _⟩, ⟨by (with_reducible repeat (first | apply Kd.R_alloc | apply Kd.R_drewN | apply Kd.R_drew)); exact Kd.R_mono HO_583000.out (fun _ hk => ⟨hk.1, hk.2.1, hk.2.2.1, hk.2.2.2.1, hk.2.2.2.2.1⟩)⟩, ⟨by (with_reducible repeat (first | apply Kd.R_alloc | apply Kd.R_drewN | apply Kd.R_drew)); exact Kd.R_mono HO_583001.out (fun _ hk => ⟨hk.1, hk.2.1, hk.2.2.1, hk.2.2.2.1, hk.2.2.2.2.1⟩)⟩, ⟨by (with_reducible repeat (first | apply Kd.R_alloc | apply Kd.R_drewN | apply Kd.R_drew)); exact Kd.R_mono HO_590000.out (fun _ hk => ⟨hk.1.1.1, hk.1.1.2.1, hk.1.1.2.2.1, hk.1.1.2.2.2.1, hk.1.1.2.2.2.2⟩)⟩, ⟨by (with_reducible repeat (first | apply Kd.R_alloc | apply Kd.R_drewN | apply Kd.R_drew)); exact Kd.R_mono HO_590001.out (fun _ hk => ⟨hk.1.1.1, hk.1.1.2.1, hk.1.1.2.2.1, hk.1.1.2.2.2.1, hk.1.1.2.2.2.2⟩)⟩, ⟨by (with_reducible repeat (first | apply Kd.R_alloc | apply Kd.R_drewN | apply Kd.R_drew)); exact Kd.R_mono HO_598000.out (fun _ hk => ⟨hk.1, hk.2.1, hk.2.2.1, hk.2.2.2.1, hk.2.2.2.2.1⟩)⟩, ⟨by (with_reducible repeat (first | apply Kd.R_alloc | apply Kd.R_drewN | apply Kd.R_drew)); exact Kd.R_mono HO_598001.out (fun _ hk => ⟨hk.1, hk.2.1, hk.2.2.1, hk.2.2.2.1, hk.2.2.2.2.1⟩)⟩, ⟨by (with_reducible repeat (first | refine blk_drewN ?_ _ | refine blk_drew ?_ | refine blk_alloc ?_ _)); exact BK567.out⟩, ⟨by (with_reducible repeat (first | refine blk_drewN ?_ _ | refine blk_drew ?_ | refine blk_alloc ?_ _)); exact BK582.out⟩, ⟨by (with_reducible repeat (first | refine blk_drewN ?_ _ | refine blk_drew ?_ | refine blk_alloc ?_ _)); exact BK589.out⟩, ⟨by (with_reducible repeat (first | refine blk_drewN ?_ _ | refine blk_drew ?_ | refine blk_alloc ?_ _)); exact BK597.out⟩, ⟨by repeat (first | (with_reducible first | exact HB.out | apply below_alloc | apply pw_below_drewN | apply below_drew1 | refine below_set ?_ GE567.out | refine below_set ?_ GE582.out | refine below_set ?_ GE589.out | refine below_set ?_ GE597.out) | exact HB.out)⟩⟩
      case rest =>
       clear HC66
       try clear c1
       try clear c2
       try clear p2
       try clear c3
       try clear c3b0
       try clear c4
       try clear c5
       try clear c6
       try clear c7
       try clear c8
       try clear c9
       try clear c14
       try clear c15
       try clear c17
       try clear c19
       try clear c22
       try clear c29
       try clear c30
       try clear c38
       try clear c39
       try clear c40
       try clear c44
       try clear c45
       try clear c46
       try clear c47
       try clear c49
       try clear c50
       try clear c53
       try clear c54
       try clear c55
       try clear c57
       try clear c58
       try clear c61
       try clear c63
       try clear c64
       try clear c72
       try clear c73
       try clear c74
       try clear c77
       try clear c77b0
       try clear c79
       try clear c80
       try clear c81
       try clear c82
       try clear c84
       try clear c85
       try clear c88
       try clear c89
       try clear c90
       try clear c92
       try clear c93
       try clear hcz13_0
       try clear hcz13_1
       try clear hcz15_0
       try clear hcz15_1
       try clear hcz23_0
       try clear hcz23_1
       try clear hcz25_0
       try clear hcz25_1
       try clear hcz31_0
       try clear hcz31_1
       try clear hcz34_0
       try clear hcz34_1
       try clear hcz41_0
       try clear hcz41_1
       try clear hcz48_0
       try clear hcz48_1
       try clear hcz51_0
       try clear hcz51_1
       try clear hcz56_0
       try clear hcz56_1
       try clear hcz59_0
       try clear hcz59_1
       try clear hcz5_0
       try clear hcz5_1
       try clear hcz75_0
       try clear hcz75_1
       try clear hcz83_0
       try clear hcz83_1
       try clear hcz86_0
       try clear hcz86_1
       try clear hcz91_0
       try clear hcz91_1
       try clear hcz94_0
       try clear hcz94_1
       try clear hfz13_0
       try clear hfz13_1
       try clear hfz15_0
       try clear hfz15_1
       try clear hfz23_0
       try clear hfz23_1
       try clear hfz25_0
       try clear hfz25_1
       try clear hfz31_0
       try clear hfz31_1
       try clear hfz34_0
       try clear hfz34_1
       try clear hfz41_0
       try clear hfz41_1
       try clear hfz48_0
       try clear hfz48_1
       try clear hfz51_0
       try clear hfz51_1
       try clear hfz56_0
       try clear hfz56_1
       try clear hfz59_0
       try clear hfz59_1
       try clear hfz5_0
       try clear hfz5_1
       try clear hfz75_0
       try clear hfz75_1
       try clear hfz83_0
       try clear hfz83_1
       try clear hfz86_0
       try clear hfz86_1
       try clear hfz91_0
       try clear hfz91_1
       try clear hfz94_0
       try clear hfz94_1
       try clear p2
       obtain ⟨kq, x61_65, rfl, HA, HJ65, HO_583000, HO_583001, HO_590000, HO_590001, HO_598000, HO_598001, BK567, BK582, BK589, BK597, HB⟩ := hcut
       have hl590000_65 := (Kd.R_reads' HO_590000.out).1
       rw [hl590000_65] at HO_590000
       (try simp only [hl590000_65])
       (try simp only [hl590000_65] at BK567)
       (try simp only [hl590000_65] at BK582)
       (try simp only [hl590000_65] at BK589)
       (try simp only [hl590000_65] at BK597)
       (try simp only [hl590000_65] at HO_583000)
       (try simp only [hl590000_65] at HO_583001)
       (try simp only [hl590000_65] at HO_590001)
       (try simp only [hl590000_65] at HO_598000)
       (try simp only [hl590000_65] at HO_598001)
       have hl590001_65 := (Kd.R_reads' HO_590001.out).1
       rw [hl590001_65] at HO_590001
       (try simp only [hl590001_65])
       (try simp only [hl590001_65] at BK567)
       (try simp only [hl590001_65] at BK582)
       (try simp only [hl590001_65] at BK589)
       (try simp only [hl590001_65] at BK597)
       (try simp only [hl590001_65] at HO_583000)
       (try simp only [hl590001_65] at HO_583001)
       (try simp only [hl590001_65] at HO_590000)
       (try simp only [hl590001_65] at HO_598000)
       (try simp only [hl590001_65] at HO_598001)
       cases kq with
       | zero => exact absurd HA.out (by simp [laws_FnExactTurnLoop.j1])
       | succ kj65 =>
        have H := HA.out
        clear HA
        simp only [laws_FnExactTurnLoop.j1] at H
        by_cases c96 : x61_65 = true
        ·subst c96
         have H1 : (some false) = some r := by rw [if_pos rfl] at H; exact H
         clear H
         have H := H1
         clear H1
         obtain rfl := Option.some.inj H
         go_wp2
         go_ret
         exact ⟨by first | rfl | (simp [errW_none, errW_some] <;> rfl) | (simp [*, errW_none, errW_some] <;> rfl), by repeat (first | (with_reducible first | exact HB.out | apply below_alloc | apply pw_below_drewN | apply below_drew1 | refine below_set ?_ GE567.out | refine below_set ?_ GE582.out | refine below_set ?_ GE589.out | refine below_set ?_ GE597.out) | exact HB.out)⟩
        ·replace c96 := Bool.eq_false_iff.mpr c96
         subst c96
         have H1 : ((laws_markLasso.f kj65 t590 t593 1).bind fun bt610 => ((laws_heldLasso.f kj65 bt610.2.1 bt610.2.2 1).bind fun t613 => (if t613 < 0 then (some false) else (if t613 = bt610.1 then ((laws_toLasso.f kj65 l0_0 l0_1).bind fun bt614 => ((impl_TurnLoop.f kj65 bt614.1 bt614.2).bind fun bt620 => ((laws_eqLasso.f kj65 bt620.1 bt620.2.1 t575 t578).bind fun t628 => (if t628 = true then (laws_FnExactTurnLoop.j2 kj65 bt610.1 (bt620.2.2 != t581) bt610.2.1 bt610.2.2) else (laws_FnExactTurnLoop.j2 kj65 bt610.1 true bt610.2.1 bt610.2.2))))) else (some false))))) = some r := by rw [if_neg (show ¬ (false = true) by decide)] at H; exact H
         clear H
         have H := H1
         clear H1
         replace H := Option.bind_eq_some_iff.mp H
         obtain ⟨⟨t610, t611, t612⟩, A970, H⟩ := H
         replace H : ((laws_heldLasso.f kj65 t611 t612 1).bind fun t613 => (if t613 < 0 then (some false) else (if t613 = t610 then ((laws_toLasso.f kj65 l0_0 l0_1).bind fun bt614 => ((impl_TurnLoop.f kj65 bt614.1 bt614.2).bind fun bt620 => ((laws_eqLasso.f kj65 bt620.1 bt620.2.1 t575 t578).bind fun t628 => (if t628 = true then (laws_FnExactTurnLoop.j2 kj65 t610 (bt620.2.2 != t581) t611 t612) else (laws_FnExactTurnLoop.j2 kj65 t610 true t611 t612))))) else (some false)))) = some r := H
         have A97 := am_ A970
         clear A970
         replace H := Option.bind_eq_some_iff.mp H
         obtain ⟨t613, A980, H⟩ := H
         replace H : (if t613 < 0 then (some false) else (if t613 = t610 then ((laws_toLasso.f kj65 l0_0 l0_1).bind fun bt614 => ((impl_TurnLoop.f kj65 bt614.1 bt614.2).bind fun bt620 => ((laws_eqLasso.f kj65 bt620.1 bt620.2.1 t575 t578).bind fun t628 => (if t628 = true then (laws_FnExactTurnLoop.j2 kj65 t610 (bt620.2.2 != t581) t611 t612) else (laws_FnExactTurnLoop.j2 kj65 t610 true t611 t612))))) else (some false))) = some r := H
         have A98 := am_ A980
         clear A980
         by_cases c99 : t613 < 0
         ·rw [if_pos c99] at H
          have c99b0 : decide (t613 < 0) = true := decide_eq_true c99
          clear c99
          obtain rfl := Option.some.inj H
          have hnb100 := NB597_567.out
          have hnc100 := NB567_597.out
          have hnb101 := NB597_582.out
          have hnc101 := NB582_597.out
          have hnb102 := NB597_589.out
          have hnc102 := NB589_597.out
          have hcz103_0 : wc.cell? ⟨gb597, 0, none⟩ = some (.slice Ao37 t590.length co37) := (blk_cell BK597.out 0).trans rfl
          have hcz103_1 : wc.cell? ⟨gb597, 1, none⟩ = some (.slice Ao42 t593.length co42) := (blk_cell BK597.out 1).trans rfl
          have hfz103_0 := blk_frozen BK597.out 0
          have hfz103_1 := blk_frozen BK597.out 1
          go_wp2_with (first | ((with_reducible refine gate_callee (f := 50) rfl ?_); refine goesL_ (some 64) rfl rfl Try.func50 (by kernel_rfl) rfl #[.agg #[.slice Ao37 t590.length co37, .slice Ao42 t593.length co42], .int .i64 1] rfl (by (try simp only [List.map_toArray, List.map_cons, List.map_nil]); first | done | rfl | (simp only [List.length_drop, List.length_take]; rfl)) ?_; (with_reducible refine (laws_markLasso.calls kj65 (fun k_ => some k_ = (.slice Ao37 t590.length co37 : Value).ownBlock) (.slice Ao37 t590.length co37) t590 (fun k_ => some k_ = (.slice Ao42 t593.length co42 : Value).ownBlock) (.slice Ao42 t593.length co42) t593 1 t610 t611 t612 w _ ?side1 ?side2 ?side3 ?side4 ?side5 A97.out).mono ?_); (case side1 => repeat (first | (with_reducible first | exact HB.out | apply below_alloc | apply pw_below_drewN | apply below_drew1 | refine below_set ?_ GE567.out | refine below_set ?_ GE582.out | refine below_set ?_ GE589.out | refine below_set ?_ GE597.out) | exact HB.out)); (case side2 => exact Kd.R_tight rfl HO_598000.out); (case side3 => exact fun k_ e_ => (HO_598000.out.1 k_ e_.symm).2.2.2.2); (case side4 => exact Kd.R_tight rfl HO_598001.out); (case side5 => exact fun k_ e_ => (HO_598001.out.1 k_ e_.symm).2.2.2.2); rintro e w104 ⟨rfl, hy0, hy1, hb, hkp⟩; refine ⟨_, rfl, ?_⟩; have n0_ := am_ (Kd.R_mono (ok' := fun k_ => some k_ ≠ (.slice Ao24 t578.length co24 : Value).ownBlock ∧ some k_ ≠ (.slice Ao28 t607.length co28 : Value).ownBlock ∧ some k_ ≠ (.slice Ao32 t608.length co32 : Value).ownBlock ∧ some k_ ≠ (.slice Ao37 t590.length co37 : Value).ownBlock ∧ some k_ ≠ (.slice Ao42 t593.length co42 : Value).ownBlock) (Kd.R_keptB (HO_583000.out) hkp (fun k_ hk_ hs_ => Or.elim hs_ (fun e_ => (hk_.2.2.2.1) e_) (fun e_ => (hk_.2.2.2.2) e_))) (fun k_ hk_ => ⟨hk_.1.1, hk_.1.2.1, hk_.1.2.2.1, hk_.1.2.2.2.1, hk_.1.2.2.2.2⟩)); have n1_ := am_ (Kd.R_mono (ok' := fun k_ => some k_ ≠ (.slice Ao21 t575.length co21 : Value).ownBlock ∧ some k_ ≠ (.slice Ao28 t607.length co28 : Value).ownBlock ∧ some k_ ≠ (.slice Ao32 t608.length co32 : Value).ownBlock ∧ some k_ ≠ (.slice Ao37 t590.length co37 : Value).ownBlock ∧ some k_ ≠ (.slice Ao42 t593.length co42 : Value).ownBlock) (Kd.R_keptB (HO_583001.out) hkp (fun k_ hk_ hs_ => Or.elim hs_ (fun e_ => (hk_.2.2.2.1) e_) (fun e_ => (hk_.2.2.2.2) e_))) (fun k_ hk_ => ⟨hk_.1.1, hk_.1.2.1, hk_.1.2.2.1, hk_.1.2.2.2.1, hk_.1.2.2.2.2⟩)); have n2_ := am_ (Kd.R_mono (ok' := fun k_ => some k_ ≠ (.slice Ao21 t575.length co21 : Value).ownBlock ∧ some k_ ≠ (.slice Ao24 t578.length co24 : Value).ownBlock ∧ some k_ ≠ (.slice Ao32 t608.length co32 : Value).ownBlock ∧ some k_ ≠ (.slice Ao37 t590.length co37 : Value).ownBlock ∧ some k_ ≠ (.slice Ao42 t593.length co42 : Value).ownBlock) (Kd.R_keptB (HO_590000.out) hkp (fun k_ hk_ hs_ => Or.elim hs_ (fun e_ => (hk_.2.2.2.1) e_) (fun e_ => (hk_.2.2.2.2) e_))) (fun k_ hk_ => ⟨hk_.1.1, hk_.1.2.1, hk_.1.2.2.1, hk_.1.2.2.2.1, hk_.1.2.2.2.2⟩)); have n3_ := am_ (Kd.R_mono (ok' := fun k_ => some k_ ≠ (.slice Ao21 t575.length co21 : Value).ownBlock ∧ some k_ ≠ (.slice Ao24 t578.length co24 : Value).ownBlock ∧ some k_ ≠ (.slice Ao28 t607.length co28 : Value).ownBlock ∧ some k_ ≠ (.slice Ao37 t590.length co37 : Value).ownBlock ∧ some k_ ≠ (.slice Ao42 t593.length co42 : Value).ownBlock) (Kd.R_keptB (HO_590001.out) hkp (fun k_ hk_ hs_ => Or.elim hs_ (fun e_ => (hk_.2.2.2.1) e_) (fun e_ => (hk_.2.2.2.2) e_))) (fun k_ hk_ => ⟨hk_.1.1, hk_.1.2.1, hk_.1.2.2.1, hk_.1.2.2.2.1, hk_.1.2.2.2.2⟩)); have n4_ := am_ (Kd.R_reok rfl hy0 (fun k_ e_ => HO_598000.out.1 k_ e_)); have n5_ := am_ (Kd.R_reok rfl hy1 (fun k_ e_ => HO_598001.out.1 k_ e_)); have n6_ := am_ (blk_kept (by (with_reducible repeat (first | refine blk_drewN ?_ _ | refine blk_drew ?_ | refine blk_alloc ?_ _)); exact BK567.out) hkp (fun hs_ => Or.elim hs_ (fun e_ => (fun e_ => (Kd.R_ne HO_598000.out BK567.out (by decide)) e_) e_) (fun e_ => (fun e_ => (Kd.R_ne HO_598001.out BK567.out (by decide)) e_) e_))); have n7_ := am_ (blk_kept (by (with_reducible repeat (first | refine blk_drewN ?_ _ | refine blk_drew ?_ | refine blk_alloc ?_ _)); exact BK582.out) hkp (fun hs_ => Or.elim hs_ (fun e_ => (fun e_ => (Kd.R_ne HO_598000.out BK582.out (by decide)) e_) e_) (fun e_ => (fun e_ => (Kd.R_ne HO_598001.out BK582.out (by decide)) e_) e_))); have n8_ := am_ (blk_kept (by (with_reducible repeat (first | refine blk_drewN ?_ _ | refine blk_drew ?_ | refine blk_alloc ?_ _)); exact BK589.out) hkp (fun hs_ => Or.elim hs_ (fun e_ => (fun e_ => (Kd.R_ne HO_598000.out BK589.out (by decide)) e_) e_) (fun e_ => (fun e_ => (Kd.R_ne HO_598001.out BK589.out (by decide)) e_) e_))); have n9_ := am_ (blk_kept (by (with_reducible repeat (first | refine blk_drewN ?_ _ | refine blk_drew ?_ | refine blk_alloc ?_ _)); exact BK597.out) hkp (fun hs_ => Or.elim hs_ (fun e_ => (fun e_ => (Kd.R_ne HO_598000.out BK597.out (by decide)) e_) e_) (fun e_ => (fun e_ => (Kd.R_ne HO_598001.out BK597.out (by decide)) e_) e_))); have n10_ := am_ (hb); clear HO_583000; clear HO_583001; clear HO_590000; clear HO_590001; clear HO_598000; clear HO_598001; clear BK567; clear BK582; clear BK589; clear BK597; clear HB; have HO_583000 := n0_; have HO_583001 := n1_; have HO_590000 := n2_; have HO_590001 := n3_; have HO_598000 := n4_; have HO_598001 := n5_; have BK567 := n6_; have BK582 := n7_; have BK589 := n8_; have BK597 := n9_; have HB := n10_; clear n0_ n1_ n2_ n3_ n4_ n5_ n6_ n7_ n8_ n9_ n10_; (try clear hb); (try clear hkp); (try clear hy0); (try clear hy1); have hcz105_0 : w104.cell? ⟨gb597, 0, none⟩ = some (.slice Ao37 t590.length co37) := (blk_cell BK597.out 0).trans rfl; have hcz105_1 : w104.cell? ⟨gb597, 1, none⟩ = some (.slice Ao42 t593.length co42) := (blk_cell BK597.out 1).trans rfl; have hfz105_0 := blk_frozen BK597.out 0; have hfz105_1 := blk_frozen BK597.out 1) | ((with_reducible refine gate_callee (f := 65) rfl ?_); refine goesL_ (some 67) rfl rfl Try.func65 (by kernel_rfl) rfl #[.agg #[.slice Ao37 t611.length co37, .slice Ao42 t612.length co42], .int .i64 1] rfl (by (try simp only [List.map_toArray, List.map_cons, List.map_nil]); first | done | (rw [show t611.length = t590.length from (Kd.R_reads' HO_598000.out).1.symm, show t612.length = t593.length from (Kd.R_reads' HO_598001.out).1.symm] <;> rfl) | rfl | (simp only [List.length_drop, List.length_take]; rfl)) ?_; (with_reducible refine (laws_heldLasso.calls kj65 _ _ t611 _ _ t612 1 t613 _ ?side1 ?side2 ?side3 ?side4 A98.out).mono ?_); (case side1 => repeat (first | exact (Kd.R_reads' HO_598000.out).2.2 | (with_reducible first | refine Kd.C_alloc ?_ _ | refine Kd.C_drewN ?_ _ | refine Kd.C_drew ?_))); (case side2 => rw [show t611.length = t590.length from (Kd.R_reads' HO_598000.out).1.symm]; exact (Kd.R_reads' HO_598000.out).2.1); (case side3 => repeat (first | exact (Kd.R_reads' HO_598001.out).2.2 | (with_reducible first | refine Kd.C_alloc ?_ _ | refine Kd.C_drewN ?_ _ | refine Kd.C_drew ?_))); (case side4 => rw [show t612.length = t593.length from (Kd.R_reads' HO_598001.out).1.symm]; exact (Kd.R_reads' HO_598001.out).2.1); rintro e w106 ⟨rfl, hb⟩; refine ⟨_, rfl, ?_⟩; have n0_ := am_ (Kd.R_below (by (with_reducible repeat (first | apply Kd.R_alloc | apply Kd.R_drewN | apply Kd.R_drew)); exact HO_583000.out) hb); have n1_ := am_ (Kd.R_below (by (with_reducible repeat (first | apply Kd.R_alloc | apply Kd.R_drewN | apply Kd.R_drew)); exact HO_583001.out) hb); have n2_ := am_ (Kd.R_below (by (with_reducible repeat (first | apply Kd.R_alloc | apply Kd.R_drewN | apply Kd.R_drew)); exact HO_590000.out) hb); have n3_ := am_ (Kd.R_below (by (with_reducible repeat (first | apply Kd.R_alloc | apply Kd.R_drewN | apply Kd.R_drew)); exact HO_590001.out) hb); have n4_ := am_ (Kd.R_below (by (with_reducible repeat (first | apply Kd.R_alloc | apply Kd.R_drewN | apply Kd.R_drew)); exact HO_598000.out) hb); have n5_ := am_ (Kd.R_below (by (with_reducible repeat (first | apply Kd.R_alloc | apply Kd.R_drewN | apply Kd.R_drew)); exact HO_598001.out) hb); have n6_ := am_ (blk_below (g := gb567) (o := .cells #[.slice A0_0 l0_0.length c0_0, .slice A0_1 l0_1.length c0_1] 24 (0, 0)) (by (with_reducible repeat (first | refine blk_drewN ?_ _ | refine blk_drew ?_ | refine blk_alloc ?_ _)); exact BK567.out) hb); have n7_ := am_ (blk_below (g := gb582) (o := .cells #[.slice Ao21 t575.length co21, .slice Ao24 t578.length co24] 27 (0, 0)) (by (with_reducible repeat (first | refine blk_drewN ?_ _ | refine blk_drew ?_ | refine blk_alloc ?_ _)); exact BK582.out) hb); have n8_ := am_ (blk_below (g := gb589) (o := .cells #[.slice Ao28 t607.length co28, .slice Ao32 t608.length co32] 27 (0, 0)) (by (with_reducible repeat (first | refine blk_drewN ?_ _ | refine blk_drew ?_ | refine blk_alloc ?_ _)); exact BK589.out) hb); have n9_ := am_ (blk_below (g := gb597) (o := .cells #[.slice Ao37 t590.length co37, .slice Ao42 t593.length co42] 27 (0, 0)) (by (with_reducible repeat (first | refine blk_drewN ?_ _ | refine blk_drew ?_ | refine blk_alloc ?_ _)); exact BK597.out) hb); have n10_ := am_ (below_step (by repeat (first | (with_reducible first | exact HB.out | apply below_alloc | apply pw_below_drewN | apply below_drew1 | refine below_set ?_ GE567.out | refine below_set ?_ GE582.out | refine below_set ?_ GE589.out | refine below_set ?_ GE597.out) | exact HB.out)) hb); clear HO_583000; clear HO_583001; clear HO_590000; clear HO_590001; clear HO_598000; clear HO_598001; clear BK567; clear BK582; clear BK589; clear BK597; clear HB; have HO_583000 := n0_; have HO_583001 := n1_; have HO_590000 := n2_; have HO_590001 := n3_; have HO_598000 := n4_; have HO_598001 := n5_; have BK567 := n6_; have BK582 := n7_; have BK589 := n8_; have BK597 := n9_; have HB := n10_; clear n0_ n1_ n2_ n3_ n4_ n5_ n6_ n7_ n8_ n9_ n10_; (try clear hb); (try clear hb2); (try clear hk); (try clear hi)))
          go_ret
          exact ⟨by first | rfl | (simp [errW_none, errW_some] <;> rfl) | (simp [*, errW_none, errW_some] <;> rfl), by repeat (first | (with_reducible first | exact HB.out | apply below_alloc | apply pw_below_drewN | apply below_drew1 | refine below_set ?_ GE567.out | refine below_set ?_ GE582.out | refine below_set ?_ GE589.out | refine below_set ?_ GE597.out) | exact HB.out)⟩
         ·rw [if_neg c99] at H
          have c99b0 : decide (t613 < 0) = false := decide_eq_false c99
          clear c99
          by_cases c107 : t613 = t610
          ·rw [if_pos c107] at H
           have c107b0 : (t613 == t610) = true := beq_iff_eq.mpr c107
           have c107b1 : (t613 != t610) = false := bne_eq_false_iff_eq.mpr c107
           clear c107
           replace H := Option.bind_eq_some_iff.mp H
           obtain ⟨⟨t614, t617⟩, A1080, H⟩ := H
           replace H : ((impl_TurnLoop.f kj65 t614 t617).bind fun bt620 => ((laws_eqLasso.f kj65 bt620.1 bt620.2.1 t575 t578).bind fun t628 => (if t628 = true then (laws_FnExactTurnLoop.j2 kj65 t610 (bt620.2.2 != t581) t611 t612) else (laws_FnExactTurnLoop.j2 kj65 t610 true t611 t612)))) = some r := H
           have A108 := am_ A1080
           clear A1080
           replace H := Option.bind_eq_some_iff.mp H
           obtain ⟨⟨t620, t623, t626⟩, A1090, H⟩ := H
           replace H : ((laws_eqLasso.f kj65 t620 t623 t575 t578).bind fun t628 => (if t628 = true then (laws_FnExactTurnLoop.j2 kj65 t610 (t626 != t581) t611 t612) else (laws_FnExactTurnLoop.j2 kj65 t610 true t611 t612))) = some r := H
           have A109 := am_ A1090
           clear A1090
           have HC110 := am_ H
           clear H
           have hnb111 := NB597_567.out
           have hnc111 := NB567_597.out
           have hnb112 := NB597_582.out
           have hnc112 := NB582_597.out
           have hnb113 := NB597_589.out
           have hnc113 := NB589_597.out
           have hcz114_0 : wc.cell? ⟨gb597, 0, none⟩ = some (.slice Ao37 t590.length co37) := (blk_cell BK597.out 0).trans rfl
           have hcz114_1 : wc.cell? ⟨gb597, 1, none⟩ = some (.slice Ao42 t593.length co42) := (blk_cell BK597.out 1).trans rfl
           have hfz114_0 := blk_frozen BK597.out 0
           have hfz114_1 := blk_frozen BK597.out 1
           go_upto_region 25 with (first | ((with_reducible refine gate_callee (f := 50) rfl ?_); refine goesL_ (some 64) rfl rfl Try.func50 (by kernel_rfl) rfl #[.agg #[.slice Ao37 t590.length co37, .slice Ao42 t593.length co42], .int .i64 1] rfl (by (try simp only [List.map_toArray, List.map_cons, List.map_nil]); first | done | rfl | (simp only [List.length_drop, List.length_take]; rfl)) ?_; (with_reducible refine (laws_markLasso.calls kj65 (fun k_ => some k_ = (.slice Ao37 t590.length co37 : Value).ownBlock) (.slice Ao37 t590.length co37) t590 (fun k_ => some k_ = (.slice Ao42 t593.length co42 : Value).ownBlock) (.slice Ao42 t593.length co42) t593 1 t610 t611 t612 w _ ?side1 ?side2 ?side3 ?side4 ?side5 A97.out).mono ?_); (case side1 => repeat (first | (with_reducible first | exact HB.out | apply below_alloc | apply pw_below_drewN | apply below_drew1 | refine below_set ?_ GE567.out | refine below_set ?_ GE582.out | refine below_set ?_ GE589.out | refine below_set ?_ GE597.out) | exact HB.out)); (case side2 => exact Kd.R_tight rfl HO_598000.out); (case side3 => exact fun k_ e_ => (HO_598000.out.1 k_ e_.symm).2.2.2.2); (case side4 => exact Kd.R_tight rfl HO_598001.out); (case side5 => exact fun k_ e_ => (HO_598001.out.1 k_ e_.symm).2.2.2.2); rintro e w115 ⟨rfl, hy0, hy1, hb, hkp⟩; refine ⟨_, rfl, ?_⟩; have n0_ := am_ (Kd.R_mono (ok' := fun k_ => some k_ ≠ (.slice Ao24 t578.length co24 : Value).ownBlock ∧ some k_ ≠ (.slice Ao28 t607.length co28 : Value).ownBlock ∧ some k_ ≠ (.slice Ao32 t608.length co32 : Value).ownBlock ∧ some k_ ≠ (.slice Ao37 t590.length co37 : Value).ownBlock ∧ some k_ ≠ (.slice Ao42 t593.length co42 : Value).ownBlock) (Kd.R_keptB (HO_583000.out) hkp (fun k_ hk_ hs_ => Or.elim hs_ (fun e_ => (hk_.2.2.2.1) e_) (fun e_ => (hk_.2.2.2.2) e_))) (fun k_ hk_ => ⟨hk_.1.1, hk_.1.2.1, hk_.1.2.2.1, hk_.1.2.2.2.1, hk_.1.2.2.2.2⟩)); have n1_ := am_ (Kd.R_mono (ok' := fun k_ => some k_ ≠ (.slice Ao21 t575.length co21 : Value).ownBlock ∧ some k_ ≠ (.slice Ao28 t607.length co28 : Value).ownBlock ∧ some k_ ≠ (.slice Ao32 t608.length co32 : Value).ownBlock ∧ some k_ ≠ (.slice Ao37 t590.length co37 : Value).ownBlock ∧ some k_ ≠ (.slice Ao42 t593.length co42 : Value).ownBlock) (Kd.R_keptB (HO_583001.out) hkp (fun k_ hk_ hs_ => Or.elim hs_ (fun e_ => (hk_.2.2.2.1) e_) (fun e_ => (hk_.2.2.2.2) e_))) (fun k_ hk_ => ⟨hk_.1.1, hk_.1.2.1, hk_.1.2.2.1, hk_.1.2.2.2.1, hk_.1.2.2.2.2⟩)); have n2_ := am_ (Kd.R_mono (ok' := fun k_ => some k_ ≠ (.slice Ao21 t575.length co21 : Value).ownBlock ∧ some k_ ≠ (.slice Ao24 t578.length co24 : Value).ownBlock ∧ some k_ ≠ (.slice Ao32 t608.length co32 : Value).ownBlock ∧ some k_ ≠ (.slice Ao37 t590.length co37 : Value).ownBlock ∧ some k_ ≠ (.slice Ao42 t593.length co42 : Value).ownBlock) (Kd.R_keptB (HO_590000.out) hkp (fun k_ hk_ hs_ => Or.elim hs_ (fun e_ => (hk_.2.2.2.1) e_) (fun e_ => (hk_.2.2.2.2) e_))) (fun k_ hk_ => ⟨hk_.1.1, hk_.1.2.1, hk_.1.2.2.1, hk_.1.2.2.2.1, hk_.1.2.2.2.2⟩)); have n3_ := am_ (Kd.R_mono (ok' := fun k_ => some k_ ≠ (.slice Ao21 t575.length co21 : Value).ownBlock ∧ some k_ ≠ (.slice Ao24 t578.length co24 : Value).ownBlock ∧ some k_ ≠ (.slice Ao28 t607.length co28 : Value).ownBlock ∧ some k_ ≠ (.slice Ao37 t590.length co37 : Value).ownBlock ∧ some k_ ≠ (.slice Ao42 t593.length co42 : Value).ownBlock) (Kd.R_keptB (HO_590001.out) hkp (fun k_ hk_ hs_ => Or.elim hs_ (fun e_ => (hk_.2.2.2.1) e_) (fun e_ => (hk_.2.2.2.2) e_))) (fun k_ hk_ => ⟨hk_.1.1, hk_.1.2.1, hk_.1.2.2.1, hk_.1.2.2.2.1, hk_.1.2.2.2.2⟩)); have n4_ := am_ (Kd.R_reok rfl hy0 (fun k_ e_ => HO_598000.out.1 k_ e_)); have n5_ := am_ (Kd.R_reok rfl hy1 (fun k_ e_ => HO_598001.out.1 k_ e_)); have n6_ := am_ (blk_kept (by (with_reducible repeat (first | refine blk_drewN ?_ _ | refine blk_drew ?_ | refine blk_alloc ?_ _)); exact BK567.out) hkp (fun hs_ => Or.elim hs_ (fun e_ => (fun e_ => (Kd.R_ne HO_598000.out BK567.out (by decide)) e_) e_) (fun e_ => (fun e_ => (Kd.R_ne HO_598001.out BK567.out (by decide)) e_) e_))); have n7_ := am_ (blk_kept (by (with_reducible repeat (first | refine blk_drewN ?_ _ | refine blk_drew ?_ | refine blk_alloc ?_ _)); exact BK582.out) hkp (fun hs_ => Or.elim hs_ (fun e_ => (fun e_ => (Kd.R_ne HO_598000.out BK582.out (by decide)) e_) e_) (fun e_ => (fun e_ => (Kd.R_ne HO_598001.out BK582.out (by decide)) e_) e_))); have n8_ := am_ (blk_kept (by (with_reducible repeat (first | refine blk_drewN ?_ _ | refine blk_drew ?_ | refine blk_alloc ?_ _)); exact BK589.out) hkp (fun hs_ => Or.elim hs_ (fun e_ => (fun e_ => (Kd.R_ne HO_598000.out BK589.out (by decide)) e_) e_) (fun e_ => (fun e_ => (Kd.R_ne HO_598001.out BK589.out (by decide)) e_) e_))); have n9_ := am_ (blk_kept (by (with_reducible repeat (first | refine blk_drewN ?_ _ | refine blk_drew ?_ | refine blk_alloc ?_ _)); exact BK597.out) hkp (fun hs_ => Or.elim hs_ (fun e_ => (fun e_ => (Kd.R_ne HO_598000.out BK597.out (by decide)) e_) e_) (fun e_ => (fun e_ => (Kd.R_ne HO_598001.out BK597.out (by decide)) e_) e_))); have n10_ := am_ (hb); clear HO_583000; clear HO_583001; clear HO_590000; clear HO_590001; clear HO_598000; clear HO_598001; clear BK567; clear BK582; clear BK589; clear BK597; clear HB; have HO_583000 := n0_; have HO_583001 := n1_; have HO_590000 := n2_; have HO_590001 := n3_; have HO_598000 := n4_; have HO_598001 := n5_; have BK567 := n6_; have BK582 := n7_; have BK589 := n8_; have BK597 := n9_; have HB := n10_; clear n0_ n1_ n2_ n3_ n4_ n5_ n6_ n7_ n8_ n9_ n10_; (try clear hb); (try clear hkp); (try clear hy0); (try clear hy1); have hcz116_0 : w115.cell? ⟨gb597, 0, none⟩ = some (.slice Ao37 t590.length co37) := (blk_cell BK597.out 0).trans rfl; have hcz116_1 : w115.cell? ⟨gb597, 1, none⟩ = some (.slice Ao42 t593.length co42) := (blk_cell BK597.out 1).trans rfl; have hfz116_0 := blk_frozen BK597.out 0; have hfz116_1 := blk_frozen BK597.out 1) | ((with_reducible refine gate_callee (f := 65) rfl ?_); refine goesL_ (some 67) rfl rfl Try.func65 (by kernel_rfl) rfl #[.agg #[.slice Ao37 t611.length co37, .slice Ao42 t612.length co42], .int .i64 1] rfl (by (try simp only [List.map_toArray, List.map_cons, List.map_nil]); first | done | (rw [show t611.length = t590.length from (Kd.R_reads' HO_598000.out).1.symm, show t612.length = t593.length from (Kd.R_reads' HO_598001.out).1.symm] <;> rfl) | rfl | (simp only [List.length_drop, List.length_take]; rfl)) ?_; (with_reducible refine (laws_heldLasso.calls kj65 _ _ t611 _ _ t612 1 t613 _ ?side1 ?side2 ?side3 ?side4 A98.out).mono ?_); (case side1 => repeat (first | exact (Kd.R_reads' HO_598000.out).2.2 | (with_reducible first | refine Kd.C_alloc ?_ _ | refine Kd.C_drewN ?_ _ | refine Kd.C_drew ?_))); (case side2 => rw [show t611.length = t590.length from (Kd.R_reads' HO_598000.out).1.symm]; exact (Kd.R_reads' HO_598000.out).2.1); (case side3 => repeat (first | exact (Kd.R_reads' HO_598001.out).2.2 | (with_reducible first | refine Kd.C_alloc ?_ _ | refine Kd.C_drewN ?_ _ | refine Kd.C_drew ?_))); (case side4 => rw [show t612.length = t593.length from (Kd.R_reads' HO_598001.out).1.symm]; exact (Kd.R_reads' HO_598001.out).2.1); rintro e w117 ⟨rfl, hb⟩; refine ⟨_, rfl, ?_⟩; have n0_ := am_ (Kd.R_below (by (with_reducible repeat (first | apply Kd.R_alloc | apply Kd.R_drewN | apply Kd.R_drew)); exact HO_583000.out) hb); have n1_ := am_ (Kd.R_below (by (with_reducible repeat (first | apply Kd.R_alloc | apply Kd.R_drewN | apply Kd.R_drew)); exact HO_583001.out) hb); have n2_ := am_ (Kd.R_below (by (with_reducible repeat (first | apply Kd.R_alloc | apply Kd.R_drewN | apply Kd.R_drew)); exact HO_590000.out) hb); have n3_ := am_ (Kd.R_below (by (with_reducible repeat (first | apply Kd.R_alloc | apply Kd.R_drewN | apply Kd.R_drew)); exact HO_590001.out) hb); have n4_ := am_ (Kd.R_below (by (with_reducible repeat (first | apply Kd.R_alloc | apply Kd.R_drewN | apply Kd.R_drew)); exact HO_598000.out) hb); have n5_ := am_ (Kd.R_below (by (with_reducible repeat (first | apply Kd.R_alloc | apply Kd.R_drewN | apply Kd.R_drew)); exact HO_598001.out) hb); have n6_ := am_ (blk_below (g := gb567) (o := .cells #[.slice A0_0 l0_0.length c0_0, .slice A0_1 l0_1.length c0_1] 24 (0, 0)) (by (with_reducible repeat (first | refine blk_drewN ?_ _ | refine blk_drew ?_ | refine blk_alloc ?_ _)); exact BK567.out) hb); have n7_ := am_ (blk_below (g := gb582) (o := .cells #[.slice Ao21 t575.length co21, .slice Ao24 t578.length co24] 27 (0, 0)) (by (with_reducible repeat (first | refine blk_drewN ?_ _ | refine blk_drew ?_ | refine blk_alloc ?_ _)); exact BK582.out) hb); have n8_ := am_ (blk_below (g := gb589) (o := .cells #[.slice Ao28 t607.length co28, .slice Ao32 t608.length co32] 27 (0, 0)) (by (with_reducible repeat (first | refine blk_drewN ?_ _ | refine blk_drew ?_ | refine blk_alloc ?_ _)); exact BK589.out) hb); have n9_ := am_ (blk_below (g := gb597) (o := .cells #[.slice Ao37 t590.length co37, .slice Ao42 t593.length co42] 27 (0, 0)) (by (with_reducible repeat (first | refine blk_drewN ?_ _ | refine blk_drew ?_ | refine blk_alloc ?_ _)); exact BK597.out) hb); have n10_ := am_ (below_step (by repeat (first | (with_reducible first | exact HB.out | apply below_alloc | apply pw_below_drewN | apply below_drew1 | refine below_set ?_ GE567.out | refine below_set ?_ GE582.out | refine below_set ?_ GE589.out | refine below_set ?_ GE597.out) | exact HB.out)) hb); clear HO_583000; clear HO_583001; clear HO_590000; clear HO_590001; clear HO_598000; clear HO_598001; clear BK567; clear BK582; clear BK589; clear BK597; clear HB; have HO_583000 := n0_; have HO_583001 := n1_; have HO_590000 := n2_; have HO_590001 := n3_; have HO_598000 := n4_; have HO_598001 := n5_; have BK567 := n6_; have BK582 := n7_; have BK589 := n8_; have BK597 := n9_; have HB := n10_; clear n0_ n1_ n2_ n3_ n4_ n5_ n6_ n7_ n8_ n9_ n10_; (try clear hb); (try clear hb2); (try clear hk); (try clear hi); have hnb118 := NB567_582.out; have hnc118 := NB582_567.out; have hnb119 := NB567_589.out; have hnc119 := NB589_567.out; have hcz120_0 : w117.cell? ⟨gb567, 0, none⟩ = some (.slice A0_0 l0_0.length c0_0) := (blk_cell BK567.out 0).trans rfl; have hcz120_1 : w117.cell? ⟨gb567, 1, none⟩ = some (.slice A0_1 l0_1.length c0_1) := (blk_cell BK567.out 1).trans rfl; have hfz120_0 := blk_frozen BK567.out 0; have hfz120_1 := blk_frozen BK567.out 1) | ((with_reducible refine gate_callee (f := 17) rfl ?_); refine goesL_ (some 75) rfl rfl Try.func17 (by kernel_rfl) rfl #[.agg #[.slice A0_0 l0_0.length c0_0, .slice A0_1 l0_1.length c0_1]] rfl (by (try simp only [List.map_toArray, List.map_cons, List.map_nil]); first | done | rfl | (simp only [List.length_drop, List.length_take]; rfl)) ?_; (with_reducible refine (laws_toLasso.calls kj65 _ _ l0_0 _ _ l0_1 t614 t617 _ ?side1 ?side2 ?side3 ?side4 A108.out).mono ?_); (case side1 => repeat (first | exact (Kd.C_below HR0_0.out HB.out) | (with_reducible first | refine Kd.C_alloc ?_ _ | refine Kd.C_drewN ?_ _ | refine Kd.C_drew ?_))); (case side2 => exact HC0_0.out); (case side3 => repeat (first | exact (Kd.C_below HR0_1.out HB.out) | (with_reducible first | refine Kd.C_alloc ?_ _ | refine Kd.C_drewN ?_ _ | refine Kd.C_drew ?_))); (case side4 => exact HC0_1.out); rintro e w121 ⟨v615, v618, rfl, ho0, ho1, hb⟩; refine ⟨_, rfl, ?_⟩; have n0_ := am_ (Kd.R_mono (Kd.R_told (Kd.R_told (Kd.R_old (by (with_reducible repeat (first | apply Kd.R_alloc | apply Kd.R_drewN | apply Kd.R_drew)); exact HO_583000.out) hb) (Kd.R_base ho0)) (Kd.R_base ho1)) (fun _ h_ => h_.1)); have n1_ := am_ (Kd.R_mono (Kd.R_told (Kd.R_told (Kd.R_old (by (with_reducible repeat (first | apply Kd.R_alloc | apply Kd.R_drewN | apply Kd.R_drew)); exact HO_583001.out) hb) (Kd.R_base ho0)) (Kd.R_base ho1)) (fun _ h_ => h_.1)); have n2_ := am_ (Kd.R_mono (Kd.R_told (Kd.R_told (Kd.R_old (by (with_reducible repeat (first | apply Kd.R_alloc | apply Kd.R_drewN | apply Kd.R_drew)); exact HO_590000.out) hb) (Kd.R_base ho0)) (Kd.R_base ho1)) (fun _ h_ => h_.1)); have n3_ := am_ (Kd.R_mono (Kd.R_told (Kd.R_told (Kd.R_old (by (with_reducible repeat (first | apply Kd.R_alloc | apply Kd.R_drewN | apply Kd.R_drew)); exact HO_590001.out) hb) (Kd.R_base ho0)) (Kd.R_base ho1)) (fun _ h_ => h_.1)); have n4_ := am_ (Kd.R_mono (Kd.R_told (Kd.R_told (Kd.R_old (by (with_reducible repeat (first | apply Kd.R_alloc | apply Kd.R_drewN | apply Kd.R_drew)); exact HO_598000.out) hb) (Kd.R_base ho0)) (Kd.R_base ho1)) (fun _ h_ => h_.1)); have n5_ := am_ (Kd.R_mono (Kd.R_told (Kd.R_told (Kd.R_old (by (with_reducible repeat (first | apply Kd.R_alloc | apply Kd.R_drewN | apply Kd.R_drew)); exact HO_598001.out) hb) (Kd.R_base ho0)) (Kd.R_base ho1)) (fun _ h_ => h_.1)); have n6_ := am_ (Kd.R_lower (Kd.R_new' (Kd.R_new' (Kd.R_new' (Kd.R_new' (Kd.R_new' (Kd.R_new' ho0 (Kd.R_lt (by (with_reducible repeat (first | apply Kd.R_alloc | apply Kd.R_drewN | apply Kd.R_drew)); exact HO_583000.out))) (Kd.R_lt (by (with_reducible repeat (first | apply Kd.R_alloc | apply Kd.R_drewN | apply Kd.R_drew)); exact HO_583001.out))) (Kd.R_lt (by (with_reducible repeat (first | apply Kd.R_alloc | apply Kd.R_drewN | apply Kd.R_drew)); exact HO_590000.out))) (Kd.R_lt (by (with_reducible repeat (first | apply Kd.R_alloc | apply Kd.R_drewN | apply Kd.R_drew)); exact HO_590001.out))) (Kd.R_lt (by (with_reducible repeat (first | apply Kd.R_alloc | apply Kd.R_drewN | apply Kd.R_drew)); exact HO_598000.out))) (Kd.R_lt (by (with_reducible repeat (first | apply Kd.R_alloc | apply Kd.R_drewN | apply Kd.R_drew)); exact HO_598001.out))) (below_size (by repeat (first | (with_reducible first | exact HB.out | apply below_alloc | apply pw_below_drewN | apply below_drew1 | refine below_set ?_ GE567.out | refine below_set ?_ GE582.out | refine below_set ?_ GE589.out | refine below_set ?_ GE597.out) | exact HB.out)))); have n7_ := am_ (Kd.R_lower (Kd.R_new' (Kd.R_new' (Kd.R_new' (Kd.R_new' (Kd.R_new' (Kd.R_new' ho1 (Kd.R_lt (by (with_reducible repeat (first | apply Kd.R_alloc | apply Kd.R_drewN | apply Kd.R_drew)); exact HO_583000.out))) (Kd.R_lt (by (with_reducible repeat (first | apply Kd.R_alloc | apply Kd.R_drewN | apply Kd.R_drew)); exact HO_583001.out))) (Kd.R_lt (by (with_reducible repeat (first | apply Kd.R_alloc | apply Kd.R_drewN | apply Kd.R_drew)); exact HO_590000.out))) (Kd.R_lt (by (with_reducible repeat (first | apply Kd.R_alloc | apply Kd.R_drewN | apply Kd.R_drew)); exact HO_590001.out))) (Kd.R_lt (by (with_reducible repeat (first | apply Kd.R_alloc | apply Kd.R_drewN | apply Kd.R_drew)); exact HO_598000.out))) (Kd.R_lt (by (with_reducible repeat (first | apply Kd.R_alloc | apply Kd.R_drewN | apply Kd.R_drew)); exact HO_598001.out))) (below_size (by repeat (first | (with_reducible first | exact HB.out | apply below_alloc | apply pw_below_drewN | apply below_drew1 | refine below_set ?_ GE567.out | refine below_set ?_ GE582.out | refine below_set ?_ GE589.out | refine below_set ?_ GE597.out) | exact HB.out)))); have n8_ := am_ (blk_below (g := gb567) (o := .cells #[.slice A0_0 l0_0.length c0_0, .slice A0_1 l0_1.length c0_1] 24 (0, 0)) (by (with_reducible repeat (first | refine blk_drewN ?_ _ | refine blk_drew ?_ | refine blk_alloc ?_ _)); exact BK567.out) hb); have n9_ := am_ (blk_below (g := gb582) (o := .cells #[.slice Ao21 t575.length co21, .slice Ao24 t578.length co24] 27 (0, 0)) (by (with_reducible repeat (first | refine blk_drewN ?_ _ | refine blk_drew ?_ | refine blk_alloc ?_ _)); exact BK582.out) hb); have n10_ := am_ (blk_below (g := gb589) (o := .cells #[.slice Ao28 t607.length co28, .slice Ao32 t608.length co32] 27 (0, 0)) (by (with_reducible repeat (first | refine blk_drewN ?_ _ | refine blk_drew ?_ | refine blk_alloc ?_ _)); exact BK589.out) hb); have n11_ := am_ (blk_below (g := gb597) (o := .cells #[.slice Ao37 t590.length co37, .slice Ao42 t593.length co42] 27 (0, 0)) (by (with_reducible repeat (first | refine blk_drewN ?_ _ | refine blk_drew ?_ | refine blk_alloc ?_ _)); exact BK597.out) hb); have n12_ := am_ (below_step (by repeat (first | (with_reducible first | exact HB.out | apply below_alloc | apply pw_below_drewN | apply below_drew1 | refine below_set ?_ GE567.out | refine below_set ?_ GE582.out | refine below_set ?_ GE589.out | refine below_set ?_ GE597.out) | exact HB.out)) hb); clear HO_583000; clear HO_583001; clear HO_590000; clear HO_590001; clear HO_598000; clear HO_598001; clear BK567; clear BK582; clear BK589; clear BK597; clear HB; have HO_583000 := n0_; have HO_583001 := n1_; have HO_590000 := n2_; have HO_590001 := n3_; have HO_598000 := n4_; have HO_598001 := n5_; have HO616 := n6_; have HO619 := n7_; have BK567 := n8_; have BK582 := n9_; have BK589 := n10_; have BK597 := n11_; have HB := n12_; clear n0_ n1_ n2_ n3_ n4_ n5_ n6_ n7_ n8_ n9_ n10_ n11_ n12_; (try clear hb); (try clear hb2); (try clear hk); (try clear hi); (try clear ho0); (try clear ho1); obtain ⟨Ao122, co122, eo122⟩ := Kd.R_slice HO616.out; subst eo122; obtain ⟨Ao123, co123, eo123⟩ := Kd.R_slice HO619.out; subst eo123) | ((with_reducible refine gate_callee (f := 64) rfl ?_); refine goesL_ (some 76) rfl rfl Try.func64 (by kernel_rfl) rfl #[.agg #[.slice Ao122 t614.length co122, .slice Ao123 t617.length co123]] rfl (by (try simp only [List.map_toArray, List.map_cons, List.map_nil]); first | done | rfl | (simp only [List.length_drop, List.length_take]; rfl)) ?_; (with_reducible refine (impl_TurnLoop.calls kj65 (fun k_ => some k_ = (.slice Ao122 t614.length co122 : Value).ownBlock) _ _ t614 (fun k_ => some k_ = (.slice Ao123 t617.length co123 : Value).ownBlock) _ _ t617 t620 t623 t626 _ ?side1 ?side2 A109.out).mono ?_); (case side1 => exact Kd.R_V (Kd.R_tight rfl (Kd.R_types (Kd.R_types (Kd.R_types (Kd.R_types (HO616.out) BK567.out (by decide)) BK582.out (by decide)) BK589.out (by decide)) BK597.out (by decide)))); (case side2 => exact Kd.R_V (Kd.R_tight rfl (Kd.R_types (Kd.R_types (Kd.R_types (Kd.R_types (HO619.out) BK567.out (by decide)) BK582.out (by decide)) BK589.out (by decide)) BK597.out (by decide)))); rintro e w124 ⟨v621, v624, rfl, ho0, ho1, hb⟩; refine ⟨_, rfl, ?_⟩; have n0_ := am_ (Kd.R_mono (Kd.R_told (Kd.R_told (Kd.R_old (by (with_reducible repeat (first | apply Kd.R_alloc | apply Kd.R_drewN | apply Kd.R_drew)); exact HO_583000.out) hb) (Kd.R_base ho0)) (Kd.R_base ho1)) (fun _ h_ => h_.1)); have n1_ := am_ (Kd.R_mono (Kd.R_told (Kd.R_told (Kd.R_old (by (with_reducible repeat (first | apply Kd.R_alloc | apply Kd.R_drewN | apply Kd.R_drew)); exact HO_583001.out) hb) (Kd.R_base ho0)) (Kd.R_base ho1)) (fun _ h_ => h_.1)); have n2_ := am_ (Kd.R_mono (Kd.R_told (Kd.R_told (Kd.R_old (by (with_reducible repeat (first | apply Kd.R_alloc | apply Kd.R_drewN | apply Kd.R_drew)); exact HO_590000.out) hb) (Kd.R_base ho0)) (Kd.R_base ho1)) (fun _ h_ => h_.1)); have n3_ := am_ (Kd.R_mono (Kd.R_told (Kd.R_told (Kd.R_old (by (with_reducible repeat (first | apply Kd.R_alloc | apply Kd.R_drewN | apply Kd.R_drew)); exact HO_590001.out) hb) (Kd.R_base ho0)) (Kd.R_base ho1)) (fun _ h_ => h_.1)); have n4_ := am_ (Kd.R_mono (Kd.R_told (Kd.R_told (Kd.R_old (by (with_reducible repeat (first | apply Kd.R_alloc | apply Kd.R_drewN | apply Kd.R_drew)); exact HO_598000.out) hb) (Kd.R_base ho0)) (Kd.R_base ho1)) (fun _ h_ => h_.1)); have n5_ := am_ (Kd.R_mono (Kd.R_told (Kd.R_told (Kd.R_old (by (with_reducible repeat (first | apply Kd.R_alloc | apply Kd.R_drewN | apply Kd.R_drew)); exact HO_598001.out) hb) (Kd.R_base ho0)) (Kd.R_base ho1)) (fun _ h_ => h_.1)); have n6_ := am_ (Kd.R_mono (Kd.R_told (Kd.R_told (Kd.R_old (by (with_reducible repeat (first | apply Kd.R_alloc | apply Kd.R_drewN | apply Kd.R_drew)); exact HO616.out) hb) (Kd.R_base ho0)) (Kd.R_base ho1)) (fun _ h_ => h_.1)); have n7_ := am_ (Kd.R_mono (Kd.R_told (Kd.R_told (Kd.R_old (by (with_reducible repeat (first | apply Kd.R_alloc | apply Kd.R_drewN | apply Kd.R_drew)); exact HO619.out) hb) (Kd.R_base ho0)) (Kd.R_base ho1)) (fun _ h_ => h_.1)); have n8_ := am_ (Kd.R_lower (Kd.R_new' (Kd.R_new' (Kd.R_new' (Kd.R_new' (Kd.R_new' (Kd.R_new' (Kd.R_new' (Kd.R_new' (Kd.R_mono (ok' := fun k_ => some k_ ≠ (v624 : Value).ownBlock) ho0 (fun _ hk_ => hk_.2)) (Kd.R_lt (by (with_reducible repeat (first | apply Kd.R_alloc | apply Kd.R_drewN | apply Kd.R_drew)); exact HO_583000.out))) (Kd.R_lt (by (with_reducible repeat (first | apply Kd.R_alloc | apply Kd.R_drewN | apply Kd.R_drew)); exact HO_583001.out))) (Kd.R_lt (by (with_reducible repeat (first | apply Kd.R_alloc | apply Kd.R_drewN | apply Kd.R_drew)); exact HO_590000.out))) (Kd.R_lt (by (with_reducible repeat (first | apply Kd.R_alloc | apply Kd.R_drewN | apply Kd.R_drew)); exact HO_590001.out))) (Kd.R_lt (by (with_reducible repeat (first | apply Kd.R_alloc | apply Kd.R_drewN | apply Kd.R_drew)); exact HO_598000.out))) (Kd.R_lt (by (with_reducible repeat (first | apply Kd.R_alloc | apply Kd.R_drewN | apply Kd.R_drew)); exact HO_598001.out))) (Kd.R_lt (by (with_reducible repeat (first | apply Kd.R_alloc | apply Kd.R_drewN | apply Kd.R_drew)); exact HO616.out))) (Kd.R_lt (by (with_reducible repeat (first | apply Kd.R_alloc | apply Kd.R_drewN | apply Kd.R_drew)); exact HO619.out))) (below_size (by repeat (first | (with_reducible first | exact HB.out | apply below_alloc | apply pw_below_drewN | apply below_drew1 | refine below_set ?_ GE567.out | refine below_set ?_ GE582.out | refine below_set ?_ GE589.out | refine below_set ?_ GE597.out) | exact HB.out)))); have n9_ := am_ (Kd.R_lower (Kd.R_new' (Kd.R_new' (Kd.R_new' (Kd.R_new' (Kd.R_new' (Kd.R_new' (Kd.R_new' (Kd.R_new' (Kd.R_mono (ok' := fun k_ => some k_ ≠ (v621 : Value).ownBlock) ho1 (fun _ hk_ => hk_.2)) (Kd.R_lt (by (with_reducible repeat (first | apply Kd.R_alloc | apply Kd.R_drewN | apply Kd.R_drew)); exact HO_583000.out))) (Kd.R_lt (by (with_reducible repeat (first | apply Kd.R_alloc | apply Kd.R_drewN | apply Kd.R_drew)); exact HO_583001.out))) (Kd.R_lt (by (with_reducible repeat (first | apply Kd.R_alloc | apply Kd.R_drewN | apply Kd.R_drew)); exact HO_590000.out))) (Kd.R_lt (by (with_reducible repeat (first | apply Kd.R_alloc | apply Kd.R_drewN | apply Kd.R_drew)); exact HO_590001.out))) (Kd.R_lt (by (with_reducible repeat (first | apply Kd.R_alloc | apply Kd.R_drewN | apply Kd.R_drew)); exact HO_598000.out))) (Kd.R_lt (by (with_reducible repeat (first | apply Kd.R_alloc | apply Kd.R_drewN | apply Kd.R_drew)); exact HO_598001.out))) (Kd.R_lt (by (with_reducible repeat (first | apply Kd.R_alloc | apply Kd.R_drewN | apply Kd.R_drew)); exact HO616.out))) (Kd.R_lt (by (with_reducible repeat (first | apply Kd.R_alloc | apply Kd.R_drewN | apply Kd.R_drew)); exact HO619.out))) (below_size (by repeat (first | (with_reducible first | exact HB.out | apply below_alloc | apply pw_below_drewN | apply below_drew1 | refine below_set ?_ GE567.out | refine below_set ?_ GE582.out | refine below_set ?_ GE589.out | refine below_set ?_ GE597.out) | exact HB.out)))); have n10_ := am_ (blk_below (g := gb567) (o := .cells #[.slice A0_0 l0_0.length c0_0, .slice A0_1 l0_1.length c0_1] 24 (0, 0)) (by (with_reducible repeat (first | refine blk_drewN ?_ _ | refine blk_drew ?_ | refine blk_alloc ?_ _)); exact BK567.out) hb); have n11_ := am_ (blk_below (g := gb582) (o := .cells #[.slice Ao21 t575.length co21, .slice Ao24 t578.length co24] 27 (0, 0)) (by (with_reducible repeat (first | refine blk_drewN ?_ _ | refine blk_drew ?_ | refine blk_alloc ?_ _)); exact BK582.out) hb); have n12_ := am_ (blk_below (g := gb589) (o := .cells #[.slice Ao28 t607.length co28, .slice Ao32 t608.length co32] 27 (0, 0)) (by (with_reducible repeat (first | refine blk_drewN ?_ _ | refine blk_drew ?_ | refine blk_alloc ?_ _)); exact BK589.out) hb); have n13_ := am_ (blk_below (g := gb597) (o := .cells #[.slice Ao37 t590.length co37, .slice Ao42 t593.length co42] 27 (0, 0)) (by (with_reducible repeat (first | refine blk_drewN ?_ _ | refine blk_drew ?_ | refine blk_alloc ?_ _)); exact BK597.out) hb); have n14_ := am_ (below_step (by repeat (first | (with_reducible first | exact HB.out | apply below_alloc | apply pw_below_drewN | apply below_drew1 | refine below_set ?_ GE567.out | refine below_set ?_ GE582.out | refine below_set ?_ GE589.out | refine below_set ?_ GE597.out) | exact HB.out)) hb); clear HO_583000; clear HO_583001; clear HO_590000; clear HO_590001; clear HO_598000; clear HO_598001; clear HO616; clear HO619; clear BK567; clear BK582; clear BK589; clear BK597; clear HB; have HO_583000 := n0_; have HO_583001 := n1_; have HO_590000 := n2_; have HO_590001 := n3_; have HO_598000 := n4_; have HO_598001 := n5_; have HO616 := n6_; have HO619 := n7_; have HO622 := n8_; have HO625 := n9_; have BK567 := n10_; have BK582 := n11_; have BK589 := n12_; have BK597 := n13_; have HB := n14_; clear n0_ n1_ n2_ n3_ n4_ n5_ n6_ n7_ n8_ n9_ n10_ n11_ n12_ n13_ n14_; (try clear hb); (try clear hb2); (try clear hk); (try clear hi); (try clear ho0); (try clear ho1)) | ((with_reducible refine gate_dst (N := 12) rfl ?_); refine box_event ?hg (N := 12) ?hd (cs := #[.slice none 0 0, .slice none 0 0]) (t := 27) ?hr ?_; (case hd => rfl); (case hg => rfl); (case hr => first | (go_simp; done) | (go_simp; rfl)); intro gb627 hg w125 hbox hb; have n0_ := am_ (Kd.R_below (by (with_reducible repeat (first | apply Kd.R_alloc | apply Kd.R_drewN | apply Kd.R_drew)); exact HO_583000.out) hb); have n1_ := am_ (Kd.R_below (by (with_reducible repeat (first | apply Kd.R_alloc | apply Kd.R_drewN | apply Kd.R_drew)); exact HO_583001.out) hb); have n2_ := am_ (Kd.R_below (by (with_reducible repeat (first | apply Kd.R_alloc | apply Kd.R_drewN | apply Kd.R_drew)); exact HO_590000.out) hb); have n3_ := am_ (Kd.R_below (by (with_reducible repeat (first | apply Kd.R_alloc | apply Kd.R_drewN | apply Kd.R_drew)); exact HO_590001.out) hb); have n4_ := am_ (Kd.R_below (by (with_reducible repeat (first | apply Kd.R_alloc | apply Kd.R_drewN | apply Kd.R_drew)); exact HO_598000.out) hb); have n5_ := am_ (Kd.R_below (by (with_reducible repeat (first | apply Kd.R_alloc | apply Kd.R_drewN | apply Kd.R_drew)); exact HO_598001.out) hb); have n6_ := am_ (Kd.R_below (by (with_reducible repeat (first | apply Kd.R_alloc | apply Kd.R_drewN | apply Kd.R_drew)); exact HO616.out) hb); have n7_ := am_ (Kd.R_below (by (with_reducible repeat (first | apply Kd.R_alloc | apply Kd.R_drewN | apply Kd.R_drew)); exact HO619.out) hb); have n8_ := am_ (Kd.R_below (by (with_reducible repeat (first | apply Kd.R_alloc | apply Kd.R_drewN | apply Kd.R_drew)); exact HO622.out) hb); have n9_ := am_ (Kd.R_below (by (with_reducible repeat (first | apply Kd.R_alloc | apply Kd.R_drewN | apply Kd.R_drew)); exact HO625.out) hb); have n10_ := am_ (blk_below (g := gb567) (o := .cells #[.slice A0_0 l0_0.length c0_0, .slice A0_1 l0_1.length c0_1] 24 (0, 0)) (by (with_reducible repeat (first | refine blk_drewN ?_ _ | refine blk_drew ?_ | refine blk_alloc ?_ _)); exact BK567.out) hb); have n11_ := am_ (blk_below (g := gb582) (o := .cells #[.slice Ao21 t575.length co21, .slice Ao24 t578.length co24] 27 (0, 0)) (by (with_reducible repeat (first | refine blk_drewN ?_ _ | refine blk_drew ?_ | refine blk_alloc ?_ _)); exact BK582.out) hb); have n12_ := am_ (blk_below (g := gb589) (o := .cells #[.slice Ao28 t607.length co28, .slice Ao32 t608.length co32] 27 (0, 0)) (by (with_reducible repeat (first | refine blk_drewN ?_ _ | refine blk_drew ?_ | refine blk_alloc ?_ _)); exact BK589.out) hb); have n13_ := am_ (blk_below (g := gb597) (o := .cells #[.slice Ao37 t590.length co37, .slice Ao42 t593.length co42] 27 (0, 0)) (by (with_reducible repeat (first | refine blk_drewN ?_ _ | refine blk_drew ?_ | refine blk_alloc ?_ _)); exact BK597.out) hb); have n14_ := am_ (below_step (by repeat (first | (with_reducible first | exact HB.out | apply below_alloc | apply pw_below_drewN | apply below_drew1 | refine below_set ?_ GE567.out | refine below_set ?_ GE582.out | refine below_set ?_ GE589.out | refine below_set ?_ GE597.out) | exact HB.out)) hb); have n15_ := am_ (hbox); have n16_ := am_ ((by rw [hg]; exact (below_size (by repeat (first | (with_reducible first | exact HB.out | apply below_alloc | apply pw_below_drewN | apply below_drew1 | refine below_set ?_ GE567.out | refine below_set ?_ GE582.out | refine below_set ?_ GE589.out | refine below_set ?_ GE597.out) | exact HB.out))) : w.heap.size ≤ gb627)); have n17_ := am_ ((by rw [hg]; exact (below_size (by repeat (first | (with_reducible first | exact HB.out | apply below_alloc | apply pw_below_drewN | apply below_drew1 | refine below_set ?_ GE567.out | refine below_set ?_ GE582.out | refine below_set ?_ GE589.out | refine below_set ?_ GE597.out) | exact HB.out))) : w.heap.size ≤ gb627)); have n18_ := am_ ((by rw [hg]; exact Nat.ne_of_lt (blk_lt (g := gb567) (o := .cells #[.slice A0_0 l0_0.length c0_0, .slice A0_1 l0_1.length c0_1] 24 (0, 0)) (by (with_reducible repeat (first | refine blk_drewN ?_ _ | refine blk_drew ?_ | refine blk_alloc ?_ _)); exact BK567.out)) : gb567 ≠ gb627)); have n19_ := am_ ((by rw [hg]; exact Nat.ne_of_gt (blk_lt (g := gb567) (o := .cells #[.slice A0_0 l0_0.length c0_0, .slice A0_1 l0_1.length c0_1] 24 (0, 0)) (by (with_reducible repeat (first | refine blk_drewN ?_ _ | refine blk_drew ?_ | refine blk_alloc ?_ _)); exact BK567.out)) : gb627 ≠ gb567)); have n20_ := am_ ((by rw [hg]; exact Nat.ne_of_lt (blk_lt (g := gb582) (o := .cells #[.slice Ao21 t575.length co21, .slice Ao24 t578.length co24] 27 (0, 0)) (by (with_reducible repeat (first | refine blk_drewN ?_ _ | refine blk_drew ?_ | refine blk_alloc ?_ _)); exact BK582.out)) : gb582 ≠ gb627)); have n21_ := am_ ((by rw [hg]; exact Nat.ne_of_gt (blk_lt (g := gb582) (o := .cells #[.slice Ao21 t575.length co21, .slice Ao24 t578.length co24] 27 (0, 0)) (by (with_reducible repeat (first | refine blk_drewN ?_ _ | refine blk_drew ?_ | refine blk_alloc ?_ _)); exact BK582.out)) : gb627 ≠ gb582)); have n22_ := am_ ((by rw [hg]; exact Nat.ne_of_lt (blk_lt (g := gb589) (o := .cells #[.slice Ao28 t607.length co28, .slice Ao32 t608.length co32] 27 (0, 0)) (by (with_reducible repeat (first | refine blk_drewN ?_ _ | refine blk_drew ?_ | refine blk_alloc ?_ _)); exact BK589.out)) : gb589 ≠ gb627)); have n23_ := am_ ((by rw [hg]; exact Nat.ne_of_gt (blk_lt (g := gb589) (o := .cells #[.slice Ao28 t607.length co28, .slice Ao32 t608.length co32] 27 (0, 0)) (by (with_reducible repeat (first | refine blk_drewN ?_ _ | refine blk_drew ?_ | refine blk_alloc ?_ _)); exact BK589.out)) : gb627 ≠ gb589)); have n24_ := am_ ((by rw [hg]; exact Nat.ne_of_lt (blk_lt (g := gb597) (o := .cells #[.slice Ao37 t590.length co37, .slice Ao42 t593.length co42] 27 (0, 0)) (by (with_reducible repeat (first | refine blk_drewN ?_ _ | refine blk_drew ?_ | refine blk_alloc ?_ _)); exact BK597.out)) : gb597 ≠ gb627)); have n25_ := am_ ((by rw [hg]; exact Nat.ne_of_gt (blk_lt (g := gb597) (o := .cells #[.slice Ao37 t590.length co37, .slice Ao42 t593.length co42] 27 (0, 0)) (by (with_reducible repeat (first | refine blk_drewN ?_ _ | refine blk_drew ?_ | refine blk_alloc ?_ _)); exact BK597.out)) : gb627 ≠ gb597)); clear HO_583000; clear HO_583001; clear HO_590000; clear HO_590001; clear HO_598000; clear HO_598001; clear HO616; clear HO619; clear HO622; clear HO625; clear BK567; clear BK582; clear BK589; clear BK597; clear HB; have HO_583000 := n0_; have HO_583001 := n1_; have HO_590000 := n2_; have HO_590001 := n3_; have HO_598000 := n4_; have HO_598001 := n5_; have HO616 := n6_; have HO619 := n7_; have HO622 := n8_; have HO625 := n9_; have BK567 := n10_; have BK582 := n11_; have BK589 := n12_; have BK597 := n13_; have HB := n14_; have BK627 := n15_; have GW627 := n16_; have GE627 := n17_; have NB567_627 := n18_; have NB627_567 := n19_; have NB582_627 := n20_; have NB627_582 := n21_; have NB589_627 := n22_; have NB627_589 := n23_; have NB597_627 := n24_; have NB627_597 := n25_; clear n0_ n1_ n2_ n3_ n4_ n5_ n6_ n7_ n8_ n9_ n10_ n11_ n12_ n13_ n14_ n15_ n16_ n17_ n18_ n19_ n20_ n21_ n22_ n23_ n24_ n25_; clear hb hbox hg; obtain ⟨Ao126, co126, eo126⟩ := Kd.R_slice HO622.out; subst eo126; have hnb127 := NB627_567.out; have hnc127 := NB567_627.out; have hnb128 := NB627_582.out; have hnc128 := NB582_627.out; have hnb129 := NB627_589.out; have hnc129 := NB589_627.out; have hnb130 := NB627_597.out; have hnc130 := NB597_627.out; have hcz131_0 : w125.cell? ⟨gb627, 0, none⟩ = some (.slice none 0 0) := (blk_cell BK627.out 0).trans rfl; have hcz131_1 : w125.cell? ⟨gb627, 1, none⟩ = some (.slice none 0 0) := (blk_cell BK627.out 1).trans rfl; have hfz131_0 := blk_frozen BK627.out 0; have hfz131_1 := blk_frozen BK627.out 1; obtain ⟨Ao132, co132, eo132⟩ := Kd.R_slice HO625.out; subst eo132))
           (try simp only [Act.put, List.setIfInBounds_toArray, List.set_cons_zero, List.set_cons_succ])
           go_cut [87] (fun v87 wc => ∃ (kq : Nat) (x87_109 : Bool), v87 = .bool x87_109 ∧ Aside0 (laws_FnExactTurnLoop.j2 kq t610 x87_109 t611 t612 = some r) ∧ Aside0 (kq ≤ kj65) ∧ Aside0 (Kd.R (Kd.int .i64) 3 wc w.heap.size (fun k_ => some k_ ≠ ((.slice Ao24 t578.length co24) : Value).ownBlock ∧ some k_ ≠ ((.slice Ao28 t607.length co28) : Value).ownBlock ∧ some k_ ≠ ((.slice Ao32 t608.length co32) : Value).ownBlock ∧ some k_ ≠ ((.slice Ao37 t590.length co37) : Value).ownBlock ∧ some k_ ≠ ((.slice Ao42 t593.length co42) : Value).ownBlock ∧ some k_ ≠ ((.slice Ao126 t620.length co126) : Value).ownBlock ∧ some k_ ≠ ((.slice Ao132 t623.length co132) : Value).ownBlock) (.slice Ao21 t575.length co21) t575) ∧ Aside0 (Kd.R (Kd.int .i64) 3 wc w.heap.size (fun k_ => some k_ ≠ ((.slice Ao21 t575.length co21) : Value).ownBlock ∧ some k_ ≠ ((.slice Ao28 t607.length co28) : Value).ownBlock ∧ some k_ ≠ ((.slice Ao32 t608.length co32) : Value).ownBlock ∧ some k_ ≠ ((.slice Ao37 t590.length co37) : Value).ownBlock ∧ some k_ ≠ ((.slice Ao42 t593.length co42) : Value).ownBlock ∧ some k_ ≠ ((.slice Ao126 t620.length co126) : Value).ownBlock ∧ some k_ ≠ ((.slice Ao132 t623.length co132) : Value).ownBlock) (.slice Ao24 t578.length co24) t578) ∧ Aside0 (Kd.R (Kd.int .i64) 3 wc w.heap.size (fun k_ => some k_ ≠ ((.slice Ao21 t575.length co21) : Value).ownBlock ∧ some k_ ≠ ((.slice Ao24 t578.length co24) : Value).ownBlock ∧ some k_ ≠ ((.slice Ao32 t608.length co32) : Value).ownBlock ∧ some k_ ≠ ((.slice Ao37 t590.length co37) : Value).ownBlock ∧ some k_ ≠ ((.slice Ao42 t593.length co42) : Value).ownBlock ∧ some k_ ≠ ((.slice Ao126 t620.length co126) : Value).ownBlock ∧ some k_ ≠ ((.slice Ao132 t623.length co132) : Value).ownBlock) (.slice Ao28 t607.length co28) t607) ∧ Aside0 (Kd.R (Kd.int .i64) 3 wc w.heap.size (fun k_ => some k_ ≠ ((.slice Ao21 t575.length co21) : Value).ownBlock ∧ some k_ ≠ ((.slice Ao24 t578.length co24) : Value).ownBlock ∧ some k_ ≠ ((.slice Ao28 t607.length co28) : Value).ownBlock ∧ some k_ ≠ ((.slice Ao37 t590.length co37) : Value).ownBlock ∧ some k_ ≠ ((.slice Ao42 t593.length co42) : Value).ownBlock ∧ some k_ ≠ ((.slice Ao126 t620.length co126) : Value).ownBlock ∧ some k_ ≠ ((.slice Ao132 t623.length co132) : Value).ownBlock) (.slice Ao32 t608.length co32) t608) ∧ Aside0 (Kd.R (Kd.int .i64) 3 wc w.heap.size (fun k_ => some k_ ≠ ((.slice Ao21 t575.length co21) : Value).ownBlock ∧ some k_ ≠ ((.slice Ao24 t578.length co24) : Value).ownBlock ∧ some k_ ≠ ((.slice Ao28 t607.length co28) : Value).ownBlock ∧ some k_ ≠ ((.slice Ao32 t608.length co32) : Value).ownBlock ∧ some k_ ≠ ((.slice Ao42 t593.length co42) : Value).ownBlock ∧ some k_ ≠ ((.slice Ao126 t620.length co126) : Value).ownBlock ∧ some k_ ≠ ((.slice Ao132 t623.length co132) : Value).ownBlock) (.slice Ao37 t590.length co37) t611) ∧ Aside0 (Kd.R (Kd.int .i64) 3 wc w.heap.size (fun k_ => some k_ ≠ ((.slice Ao21 t575.length co21) : Value).ownBlock ∧ some k_ ≠ ((.slice Ao24 t578.length co24) : Value).ownBlock ∧ some k_ ≠ ((.slice Ao28 t607.length co28) : Value).ownBlock ∧ some k_ ≠ ((.slice Ao32 t608.length co32) : Value).ownBlock ∧ some k_ ≠ ((.slice Ao37 t590.length co37) : Value).ownBlock ∧ some k_ ≠ ((.slice Ao126 t620.length co126) : Value).ownBlock ∧ some k_ ≠ ((.slice Ao132 t623.length co132) : Value).ownBlock) (.slice Ao42 t593.length co42) t612) ∧ Aside0 (Kd.R (Kd.int .i64) 3 wc w.heap.size (fun k_ => some k_ ≠ ((.slice Ao21 t575.length co21) : Value).ownBlock ∧ some k_ ≠ ((.slice Ao24 t578.length co24) : Value).ownBlock ∧ some k_ ≠ ((.slice Ao28 t607.length co28) : Value).ownBlock ∧ some k_ ≠ ((.slice Ao32 t608.length co32) : Value).ownBlock ∧ some k_ ≠ ((.slice Ao37 t590.length co37) : Value).ownBlock ∧ some k_ ≠ ((.slice Ao42 t593.length co42) : Value).ownBlock ∧ some k_ ≠ ((.slice Ao132 t623.length co132) : Value).ownBlock) (.slice Ao126 t620.length co126) t620) ∧ Aside0 (Kd.R (Kd.int .i64) 3 wc w.heap.size (fun k_ => some k_ ≠ ((.slice Ao21 t575.length co21) : Value).ownBlock ∧ some k_ ≠ ((.slice Ao24 t578.length co24) : Value).ownBlock ∧ some k_ ≠ ((.slice Ao28 t607.length co28) : Value).ownBlock ∧ some k_ ≠ ((.slice Ao32 t608.length co32) : Value).ownBlock ∧ some k_ ≠ ((.slice Ao37 t590.length co37) : Value).ownBlock ∧ some k_ ≠ ((.slice Ao42 t593.length co42) : Value).ownBlock ∧ some k_ ≠ ((.slice Ao126 t620.length co126) : Value).ownBlock) (.slice Ao132 t623.length co132) t623) ∧ Aside0 (wc.heap[gb567]? = some (.cells #[(.slice A0_0 l0_0.length c0_0), (.slice A0_1 l0_1.length c0_1)] 24 (0, 0))) ∧ Aside0 (wc.heap[gb582]? = some (.cells #[(.slice Ao21 t575.length co21), (.slice Ao24 t578.length co24)] 27 (0, 0))) ∧ Aside0 (wc.heap[gb589]? = some (.cells #[(.slice Ao28 t607.length co28), (.slice Ao32 t608.length co32)] 27 (0, 0))) ∧ Aside0 (wc.heap[gb597]? = some (.cells #[(.slice Ao37 t590.length co37), (.slice Ao42 t593.length co42)] 27 (0, 0))) ∧ Aside0 (wc.heap[gb627]? = some (.cells #[(.slice Ao126 t620.length co126), (.slice Ao132 t623.length co132)] 27 (0, 0))) ∧ Aside0 (Below w.heap.size w wc))
           case first =>
            have H := HC110.out
            clear HC110
            replace H := Option.bind_eq_some_iff.mp H
            obtain ⟨t628, A1330, H⟩ := H
            replace H : (if t628 = true then (laws_FnExactTurnLoop.j2 kj65 t610 (t626 != t581) t611 t612) else (laws_FnExactTurnLoop.j2 kj65 t610 true t611 t612)) = some r := H
            have A133 := am_ A1330
            clear A1330
            by_cases c134 : t628 = true
            ·subst c134
             have H1 : (laws_FnExactTurnLoop.j2 kj65 t610 (t626 != t581) t611 t612) = some r := by rw [if_pos rfl] at H; exact H
             clear H
             have H := H1
             clear H1
             have H' := am_ H
             clear H
             have hnb135 := NB627_567.out
             have hnc135 := NB567_627.out
             have hnb136 := NB627_582.out
             have hnc136 := NB582_627.out
             have hnb137 := NB627_589.out
             have hnc137 := NB589_627.out
             have hnb138 := NB627_597.out
             have hnc138 := NB597_627.out
             have hcz139_0 : w125.cell? ⟨gb627, 0, none⟩ = some (.slice none 0 0) := (blk_cell BK627.out 0).trans rfl
             have hcz139_1 : w125.cell? ⟨gb627, 1, none⟩ = some (.slice none 0 0) := (blk_cell BK627.out 1).trans rfl
             have hfz139_0 := blk_frozen BK627.out 0
             have hfz139_1 := blk_frozen BK627.out 1
             have hnb140 := NB582_567.out
             have hnc140 := NB567_582.out
             have hnb141 := NB582_589.out
             have hnc141 := NB589_582.out
             have hnb142 := NB582_597.out
             have hnc142 := NB597_582.out
             have hcz143_0 : w125.cell? ⟨gb582, 0, none⟩ = some (.slice Ao21 t575.length co21) := (blk_cell BK582.out 0).trans rfl
             have hcz143_1 : w125.cell? ⟨gb582, 1, none⟩ = some (.slice Ao24 t578.length co24) := (blk_cell BK582.out 1).trans rfl
             have hfz143_0 := blk_frozen BK582.out 0
             have hfz143_1 := blk_frozen BK582.out 1
             go_wp2_with (first | ((with_reducible refine gate_callee (f := 19) rfl ?_); refine goesL_ (some 81) rfl rfl Try.func19 (by kernel_rfl) rfl #[.agg #[.slice Ao126 t620.length co126, .slice Ao132 t623.length co132], .agg #[.slice Ao21 t575.length co21, .slice Ao24 t578.length co24]] rfl (by (try simp only [List.map_toArray, List.map_cons, List.map_nil]); first | done | rfl | (simp only [List.length_drop, List.length_take]; rfl)) ?_; (with_reducible refine (laws_eqLasso.calls kj65 _ _ t620 _ _ t623 _ _ t575 _ _ t578 true _ ?side1 ?side2 ?side3 ?side4 ?side5 ?side6 ?side7 ?side8 A133.out).mono ?_); (case side1 => refine (Kd.R_reads' (e := 3) (base := w.heap.size) (ok := fun k_ => ((((((((some k_ ≠ (.slice Ao132 t623.length co132 : Value).ownBlock ∧ some k_ ≠ (.slice Ao21 t575.length co21 : Value).ownBlock) ∧ some k_ ≠ (.slice Ao24 t578.length co24 : Value).ownBlock) ∧ some k_ ≠ (.slice Ao28 t607.length co28 : Value).ownBlock) ∧ some k_ ≠ (.slice Ao32 t608.length co32 : Value).ownBlock) ∧ some k_ ≠ (.slice Ao37 t590.length co37 : Value).ownBlock) ∧ some k_ ≠ (.slice Ao42 t593.length co42 : Value).ownBlock) ∧ some k_ ≠ (.slice Ao122 t614.length co122 : Value).ownBlock) ∧ some k_ ≠ (.slice Ao123 t617.length co123 : Value).ownBlock)) (n := t620.length) (c := co126) ?_).2.2; exact (by (with_reducible repeat (first | apply Kd.R_alloc | apply Kd.R_drewN | apply Kd.R_drew)); exact (Kd.R_mono (Kd.R_far (p := ⟨gb627, 1, none⟩) (Kd.R_far (p := ⟨gb627, 0, none⟩) (Kd.R_types HO622.out BK627.out (by decide)) (fun _ hk => hk.2) (.slice Ao126 t620.length co126)) (fun _ hk => hk.2) (.slice Ao132 t623.length co132)) (fun _ h_ => h_.1)))); (case side2 => exact (Kd.R_reads' HO622.out).2.1); (case side3 => refine (Kd.R_reads' (e := 3) (base := w.heap.size) (ok := fun k_ => ((((((((some k_ ≠ (.slice Ao126 t620.length co126 : Value).ownBlock ∧ some k_ ≠ (.slice Ao21 t575.length co21 : Value).ownBlock) ∧ some k_ ≠ (.slice Ao24 t578.length co24 : Value).ownBlock) ∧ some k_ ≠ (.slice Ao28 t607.length co28 : Value).ownBlock) ∧ some k_ ≠ (.slice Ao32 t608.length co32 : Value).ownBlock) ∧ some k_ ≠ (.slice Ao37 t590.length co37 : Value).ownBlock) ∧ some k_ ≠ (.slice Ao42 t593.length co42 : Value).ownBlock) ∧ some k_ ≠ (.slice Ao122 t614.length co122 : Value).ownBlock) ∧ some k_ ≠ (.slice Ao123 t617.length co123 : Value).ownBlock)) (n := t623.length) (c := co132) ?_).2.2; exact (by (with_reducible repeat (first | apply Kd.R_alloc | apply Kd.R_drewN | apply Kd.R_drew)); exact (Kd.R_mono (Kd.R_far (p := ⟨gb627, 1, none⟩) (Kd.R_far (p := ⟨gb627, 0, none⟩) (Kd.R_types HO625.out BK627.out (by decide)) (fun _ hk => hk.2) (.slice Ao126 t620.length co126)) (fun _ hk => hk.2) (.slice Ao132 t623.length co132)) (fun _ h_ => h_.1)))); (case side4 => exact (Kd.R_reads' HO625.out).2.1); (case side5 => refine (Kd.R_reads' (e := 3) (base := w.heap.size) (ok := fun k_ => (((((some k_ ≠ (.slice Ao24 t578.length co24 : Value).ownBlock ∧ (some k_ ≠ (.slice Ao28 t607.length co28 : Value).ownBlock ∧ (some k_ ≠ (.slice Ao32 t608.length co32 : Value).ownBlock ∧ (some k_ ≠ (.slice Ao37 t590.length co37 : Value).ownBlock ∧ some k_ ≠ (.slice Ao42 t593.length co42 : Value).ownBlock)))) ∧ some k_ ≠ (.slice Ao122 t614.length co122 : Value).ownBlock) ∧ some k_ ≠ (.slice Ao123 t617.length co123 : Value).ownBlock) ∧ some k_ ≠ (.slice Ao126 t620.length co126 : Value).ownBlock) ∧ some k_ ≠ (.slice Ao132 t623.length co132 : Value).ownBlock)) (n := t575.length) (c := co21) ?_).2.2; exact (by (with_reducible repeat (first | apply Kd.R_alloc | apply Kd.R_drewN | apply Kd.R_drew)); exact (Kd.R_mono (Kd.R_far (p := ⟨gb627, 1, none⟩) (Kd.R_far (p := ⟨gb627, 0, none⟩) (Kd.R_types HO_583000.out BK627.out (by decide)) (fun _ hk => hk.2) (.slice Ao126 t620.length co126)) (fun _ hk => hk.2) (.slice Ao132 t623.length co132)) (fun _ h_ => h_.1)))); (case side6 => exact (Kd.R_reads' HO_583000.out).2.1); (case side7 => refine (Kd.R_reads' (e := 3) (base := w.heap.size) (ok := fun k_ => (((((some k_ ≠ (.slice Ao21 t575.length co21 : Value).ownBlock ∧ (some k_ ≠ (.slice Ao28 t607.length co28 : Value).ownBlock ∧ (some k_ ≠ (.slice Ao32 t608.length co32 : Value).ownBlock ∧ (some k_ ≠ (.slice Ao37 t590.length co37 : Value).ownBlock ∧ some k_ ≠ (.slice Ao42 t593.length co42 : Value).ownBlock)))) ∧ some k_ ≠ (.slice Ao122 t614.length co122 : Value).ownBlock) ∧ some k_ ≠ (.slice Ao123 t617.length co123 : Value).ownBlock) ∧ some k_ ≠ (.slice Ao126 t620.length co126 : Value).ownBlock) ∧ some k_ ≠ (.slice Ao132 t623.length co132 : Value).ownBlock)) (n := t578.length) (c := co24) ?_).2.2; exact (by (with_reducible repeat (first | apply Kd.R_alloc | apply Kd.R_drewN | apply Kd.R_drew)); exact (Kd.R_mono (Kd.R_far (p := ⟨gb627, 1, none⟩) (Kd.R_far (p := ⟨gb627, 0, none⟩) (Kd.R_types HO_583001.out BK627.out (by decide)) (fun _ hk => hk.2) (.slice Ao126 t620.length co126)) (fun _ hk => hk.2) (.slice Ao132 t623.length co132)) (fun _ h_ => h_.1)))); (case side8 => exact (Kd.R_reads' HO_583001.out).2.1); rintro e w144 ⟨rfl, hb⟩; refine ⟨_, rfl, ?_⟩; have n0_ := am_ (Kd.R_below (by (with_reducible repeat (first | apply Kd.R_alloc | apply Kd.R_drewN | apply Kd.R_drew)); exact (Kd.R_mono (Kd.R_far (p := ⟨gb627, 1, none⟩) (Kd.R_far (p := ⟨gb627, 0, none⟩) (Kd.R_types HO_583000.out BK627.out (by decide)) (fun _ hk => hk.2) (.slice Ao126 t620.length co126)) (fun _ hk => hk.2) (.slice Ao132 t623.length co132)) (fun _ h_ => h_.1))) hb); have n1_ := am_ (Kd.R_below (by (with_reducible repeat (first | apply Kd.R_alloc | apply Kd.R_drewN | apply Kd.R_drew)); exact (Kd.R_mono (Kd.R_far (p := ⟨gb627, 1, none⟩) (Kd.R_far (p := ⟨gb627, 0, none⟩) (Kd.R_types HO_583001.out BK627.out (by decide)) (fun _ hk => hk.2) (.slice Ao126 t620.length co126)) (fun _ hk => hk.2) (.slice Ao132 t623.length co132)) (fun _ h_ => h_.1))) hb); have n2_ := am_ (Kd.R_below (by (with_reducible repeat (first | apply Kd.R_alloc | apply Kd.R_drewN | apply Kd.R_drew)); exact (Kd.R_mono (Kd.R_far (p := ⟨gb627, 1, none⟩) (Kd.R_far (p := ⟨gb627, 0, none⟩) (Kd.R_types HO_590000.out BK627.out (by decide)) (fun _ hk => hk.2) (.slice Ao126 t620.length co126)) (fun _ hk => hk.2) (.slice Ao132 t623.length co132)) (fun _ h_ => h_.1))) hb); have n3_ := am_ (Kd.R_below (by (with_reducible repeat (first | apply Kd.R_alloc | apply Kd.R_drewN | apply Kd.R_drew)); exact (Kd.R_mono (Kd.R_far (p := ⟨gb627, 1, none⟩) (Kd.R_far (p := ⟨gb627, 0, none⟩) (Kd.R_types HO_590001.out BK627.out (by decide)) (fun _ hk => hk.2) (.slice Ao126 t620.length co126)) (fun _ hk => hk.2) (.slice Ao132 t623.length co132)) (fun _ h_ => h_.1))) hb); have n4_ := am_ (Kd.R_below (by (with_reducible repeat (first | apply Kd.R_alloc | apply Kd.R_drewN | apply Kd.R_drew)); exact (Kd.R_mono (Kd.R_far (p := ⟨gb627, 1, none⟩) (Kd.R_far (p := ⟨gb627, 0, none⟩) (Kd.R_types HO_598000.out BK627.out (by decide)) (fun _ hk => hk.2) (.slice Ao126 t620.length co126)) (fun _ hk => hk.2) (.slice Ao132 t623.length co132)) (fun _ h_ => h_.1))) hb); have n5_ := am_ (Kd.R_below (by (with_reducible repeat (first | apply Kd.R_alloc | apply Kd.R_drewN | apply Kd.R_drew)); exact (Kd.R_mono (Kd.R_far (p := ⟨gb627, 1, none⟩) (Kd.R_far (p := ⟨gb627, 0, none⟩) (Kd.R_types HO_598001.out BK627.out (by decide)) (fun _ hk => hk.2) (.slice Ao126 t620.length co126)) (fun _ hk => hk.2) (.slice Ao132 t623.length co132)) (fun _ h_ => h_.1))) hb); have n6_ := am_ (Kd.R_below (by (with_reducible repeat (first | apply Kd.R_alloc | apply Kd.R_drewN | apply Kd.R_drew)); exact (Kd.R_mono (Kd.R_far (p := ⟨gb627, 1, none⟩) (Kd.R_far (p := ⟨gb627, 0, none⟩) (Kd.R_types HO616.out BK627.out (by decide)) (fun _ hk => hk.2) (.slice Ao126 t620.length co126)) (fun _ hk => hk.2) (.slice Ao132 t623.length co132)) (fun _ h_ => h_.1))) hb); have n7_ := am_ (Kd.R_below (by (with_reducible repeat (first | apply Kd.R_alloc | apply Kd.R_drewN | apply Kd.R_drew)); exact (Kd.R_mono (Kd.R_far (p := ⟨gb627, 1, none⟩) (Kd.R_far (p := ⟨gb627, 0, none⟩) (Kd.R_types HO619.out BK627.out (by decide)) (fun _ hk => hk.2) (.slice Ao126 t620.length co126)) (fun _ hk => hk.2) (.slice Ao132 t623.length co132)) (fun _ h_ => h_.1))) hb); have n8_ := am_ (Kd.R_below (by (with_reducible repeat (first | apply Kd.R_alloc | apply Kd.R_drewN | apply Kd.R_drew)); exact (Kd.R_mono (Kd.R_far (p := ⟨gb627, 1, none⟩) (Kd.R_far (p := ⟨gb627, 0, none⟩) (Kd.R_types HO622.out BK627.out (by decide)) (fun _ hk => hk.2) (.slice Ao126 t620.length co126)) (fun _ hk => hk.2) (.slice Ao132 t623.length co132)) (fun _ h_ => h_.1))) hb); have n9_ := am_ (Kd.R_below (by (with_reducible repeat (first | apply Kd.R_alloc | apply Kd.R_drewN | apply Kd.R_drew)); exact (Kd.R_mono (Kd.R_far (p := ⟨gb627, 1, none⟩) (Kd.R_far (p := ⟨gb627, 0, none⟩) (Kd.R_types HO625.out BK627.out (by decide)) (fun _ hk => hk.2) (.slice Ao126 t620.length co126)) (fun _ hk => hk.2) (.slice Ao132 t623.length co132)) (fun _ h_ => h_.1))) hb); have n10_ := am_ (blk_below (g := gb567) (o := .cells #[.slice A0_0 l0_0.length c0_0, .slice A0_1 l0_1.length c0_1] 24 (0, 0)) (by (with_reducible repeat (first | refine blk_drewN ?_ _ | refine blk_drew ?_ | refine blk_alloc ?_ _)); refine blk_far ?_ NB567_627.out _; (with_reducible repeat (first | refine blk_drewN ?_ _ | refine blk_drew ?_ | refine blk_alloc ?_ _)); refine blk_far ?_ NB567_627.out _; (with_reducible repeat (first | refine blk_drewN ?_ _ | refine blk_drew ?_ | refine blk_alloc ?_ _)); exact BK567.out) hb); have n11_ := am_ (blk_below (g := gb582) (o := .cells #[.slice Ao21 t575.length co21, .slice Ao24 t578.length co24] 27 (0, 0)) (by (with_reducible repeat (first | refine blk_drewN ?_ _ | refine blk_drew ?_ | refine blk_alloc ?_ _)); refine blk_far ?_ NB582_627.out _; (with_reducible repeat (first | refine blk_drewN ?_ _ | refine blk_drew ?_ | refine blk_alloc ?_ _)); refine blk_far ?_ NB582_627.out _; (with_reducible repeat (first | refine blk_drewN ?_ _ | refine blk_drew ?_ | refine blk_alloc ?_ _)); exact BK582.out) hb); have n12_ := am_ (blk_below (g := gb589) (o := .cells #[.slice Ao28 t607.length co28, .slice Ao32 t608.length co32] 27 (0, 0)) (by (with_reducible repeat (first | refine blk_drewN ?_ _ | refine blk_drew ?_ | refine blk_alloc ?_ _)); refine blk_far ?_ NB589_627.out _; (with_reducible repeat (first | refine blk_drewN ?_ _ | refine blk_drew ?_ | refine blk_alloc ?_ _)); refine blk_far ?_ NB589_627.out _; (with_reducible repeat (first | refine blk_drewN ?_ _ | refine blk_drew ?_ | refine blk_alloc ?_ _)); exact BK589.out) hb); have n13_ := am_ (blk_below (g := gb597) (o := .cells #[.slice Ao37 t590.length co37, .slice Ao42 t593.length co42] 27 (0, 0)) (by (with_reducible repeat (first | refine blk_drewN ?_ _ | refine blk_drew ?_ | refine blk_alloc ?_ _)); refine blk_far ?_ NB597_627.out _; (with_reducible repeat (first | refine blk_drewN ?_ _ | refine blk_drew ?_ | refine blk_alloc ?_ _)); refine blk_far ?_ NB597_627.out _; (with_reducible repeat (first | refine blk_drewN ?_ _ | refine blk_drew ?_ | refine blk_alloc ?_ _)); exact BK597.out) hb); have n14_ := am_ (blk_below (g := gb627) (o := .cells #[.slice Ao126 t620.length co126, .slice Ao132 t623.length co132] 27 (0, 0)) (by (with_reducible repeat (first | refine blk_drewN ?_ _ | refine blk_drew ?_ | refine blk_alloc ?_ _)); refine blk_put (cs := #[.slice Ao126 t620.length co126, .slice none 0 0]) ?_ 1 _ rfl; (with_reducible repeat (first | refine blk_drewN ?_ _ | refine blk_drew ?_ | refine blk_alloc ?_ _)); refine blk_put (cs := #[.slice none 0 0, .slice none 0 0]) ?_ 0 _ rfl; (with_reducible repeat (first | refine blk_drewN ?_ _ | refine blk_drew ?_ | refine blk_alloc ?_ _)); exact BK627.out) hb); have n15_ := am_ (below_step (by repeat (first | (with_reducible first | exact HB.out | apply below_alloc | apply pw_below_drewN | apply below_drew1 | refine below_set ?_ GE567.out | refine below_set ?_ GE582.out | refine below_set ?_ GE589.out | refine below_set ?_ GE597.out | refine below_set ?_ GE627.out) | exact HB.out)) hb); clear HO_583000; clear HO_583001; clear HO_590000; clear HO_590001; clear HO_598000; clear HO_598001; clear HO616; clear HO619; clear HO622; clear HO625; clear BK567; clear BK582; clear BK589; clear BK597; clear BK627; clear HB; have HO_583000 := n0_; have HO_583001 := n1_; have HO_590000 := n2_; have HO_590001 := n3_; have HO_598000 := n4_; have HO_598001 := n5_; have HO616 := n6_; have HO619 := n7_; have HO622 := n8_; have HO625 := n9_; have BK567 := n10_; have BK582 := n11_; have BK589 := n12_; have BK597 := n13_; have BK627 := n14_; have HB := n15_; clear n0_ n1_ n2_ n3_ n4_ n5_ n6_ n7_ n8_ n9_ n10_ n11_ n12_ n13_ n14_ n15_; (try clear hb); (try clear hb2); (try clear hk); (try clear hi)))
             go_meet
             case rel => exact ⟨_, ((t626 != t581)), (by first | rfl | (simp; done) | (simp [*]; done)), H', ⟨by have := HJ10.out; have := HJ65.out; first | omega | exact Nat.le_refl _⟩, ⟨by (try simp only [hl590000_65]); (try simp only [hl590001_65]); (with_reducible repeat (first | apply Kd.R_alloc | apply Kd.R_drewN | apply Kd.R_drew)); exact Kd.R_mono HO_583000.out (fun _ hk => ⟨hk.1.1.1.1.1, hk.1.1.1.1.2.1, hk.1.1.1.1.2.2.1, hk.1.1.1.1.2.2.2.1, hk.1.1.1.1.2.2.2.2, hk.1.2, hk.2⟩)⟩, ⟨by (try simp only [hl590000_65]); (try simp only [hl590001_65]); (with_reducible repeat (first | apply Kd.R_alloc | apply Kd.R_drewN | apply Kd.R_drew)); exact Kd.R_mono HO_583001.out (fun _ hk => ⟨hk.1.1.1.1.1, hk.1.1.1.1.2.1, hk.1.1.1.1.2.2.1, hk.1.1.1.1.2.2.2.1, hk.1.1.1.1.2.2.2.2, hk.1.2, hk.2⟩)⟩, ⟨by (try simp only [hl590000_65]); (try simp only [hl590001_65]); (with_reducible repeat (first | apply Kd.R_alloc | apply Kd.R_drewN | apply Kd.R_drew)); exact Kd.R_mono HO_590000.out (fun _ hk => ⟨hk.1.1.1.1.1, hk.1.1.1.1.2.1, hk.1.1.1.1.2.2.1, hk.1.1.1.1.2.2.2.1, hk.1.1.1.1.2.2.2.2, hk.1.2, hk.2⟩)⟩, ⟨by (try simp only [hl590000_65]); (try simp only [hl590001_65]); (with_reducible repeat (first | apply Kd.R_alloc | apply Kd.R_drewN | apply Kd.R_drew)); exact Kd.R_mono HO_590001.out (fun _ hk => ⟨hk.1.1.1.1.1, hk.1.1.1.1.2.1, hk.1.1.1.1.2.2.1, hk.1.1.1.1.2.2.2.1, hk.1.1.1.1.2.2.2.2, hk.1.2, hk.2⟩)⟩, ⟨by (try simp only [hl590000_65]); (try simp only [hl590001_65]); (with_reducible repeat (first | apply Kd.R_alloc | apply Kd.R_drewN | apply Kd.R_drew)); exact Kd.R_mono HO_598000.out (fun _ hk => ⟨hk.1.1.1.1.1, hk.1.1.1.1.2.1, hk.1.1.1.1.2.2.1, hk.1.1.1.1.2.2.2.1, hk.1.1.1.1.2.2.2.2, hk.1.2, hk.2⟩)⟩, ⟨by (try simp only [hl590000_65]); (try simp only [hl590001_65]); (with_reducible repeat (first | apply Kd.R_alloc | apply Kd.R_drewN | apply Kd.R_drew)); exact Kd.R_mono HO_598001.out (fun _ hk => ⟨hk.1.1.1.1.1, hk.1.1.1.1.2.1, hk.1.1.1.1.2.2.1, hk.1.1.1.1.2.2.2.1, hk.1.1.1.1.2.2.2.2, hk.1.2, hk.2⟩)⟩, ⟨by (try simp only [hl590000_65]); (try simp only [hl590001_65]); (with_reducible repeat (first | apply Kd.R_alloc | apply Kd.R_drewN | apply Kd.R_drew)); exact Kd.R_mono HO622.out (fun _ hk => ⟨hk.1.1.1.1.1.1.1.2, hk.1.1.1.1.1.1.2, hk.1.1.1.1.1.2, hk.1.1.1.1.2, hk.1.1.1.2, hk.1.1.2, hk.1.1.1.1.1.1.1.1⟩)⟩, ⟨by (try simp only [hl590000_65]); (try simp only [hl590001_65]); (with_reducible repeat (first | apply Kd.R_alloc | apply Kd.R_drewN | apply Kd.R_drew)); exact Kd.R_mono HO625.out (fun _ hk => ⟨hk.1.1.1.1.1.1.1.2, hk.1.1.1.1.1.1.2, hk.1.1.1.1.1.2, hk.1.1.1.1.2, hk.1.1.1.2, hk.1.1.2, hk.1.1.1.1.1.1.1.1⟩)⟩, ⟨by (try simp only [hl590000_65]); (try simp only [hl590001_65]); (with_reducible repeat (first | refine blk_drewN ?_ _ | refine blk_drew ?_ | refine blk_alloc ?_ _)); exact BK567.out⟩, ⟨by (try simp only [hl590000_65]); (try simp only [hl590001_65]); (with_reducible repeat (first | refine blk_drewN ?_ _ | refine blk_drew ?_ | refine blk_alloc ?_ _)); exact BK582.out⟩, ⟨by (try simp only [hl590000_65]); (try simp only [hl590001_65]); (with_reducible repeat (first | refine blk_drewN ?_ _ | refine blk_drew ?_ | refine blk_alloc ?_ _)); exact BK589.out⟩, ⟨by (try simp only [hl590000_65]); (try simp only [hl590001_65]); (with_reducible repeat (first | refine blk_drewN ?_ _ | refine blk_drew ?_ | refine blk_alloc ?_ _)); exact BK597.out⟩, ⟨by (try simp only [hl590000_65]); (try simp only [hl590001_65]); (with_reducible repeat (first | refine blk_drewN ?_ _ | refine blk_drew ?_ | refine blk_alloc ?_ _)); exact BK627.out⟩, ⟨by repeat (first | (with_reducible first | exact HB.out | apply below_alloc | apply pw_below_drewN | apply below_drew1 | refine below_set ?_ GE567.out | refine below_set ?_ GE582.out | refine below_set ?_ GE589.out | refine below_set ?_ GE597.out | refine below_set ?_ GE627.out) | exact HB.out)⟩⟩
            ·replace c134 := Bool.eq_false_iff.mpr c134
             subst c134
             have H1 : (laws_FnExactTurnLoop.j2 kj65 t610 true t611 t612) = some r := by rw [if_neg (show ¬ (false = true) by decide)] at H; exact H
             clear H
             have H := H1
             clear H1
             have H' := am_ H
             clear H
             have hnb145 := NB627_567.out
             have hnc145 := NB567_627.out
             have hnb146 := NB627_582.out
             have hnc146 := NB582_627.out
             have hnb147 := NB627_589.out
             have hnc147 := NB589_627.out
             have hnb148 := NB627_597.out
             have hnc148 := NB597_627.out
             have hcz149_0 : w125.cell? ⟨gb627, 0, none⟩ = some (.slice none 0 0) := (blk_cell BK627.out 0).trans rfl
             have hcz149_1 : w125.cell? ⟨gb627, 1, none⟩ = some (.slice none 0 0) := (blk_cell BK627.out 1).trans rfl
             have hfz149_0 := blk_frozen BK627.out 0
             have hfz149_1 := blk_frozen BK627.out 1
             have hnb150 := NB582_567.out
             have hnc150 := NB567_582.out
             have hnb151 := NB582_589.out
             have hnc151 := NB589_582.out
             have hnb152 := NB582_597.out
             have hnc152 := NB597_582.out
             have hcz153_0 : w125.cell? ⟨gb582, 0, none⟩ = some (.slice Ao21 t575.length co21) := (blk_cell BK582.out 0).trans rfl
             have hcz153_1 : w125.cell? ⟨gb582, 1, none⟩ = some (.slice Ao24 t578.length co24) := (blk_cell BK582.out 1).trans rfl
             have hfz153_0 := blk_frozen BK582.out 0
             have hfz153_1 := blk_frozen BK582.out 1
             go_wp2_with (first | ((with_reducible refine gate_callee (f := 19) rfl ?_); refine goesL_ (some 81) rfl rfl Try.func19 (by kernel_rfl) rfl #[.agg #[.slice Ao126 t620.length co126, .slice Ao132 t623.length co132], .agg #[.slice Ao21 t575.length co21, .slice Ao24 t578.length co24]] rfl (by (try simp only [List.map_toArray, List.map_cons, List.map_nil]); first | done | rfl | (simp only [List.length_drop, List.length_take]; rfl)) ?_; (with_reducible refine (laws_eqLasso.calls kj65 _ _ t620 _ _ t623 _ _ t575 _ _ t578 false _ ?side1 ?side2 ?side3 ?side4 ?side5 ?side6 ?side7 ?side8 A133.out).mono ?_); (case side1 => refine (Kd.R_reads' (e := 3) (base := w.heap.size) (ok := fun k_ => ((((((((some k_ ≠ (.slice Ao132 t623.length co132 : Value).ownBlock ∧ some k_ ≠ (.slice Ao21 t575.length co21 : Value).ownBlock) ∧ some k_ ≠ (.slice Ao24 t578.length co24 : Value).ownBlock) ∧ some k_ ≠ (.slice Ao28 t607.length co28 : Value).ownBlock) ∧ some k_ ≠ (.slice Ao32 t608.length co32 : Value).ownBlock) ∧ some k_ ≠ (.slice Ao37 t590.length co37 : Value).ownBlock) ∧ some k_ ≠ (.slice Ao42 t593.length co42 : Value).ownBlock) ∧ some k_ ≠ (.slice Ao122 t614.length co122 : Value).ownBlock) ∧ some k_ ≠ (.slice Ao123 t617.length co123 : Value).ownBlock)) (n := t620.length) (c := co126) ?_).2.2; exact (by (with_reducible repeat (first | apply Kd.R_alloc | apply Kd.R_drewN | apply Kd.R_drew)); exact (Kd.R_mono (Kd.R_far (p := ⟨gb627, 1, none⟩) (Kd.R_far (p := ⟨gb627, 0, none⟩) (Kd.R_types HO622.out BK627.out (by decide)) (fun _ hk => hk.2) (.slice Ao126 t620.length co126)) (fun _ hk => hk.2) (.slice Ao132 t623.length co132)) (fun _ h_ => h_.1)))); (case side2 => exact (Kd.R_reads' HO622.out).2.1); (case side3 => refine (Kd.R_reads' (e := 3) (base := w.heap.size) (ok := fun k_ => ((((((((some k_ ≠ (.slice Ao126 t620.length co126 : Value).ownBlock ∧ some k_ ≠ (.slice Ao21 t575.length co21 : Value).ownBlock) ∧ some k_ ≠ (.slice Ao24 t578.length co24 : Value).ownBlock) ∧ some k_ ≠ (.slice Ao28 t607.length co28 : Value).ownBlock) ∧ some k_ ≠ (.slice Ao32 t608.length co32 : Value).ownBlock) ∧ some k_ ≠ (.slice Ao37 t590.length co37 : Value).ownBlock) ∧ some k_ ≠ (.slice Ao42 t593.length co42 : Value).ownBlock) ∧ some k_ ≠ (.slice Ao122 t614.length co122 : Value).ownBlock) ∧ some k_ ≠ (.slice Ao123 t617.length co123 : Value).ownBlock)) (n := t623.length) (c := co132) ?_).2.2; exact (by (with_reducible repeat (first | apply Kd.R_alloc | apply Kd.R_drewN | apply Kd.R_drew)); exact (Kd.R_mono (Kd.R_far (p := ⟨gb627, 1, none⟩) (Kd.R_far (p := ⟨gb627, 0, none⟩) (Kd.R_types HO625.out BK627.out (by decide)) (fun _ hk => hk.2) (.slice Ao126 t620.length co126)) (fun _ hk => hk.2) (.slice Ao132 t623.length co132)) (fun _ h_ => h_.1)))); (case side4 => exact (Kd.R_reads' HO625.out).2.1); (case side5 => refine (Kd.R_reads' (e := 3) (base := w.heap.size) (ok := fun k_ => (((((some k_ ≠ (.slice Ao24 t578.length co24 : Value).ownBlock ∧ (some k_ ≠ (.slice Ao28 t607.length co28 : Value).ownBlock ∧ (some k_ ≠ (.slice Ao32 t608.length co32 : Value).ownBlock ∧ (some k_ ≠ (.slice Ao37 t590.length co37 : Value).ownBlock ∧ some k_ ≠ (.slice Ao42 t593.length co42 : Value).ownBlock)))) ∧ some k_ ≠ (.slice Ao122 t614.length co122 : Value).ownBlock) ∧ some k_ ≠ (.slice Ao123 t617.length co123 : Value).ownBlock) ∧ some k_ ≠ (.slice Ao126 t620.length co126 : Value).ownBlock) ∧ some k_ ≠ (.slice Ao132 t623.length co132 : Value).ownBlock)) (n := t575.length) (c := co21) ?_).2.2; exact (by (with_reducible repeat (first | apply Kd.R_alloc | apply Kd.R_drewN | apply Kd.R_drew)); exact (Kd.R_mono (Kd.R_far (p := ⟨gb627, 1, none⟩) (Kd.R_far (p := ⟨gb627, 0, none⟩) (Kd.R_types HO_583000.out BK627.out (by decide)) (fun _ hk => hk.2) (.slice Ao126 t620.length co126)) (fun _ hk => hk.2) (.slice Ao132 t623.length co132)) (fun _ h_ => h_.1)))); (case side6 => exact (Kd.R_reads' HO_583000.out).2.1); (case side7 => refine (Kd.R_reads' (e := 3) (base := w.heap.size) (ok := fun k_ => (((((some k_ ≠ (.slice Ao21 t575.length co21 : Value).ownBlock ∧ (some k_ ≠ (.slice Ao28 t607.length co28 : Value).ownBlock ∧ (some k_ ≠ (.slice Ao32 t608.length co32 : Value).ownBlock ∧ (some k_ ≠ (.slice Ao37 t590.length co37 : Value).ownBlock ∧ some k_ ≠ (.slice Ao42 t593.length co42 : Value).ownBlock)))) ∧ some k_ ≠ (.slice Ao122 t614.length co122 : Value).ownBlock) ∧ some k_ ≠ (.slice Ao123 t617.length co123 : Value).ownBlock) ∧ some k_ ≠ (.slice Ao126 t620.length co126 : Value).ownBlock) ∧ some k_ ≠ (.slice Ao132 t623.length co132 : Value).ownBlock)) (n := t578.length) (c := co24) ?_).2.2; exact (by (with_reducible repeat (first | apply Kd.R_alloc | apply Kd.R_drewN | apply Kd.R_drew)); exact (Kd.R_mono (Kd.R_far (p := ⟨gb627, 1, none⟩) (Kd.R_far (p := ⟨gb627, 0, none⟩) (Kd.R_types HO_583001.out BK627.out (by decide)) (fun _ hk => hk.2) (.slice Ao126 t620.length co126)) (fun _ hk => hk.2) (.slice Ao132 t623.length co132)) (fun _ h_ => h_.1)))); (case side8 => exact (Kd.R_reads' HO_583001.out).2.1); rintro e w154 ⟨rfl, hb⟩; refine ⟨_, rfl, ?_⟩; have n0_ := am_ (Kd.R_below (by (with_reducible repeat (first | apply Kd.R_alloc | apply Kd.R_drewN | apply Kd.R_drew)); exact (Kd.R_mono (Kd.R_far (p := ⟨gb627, 1, none⟩) (Kd.R_far (p := ⟨gb627, 0, none⟩) (Kd.R_types HO_583000.out BK627.out (by decide)) (fun _ hk => hk.2) (.slice Ao126 t620.length co126)) (fun _ hk => hk.2) (.slice Ao132 t623.length co132)) (fun _ h_ => h_.1))) hb); have n1_ := am_ (Kd.R_below (by (with_reducible repeat (first | apply Kd.R_alloc | apply Kd.R_drewN | apply Kd.R_drew)); exact (Kd.R_mono (Kd.R_far (p := ⟨gb627, 1, none⟩) (Kd.R_far (p := ⟨gb627, 0, none⟩) (Kd.R_types HO_583001.out BK627.out (by decide)) (fun _ hk => hk.2) (.slice Ao126 t620.length co126)) (fun _ hk => hk.2) (.slice Ao132 t623.length co132)) (fun _ h_ => h_.1))) hb); have n2_ := am_ (Kd.R_below (by (with_reducible repeat (first | apply Kd.R_alloc | apply Kd.R_drewN | apply Kd.R_drew)); exact (Kd.R_mono (Kd.R_far (p := ⟨gb627, 1, none⟩) (Kd.R_far (p := ⟨gb627, 0, none⟩) (Kd.R_types HO_590000.out BK627.out (by decide)) (fun _ hk => hk.2) (.slice Ao126 t620.length co126)) (fun _ hk => hk.2) (.slice Ao132 t623.length co132)) (fun _ h_ => h_.1))) hb); have n3_ := am_ (Kd.R_below (by (with_reducible repeat (first | apply Kd.R_alloc | apply Kd.R_drewN | apply Kd.R_drew)); exact (Kd.R_mono (Kd.R_far (p := ⟨gb627, 1, none⟩) (Kd.R_far (p := ⟨gb627, 0, none⟩) (Kd.R_types HO_590001.out BK627.out (by decide)) (fun _ hk => hk.2) (.slice Ao126 t620.length co126)) (fun _ hk => hk.2) (.slice Ao132 t623.length co132)) (fun _ h_ => h_.1))) hb); have n4_ := am_ (Kd.R_below (by (with_reducible repeat (first | apply Kd.R_alloc | apply Kd.R_drewN | apply Kd.R_drew)); exact (Kd.R_mono (Kd.R_far (p := ⟨gb627, 1, none⟩) (Kd.R_far (p := ⟨gb627, 0, none⟩) (Kd.R_types HO_598000.out BK627.out (by decide)) (fun _ hk => hk.2) (.slice Ao126 t620.length co126)) (fun _ hk => hk.2) (.slice Ao132 t623.length co132)) (fun _ h_ => h_.1))) hb); have n5_ := am_ (Kd.R_below (by (with_reducible repeat (first | apply Kd.R_alloc | apply Kd.R_drewN | apply Kd.R_drew)); exact (Kd.R_mono (Kd.R_far (p := ⟨gb627, 1, none⟩) (Kd.R_far (p := ⟨gb627, 0, none⟩) (Kd.R_types HO_598001.out BK627.out (by decide)) (fun _ hk => hk.2) (.slice Ao126 t620.length co126)) (fun _ hk => hk.2) (.slice Ao132 t623.length co132)) (fun _ h_ => h_.1))) hb); have n6_ := am_ (Kd.R_below (by (with_reducible repeat (first | apply Kd.R_alloc | apply Kd.R_drewN | apply Kd.R_drew)); exact (Kd.R_mono (Kd.R_far (p := ⟨gb627, 1, none⟩) (Kd.R_far (p := ⟨gb627, 0, none⟩) (Kd.R_types HO616.out BK627.out (by decide)) (fun _ hk => hk.2) (.slice Ao126 t620.length co126)) (fun _ hk => hk.2) (.slice Ao132 t623.length co132)) (fun _ h_ => h_.1))) hb); have n7_ := am_ (Kd.R_below (by (with_reducible repeat (first | apply Kd.R_alloc | apply Kd.R_drewN | apply Kd.R_drew)); exact (Kd.R_mono (Kd.R_far (p := ⟨gb627, 1, none⟩) (Kd.R_far (p := ⟨gb627, 0, none⟩) (Kd.R_types HO619.out BK627.out (by decide)) (fun _ hk => hk.2) (.slice Ao126 t620.length co126)) (fun _ hk => hk.2) (.slice Ao132 t623.length co132)) (fun _ h_ => h_.1))) hb); have n8_ := am_ (Kd.R_below (by (with_reducible repeat (first | apply Kd.R_alloc | apply Kd.R_drewN | apply Kd.R_drew)); exact (Kd.R_mono (Kd.R_far (p := ⟨gb627, 1, none⟩) (Kd.R_far (p := ⟨gb627, 0, none⟩) (Kd.R_types HO622.out BK627.out (by decide)) (fun _ hk => hk.2) (.slice Ao126 t620.length co126)) (fun _ hk => hk.2) (.slice Ao132 t623.length co132)) (fun _ h_ => h_.1))) hb); have n9_ := am_ (Kd.R_below (by (with_reducible repeat (first | apply Kd.R_alloc | apply Kd.R_drewN | apply Kd.R_drew)); exact (Kd.R_mono (Kd.R_far (p := ⟨gb627, 1, none⟩) (Kd.R_far (p := ⟨gb627, 0, none⟩) (Kd.R_types HO625.out BK627.out (by decide)) (fun _ hk => hk.2) (.slice Ao126 t620.length co126)) (fun _ hk => hk.2) (.slice Ao132 t623.length co132)) (fun _ h_ => h_.1))) hb); have n10_ := am_ (blk_below (g := gb567) (o := .cells #[.slice A0_0 l0_0.length c0_0, .slice A0_1 l0_1.length c0_1] 24 (0, 0)) (by (with_reducible repeat (first | refine blk_drewN ?_ _ | refine blk_drew ?_ | refine blk_alloc ?_ _)); refine blk_far ?_ NB567_627.out _; (with_reducible repeat (first | refine blk_drewN ?_ _ | refine blk_drew ?_ | refine blk_alloc ?_ _)); refine blk_far ?_ NB567_627.out _; (with_reducible repeat (first | refine blk_drewN ?_ _ | refine blk_drew ?_ | refine blk_alloc ?_ _)); exact BK567.out) hb); have n11_ := am_ (blk_below (g := gb582) (o := .cells #[.slice Ao21 t575.length co21, .slice Ao24 t578.length co24] 27 (0, 0)) (by (with_reducible repeat (first | refine blk_drewN ?_ _ | refine blk_drew ?_ | refine blk_alloc ?_ _)); refine blk_far ?_ NB582_627.out _; (with_reducible repeat (first | refine blk_drewN ?_ _ | refine blk_drew ?_ | refine blk_alloc ?_ _)); refine blk_far ?_ NB582_627.out _; (with_reducible repeat (first | refine blk_drewN ?_ _ | refine blk_drew ?_ | refine blk_alloc ?_ _)); exact BK582.out) hb); have n12_ := am_ (blk_below (g := gb589) (o := .cells #[.slice Ao28 t607.length co28, .slice Ao32 t608.length co32] 27 (0, 0)) (by (with_reducible repeat (first | refine blk_drewN ?_ _ | refine blk_drew ?_ | refine blk_alloc ?_ _)); refine blk_far ?_ NB589_627.out _; (with_reducible repeat (first | refine blk_drewN ?_ _ | refine blk_drew ?_ | refine blk_alloc ?_ _)); refine blk_far ?_ NB589_627.out _; (with_reducible repeat (first | refine blk_drewN ?_ _ | refine blk_drew ?_ | refine blk_alloc ?_ _)); exact BK589.out) hb); have n13_ := am_ (blk_below (g := gb597) (o := .cells #[.slice Ao37 t590.length co37, .slice Ao42 t593.length co42] 27 (0, 0)) (by (with_reducible repeat (first | refine blk_drewN ?_ _ | refine blk_drew ?_ | refine blk_alloc ?_ _)); refine blk_far ?_ NB597_627.out _; (with_reducible repeat (first | refine blk_drewN ?_ _ | refine blk_drew ?_ | refine blk_alloc ?_ _)); refine blk_far ?_ NB597_627.out _; (with_reducible repeat (first | refine blk_drewN ?_ _ | refine blk_drew ?_ | refine blk_alloc ?_ _)); exact BK597.out) hb); have n14_ := am_ (blk_below (g := gb627) (o := .cells #[.slice Ao126 t620.length co126, .slice Ao132 t623.length co132] 27 (0, 0)) (by (with_reducible repeat (first | refine blk_drewN ?_ _ | refine blk_drew ?_ | refine blk_alloc ?_ _)); refine blk_put (cs := #[.slice Ao126 t620.length co126, .slice none 0 0]) ?_ 1 _ rfl; (with_reducible repeat (first | refine blk_drewN ?_ _ | refine blk_drew ?_ | refine blk_alloc ?_ _)); refine blk_put (cs := #[.slice none 0 0, .slice none 0 0]) ?_ 0 _ rfl; (with_reducible repeat (first | refine blk_drewN ?_ _ | refine blk_drew ?_ | refine blk_alloc ?_ _)); exact BK627.out) hb); have n15_ := am_ (below_step (by repeat (first | (with_reducible first | exact HB.out | apply below_alloc | apply pw_below_drewN | apply below_drew1 | refine below_set ?_ GE567.out | refine below_set ?_ GE582.out | refine below_set ?_ GE589.out | refine below_set ?_ GE597.out | refine below_set ?_ GE627.out) | exact HB.out)) hb); clear HO_583000; clear HO_583001; clear HO_590000; clear HO_590001; clear HO_598000; clear HO_598001; clear HO616; clear HO619; clear HO622; clear HO625; clear BK567; clear BK582; clear BK589; clear BK597; clear BK627; clear HB; have HO_583000 := n0_; have HO_583001 := n1_; have HO_590000 := n2_; have HO_590001 := n3_; have HO_598000 := n4_; have HO_598001 := n5_; have HO616 := n6_; have HO619 := n7_; have HO622 := n8_; have HO625 := n9_; have BK567 := n10_; have BK582 := n11_; have BK589 := n12_; have BK597 := n13_; have BK627 := n14_; have HB := n15_; clear n0_ n1_ n2_ n3_ n4_ n5_ n6_ n7_ n8_ n9_ n10_ n11_ n12_ n13_ n14_ n15_; (try clear hb); (try clear hb2); (try clear hk); (try clear hi)))
             go_meet
             case rel => exact ⟨_, (true), (by first | rfl | (simp; done) | (simp [*]; done)), H', ⟨by have := HJ10.out; have := HJ65.out; first | omega | exact Nat.le_refl _⟩, ⟨by (try simp only [hl590000_65]); (try simp only [hl590001_65]); (with_reducible repeat (first | apply Kd.R_alloc | apply Kd.R_drewN | apply Kd.R_drew)); exact Kd.R_mono HO_583000.out (fun _ hk => ⟨hk.1.1.1.1.1, hk.1.1.1.1.2.1, hk.1.1.1.1.2.2.1, hk.1.1.1.1.2.2.2.1, hk.1.1.1.1.2.2.2.2, hk.1.2, hk.2⟩)⟩, ⟨by (try simp only [hl590000_65]); (try simp only [hl590001_65]); (with_reducible repeat (first | apply Kd.R_alloc | apply Kd.R_drewN | apply Kd.R_drew)); exact Kd.R_mono HO_583001.out (fun _ hk => ⟨hk.1.1.1.1.1, hk.1.1.1.1.2.1, hk.1.1.1.1.2.2.1, hk.1.1.1.1.2.2.2.1, hk.1.1.1.1.2.2.2.2, hk.1.2, hk.2⟩)⟩, ⟨by (try simp only [hl590000_65]); (try simp only [hl590001_65]); (with_reducible repeat (first | apply Kd.R_alloc | apply Kd.R_drewN | apply Kd.R_drew)); exact Kd.R_mono HO_590000.out (fun _ hk => ⟨hk.1.1.1.1.1, hk.1.1.1.1.2.1, hk.1.1.1.1.2.2.1, hk.1.1.1.1.2.2.2.1, hk.1.1.1.1.2.2.2.2, hk.1.2, hk.2⟩)⟩, ⟨by (try simp only [hl590000_65]); (try simp only [hl590001_65]); (with_reducible repeat (first | apply Kd.R_alloc | apply Kd.R_drewN | apply Kd.R_drew)); exact Kd.R_mono HO_590001.out (fun _ hk => ⟨hk.1.1.1.1.1, hk.1.1.1.1.2.1, hk.1.1.1.1.2.2.1, hk.1.1.1.1.2.2.2.1, hk.1.1.1.1.2.2.2.2, hk.1.2, hk.2⟩)⟩, ⟨by (try simp only [hl590000_65]); (try simp only [hl590001_65]); (with_reducible repeat (first | apply Kd.R_alloc | apply Kd.R_drewN | apply Kd.R_drew)); exact Kd.R_mono HO_598000.out (fun _ hk => ⟨hk.1.1.1.1.1, hk.1.1.1.1.2.1, hk.1.1.1.1.2.2.1, hk.1.1.1.1.2.2.2.1, hk.1.1.1.1.2.2.2.2, hk.1.2, hk.2⟩)⟩, ⟨by (try simp only [hl590000_65]); (try simp only [hl590001_65]); (with_reducible repeat (first | apply Kd.R_alloc | apply Kd.R_drewN | apply Kd.R_drew)); exact Kd.R_mono HO_598001.out (fun _ hk => ⟨hk.1.1.1.1.1, hk.1.1.1.1.2.1, hk.1.1.1.1.2.2.1, hk.1.1.1.1.2.2.2.1, hk.1.1.1.1.2.2.2.2, hk.1.2, hk.2⟩)⟩, ⟨by (try simp only [hl590000_65]); (try simp only [hl590001_65]); (with_reducible repeat (first | apply Kd.R_alloc | apply Kd.R_drewN | apply Kd.R_drew)); exact Kd.R_mono HO622.out (fun _ hk => ⟨hk.1.1.1.1.1.1.1.2, hk.1.1.1.1.1.1.2, hk.1.1.1.1.1.2, hk.1.1.1.1.2, hk.1.1.1.2, hk.1.1.2, hk.1.1.1.1.1.1.1.1⟩)⟩, ⟨by (try simp only [hl590000_65]); (try simp only [hl590001_65]); (with_reducible repeat (first | apply Kd.R_alloc | apply Kd.R_drewN | apply Kd.R_drew)); exact Kd.R_mono HO625.out (fun _ hk => ⟨hk.1.1.1.1.1.1.1.2, hk.1.1.1.1.1.1.2, hk.1.1.1.1.1.2, hk.1.1.1.1.2, hk.1.1.1.2, hk.1.1.2, hk.1.1.1.1.1.1.1.1⟩)⟩, ⟨by (try simp only [hl590000_65]); (try simp only [hl590001_65]); (with_reducible repeat (first | refine blk_drewN ?_ _ | refine blk_drew ?_ | refine blk_alloc ?_ _)); exact BK567.out⟩, ⟨by (try simp only [hl590000_65]); (try simp only [hl590001_65]); (with_reducible repeat (first | refine blk_drewN ?_ _ | refine blk_drew ?_ | refine blk_alloc ?_ _)); exact BK582.out⟩, ⟨by (try simp only [hl590000_65]); (try simp only [hl590001_65]); (with_reducible repeat (first | refine blk_drewN ?_ _ | refine blk_drew ?_ | refine blk_alloc ?_ _)); exact BK589.out⟩, ⟨by (try simp only [hl590000_65]); (try simp only [hl590001_65]); (with_reducible repeat (first | refine blk_drewN ?_ _ | refine blk_drew ?_ | refine blk_alloc ?_ _)); exact BK597.out⟩, ⟨by (try simp only [hl590000_65]); (try simp only [hl590001_65]); (with_reducible repeat (first | refine blk_drewN ?_ _ | refine blk_drew ?_ | refine blk_alloc ?_ _)); exact BK627.out⟩, ⟨by repeat (first | (with_reducible first | exact HB.out | apply below_alloc | apply pw_below_drewN | apply below_drew1 | refine below_set ?_ GE567.out | refine below_set ?_ GE582.out | refine below_set ?_ GE589.out | refine below_set ?_ GE597.out | refine below_set ?_ GE627.out) | exact HB.out)⟩⟩
           case rest =>
            clear HC110
            try clear c1
            try clear c2
            try clear p2
            try clear c3
            try clear c3b0
            try clear c4
            try clear c5
            try clear c6
            try clear c7
            try clear c8
            try clear c9
            try clear c10
            try clear c11
            try clear c12
            try clear c13
            try clear c14
            try clear c15
            try clear c17
            try clear c19
            try clear c22
            try clear c29
            try clear c30
            try clear c38
            try clear c39
            try clear c40
            try clear c44
            try clear c45
            try clear c46
            try clear c47
            try clear c49
            try clear c50
            try clear c53
            try clear c54
            try clear c55
            try clear c57
            try clear c58
            try clear c61
            try clear c63
            try clear c64
            try clear c65
            try clear c72
            try clear c73
            try clear c74
            try clear c77
            try clear c77b0
            try clear c79
            try clear c80
            try clear c81
            try clear c82
            try clear c84
            try clear c85
            try clear c88
            try clear c89
            try clear c90
            try clear c92
            try clear c93
            try clear c96
            try clear c99
            try clear c99b0
            try clear c100
            try clear c101
            try clear c102
            try clear c107
            try clear c107b0
            try clear c107b1
            try clear c111
            try clear c112
            try clear c113
            try clear c118
            try clear c119
            try clear c127
            try clear c128
            try clear c129
            try clear c130
            try clear c134
            try clear c135
            try clear c136
            try clear c137
            try clear c138
            try clear c140
            try clear c141
            try clear c142
            try clear c145
            try clear c146
            try clear c147
            try clear c148
            try clear c150
            try clear c151
            try clear c152
            try clear hcz103_0
            try clear hcz103_1
            try clear hcz105_0
            try clear hcz105_1
            try clear hcz114_0
            try clear hcz114_1
            try clear hcz116_0
            try clear hcz116_1
            try clear hcz120_0
            try clear hcz120_1
            try clear hcz131_0
            try clear hcz131_1
            try clear hcz139_0
            try clear hcz139_1
            try clear hcz13_0
            try clear hcz13_1
            try clear hcz143_0
            try clear hcz143_1
            try clear hcz149_0
            try clear hcz149_1
            try clear hcz153_0
            try clear hcz153_1
            try clear hcz15_0
            try clear hcz15_1
            try clear hcz23_0
            try clear hcz23_1
            try clear hcz25_0
            try clear hcz25_1
            try clear hcz31_0
            try clear hcz31_1
            try clear hcz34_0
            try clear hcz34_1
            try clear hcz41_0
            try clear hcz41_1
            try clear hcz48_0
            try clear hcz48_1
            try clear hcz51_0
            try clear hcz51_1
            try clear hcz56_0
            try clear hcz56_1
            try clear hcz59_0
            try clear hcz59_1
            try clear hcz5_0
            try clear hcz5_1
            try clear hcz75_0
            try clear hcz75_1
            try clear hcz83_0
            try clear hcz83_1
            try clear hcz86_0
            try clear hcz86_1
            try clear hcz91_0
            try clear hcz91_1
            try clear hcz94_0
            try clear hcz94_1
            try clear hfz103_0
            try clear hfz103_1
            try clear hfz105_0
            try clear hfz105_1
            try clear hfz114_0
            try clear hfz114_1
            try clear hfz116_0
            try clear hfz116_1
            try clear hfz120_0
            try clear hfz120_1
            try clear hfz131_0
            try clear hfz131_1
            try clear hfz139_0
            try clear hfz139_1
            try clear hfz13_0
            try clear hfz13_1
            try clear hfz143_0
            try clear hfz143_1
            try clear hfz149_0
            try clear hfz149_1
            try clear hfz153_0
            try clear hfz153_1
            try clear hfz15_0
            try clear hfz15_1
            try clear hfz23_0
            try clear hfz23_1
            try clear hfz25_0
            try clear hfz25_1
            try clear hfz31_0
            try clear hfz31_1
            try clear hfz34_0
            try clear hfz34_1
            try clear hfz41_0
            try clear hfz41_1
            try clear hfz48_0
            try clear hfz48_1
            try clear hfz51_0
            try clear hfz51_1
            try clear hfz56_0
            try clear hfz56_1
            try clear hfz59_0
            try clear hfz59_1
            try clear hfz5_0
            try clear hfz5_1
            try clear hfz75_0
            try clear hfz75_1
            try clear hfz83_0
            try clear hfz83_1
            try clear hfz86_0
            try clear hfz86_1
            try clear hfz91_0
            try clear hfz91_1
            try clear hfz94_0
            try clear hfz94_1
            try clear p2
            obtain ⟨kq, x87_109, rfl, HA, HJ109, HO_583000, HO_583001, HO_590000, HO_590001, HO_598000, HO_598001, HO_628000, HO_628001, BK567, BK582, BK589, BK597, BK627, HB⟩ := hcut
            have hl598000_109 := (Kd.R_reads' HO_598000.out).1
            rw [hl598000_109] at HO_598000
            (try simp only [hl598000_109])
            (try simp only [hl598000_109] at BK567)
            (try simp only [hl598000_109] at BK582)
            (try simp only [hl598000_109] at BK589)
            (try simp only [hl598000_109] at BK597)
            (try simp only [hl598000_109] at BK627)
            (try simp only [hl598000_109] at HO_583000)
            (try simp only [hl598000_109] at HO_583001)
            (try simp only [hl598000_109] at HO_590000)
            (try simp only [hl598000_109] at HO_590001)
            (try simp only [hl598000_109] at HO_598001)
            (try simp only [hl598000_109] at HO_628000)
            (try simp only [hl598000_109] at HO_628001)
            have hl598001_109 := (Kd.R_reads' HO_598001.out).1
            rw [hl598001_109] at HO_598001
            (try simp only [hl598001_109])
            (try simp only [hl598001_109] at BK567)
            (try simp only [hl598001_109] at BK582)
            (try simp only [hl598001_109] at BK589)
            (try simp only [hl598001_109] at BK597)
            (try simp only [hl598001_109] at BK627)
            (try simp only [hl598001_109] at HO_583000)
            (try simp only [hl598001_109] at HO_583001)
            (try simp only [hl598001_109] at HO_590000)
            (try simp only [hl598001_109] at HO_590001)
            (try simp only [hl598001_109] at HO_598000)
            (try simp only [hl598001_109] at HO_628000)
            (try simp only [hl598001_109] at HO_628001)
            cases kq with
            | zero => exact absurd HA.out (by simp [laws_FnExactTurnLoop.j2])
            | succ kj109 =>
             have H := HA.out
             clear HA
             simp only [laws_FnExactTurnLoop.j2] at H
             by_cases c155 : x87_109 = true
             ·subst c155
              have H1 : (some false) = some r := by rw [if_pos rfl] at H; exact H
              clear H
              have H := H1
              clear H1
              obtain rfl := Option.some.inj H
              go_wp2
              go_ret
              exact ⟨by first | rfl | (simp [errW_none, errW_some] <;> rfl) | (simp [*, errW_none, errW_some] <;> rfl), by repeat (first | (with_reducible first | exact HB.out | apply below_alloc | apply pw_below_drewN | apply below_drew1 | refine below_set ?_ GE567.out | refine below_set ?_ GE582.out | refine below_set ?_ GE589.out | refine below_set ?_ GE597.out | refine below_set ?_ GE627.out) | exact HB.out)⟩
             ·replace c155 := Bool.eq_false_iff.mpr c155
              subst c155
              have H1 : ((laws_heldLasso.f kj109 t611 t612 1).bind fun t629 => (if t629 < 0 then (some false) else (if t629 = t610 then (some true) else (some false)))) = some r := by rw [if_neg (show ¬ (false = true) by decide)] at H; exact H
              clear H
              have H := H1
              clear H1
              replace H := Option.bind_eq_some_iff.mp H
              obtain ⟨t629, A1560, H⟩ := H
              replace H : (if t629 < 0 then (some false) else (if t629 = t610 then (some true) else (some false))) = some r := H
              have A156 := am_ A1560
              clear A1560
              by_cases c157 : t629 < 0
              ·rw [if_pos c157] at H
               have c157b0 : decide (t629 < 0) = true := decide_eq_true c157
               clear c157
               obtain rfl := Option.some.inj H
               have hnb158 := NB597_567.out
               have hnc158 := NB567_597.out
               have hnb159 := NB597_582.out
               have hnc159 := NB582_597.out
               have hnb160 := NB597_589.out
               have hnc160 := NB589_597.out
               have hnb161 := NB597_627.out
               have hnc161 := NB627_597.out
               have hcz162_0 : wc.cell? ⟨gb597, 0, none⟩ = some (.slice Ao37 t611.length co37) := (blk_cell BK597.out 0).trans rfl
               have hcz162_1 : wc.cell? ⟨gb597, 1, none⟩ = some (.slice Ao42 t612.length co42) := (blk_cell BK597.out 1).trans rfl
               have hfz162_0 := blk_frozen BK597.out 0
               have hfz162_1 := blk_frozen BK597.out 1
               go_wp2_with (first | ((with_reducible refine gate_callee (f := 65) rfl ?_); refine goesL_ (some 90) rfl rfl Try.func65 (by kernel_rfl) rfl #[.agg #[.slice Ao37 t611.length co37, .slice Ao42 t612.length co42], .int .i64 1] rfl (by (try simp only [List.map_toArray, List.map_cons, List.map_nil]); first | done | rfl | (simp only [List.length_drop, List.length_take]; rfl)) ?_; (with_reducible refine (laws_heldLasso.calls kj109 _ _ t611 _ _ t612 1 t629 _ ?side1 ?side2 ?side3 ?side4 A156.out).mono ?_); (case side1 => repeat (first | exact (Kd.R_reads' HO_598000.out).2.2 | (with_reducible first | refine Kd.C_alloc ?_ _ | refine Kd.C_drewN ?_ _ | refine Kd.C_drew ?_))); (case side2 => exact (Kd.R_reads' HO_598000.out).2.1); (case side3 => repeat (first | exact (Kd.R_reads' HO_598001.out).2.2 | (with_reducible first | refine Kd.C_alloc ?_ _ | refine Kd.C_drewN ?_ _ | refine Kd.C_drew ?_))); (case side4 => exact (Kd.R_reads' HO_598001.out).2.1); rintro e w163 ⟨rfl, hb⟩; refine ⟨_, rfl, ?_⟩; have n0_ := am_ (Kd.R_below (by (with_reducible repeat (first | apply Kd.R_alloc | apply Kd.R_drewN | apply Kd.R_drew)); exact HO_583000.out) hb); have n1_ := am_ (Kd.R_below (by (with_reducible repeat (first | apply Kd.R_alloc | apply Kd.R_drewN | apply Kd.R_drew)); exact HO_583001.out) hb); have n2_ := am_ (Kd.R_below (by (with_reducible repeat (first | apply Kd.R_alloc | apply Kd.R_drewN | apply Kd.R_drew)); exact HO_590000.out) hb); have n3_ := am_ (Kd.R_below (by (with_reducible repeat (first | apply Kd.R_alloc | apply Kd.R_drewN | apply Kd.R_drew)); exact HO_590001.out) hb); have n4_ := am_ (Kd.R_below (by (with_reducible repeat (first | apply Kd.R_alloc | apply Kd.R_drewN | apply Kd.R_drew)); exact HO_598000.out) hb); have n5_ := am_ (Kd.R_below (by (with_reducible repeat (first | apply Kd.R_alloc | apply Kd.R_drewN | apply Kd.R_drew)); exact HO_598001.out) hb); have n6_ := am_ (Kd.R_below (by (with_reducible repeat (first | apply Kd.R_alloc | apply Kd.R_drewN | apply Kd.R_drew)); exact HO_628000.out) hb); have n7_ := am_ (Kd.R_below (by (with_reducible repeat (first | apply Kd.R_alloc | apply Kd.R_drewN | apply Kd.R_drew)); exact HO_628001.out) hb); have n8_ := am_ (blk_below (g := gb567) (o := .cells #[.slice A0_0 l0_0.length c0_0, .slice A0_1 l0_1.length c0_1] 24 (0, 0)) (by (with_reducible repeat (first | refine blk_drewN ?_ _ | refine blk_drew ?_ | refine blk_alloc ?_ _)); exact BK567.out) hb); have n9_ := am_ (blk_below (g := gb582) (o := .cells #[.slice Ao21 t575.length co21, .slice Ao24 t578.length co24] 27 (0, 0)) (by (with_reducible repeat (first | refine blk_drewN ?_ _ | refine blk_drew ?_ | refine blk_alloc ?_ _)); exact BK582.out) hb); have n10_ := am_ (blk_below (g := gb589) (o := .cells #[.slice Ao28 t607.length co28, .slice Ao32 t608.length co32] 27 (0, 0)) (by (with_reducible repeat (first | refine blk_drewN ?_ _ | refine blk_drew ?_ | refine blk_alloc ?_ _)); exact BK589.out) hb); have n11_ := am_ (blk_below (g := gb597) (o := .cells #[.slice Ao37 t611.length co37, .slice Ao42 t612.length co42] 27 (0, 0)) (by (with_reducible repeat (first | refine blk_drewN ?_ _ | refine blk_drew ?_ | refine blk_alloc ?_ _)); exact BK597.out) hb); have n12_ := am_ (blk_below (g := gb627) (o := .cells #[.slice Ao126 t620.length co126, .slice Ao132 t623.length co132] 27 (0, 0)) (by (with_reducible repeat (first | refine blk_drewN ?_ _ | refine blk_drew ?_ | refine blk_alloc ?_ _)); exact BK627.out) hb); have n13_ := am_ (below_step (by repeat (first | (with_reducible first | exact HB.out | apply below_alloc | apply pw_below_drewN | apply below_drew1 | refine below_set ?_ GE567.out | refine below_set ?_ GE582.out | refine below_set ?_ GE589.out | refine below_set ?_ GE597.out | refine below_set ?_ GE627.out) | exact HB.out)) hb); clear HO_583000; clear HO_583001; clear HO_590000; clear HO_590001; clear HO_598000; clear HO_598001; clear HO_628000; clear HO_628001; clear BK567; clear BK582; clear BK589; clear BK597; clear BK627; clear HB; have HO_583000 := n0_; have HO_583001 := n1_; have HO_590000 := n2_; have HO_590001 := n3_; have HO_598000 := n4_; have HO_598001 := n5_; have HO_628000 := n6_; have HO_628001 := n7_; have BK567 := n8_; have BK582 := n9_; have BK589 := n10_; have BK597 := n11_; have BK627 := n12_; have HB := n13_; clear n0_ n1_ n2_ n3_ n4_ n5_ n6_ n7_ n8_ n9_ n10_ n11_ n12_ n13_; (try clear hb); (try clear hb2); (try clear hk); (try clear hi)))
               go_ret
               exact ⟨by first | rfl | (simp [errW_none, errW_some] <;> rfl) | (simp [*, errW_none, errW_some] <;> rfl), by repeat (first | (with_reducible first | exact HB.out | apply below_alloc | apply pw_below_drewN | apply below_drew1 | refine below_set ?_ GE567.out | refine below_set ?_ GE582.out | refine below_set ?_ GE589.out | refine below_set ?_ GE597.out | refine below_set ?_ GE627.out) | exact HB.out)⟩
              ·rw [if_neg c157] at H
               have c157b0 : decide (t629 < 0) = false := decide_eq_false c157
               clear c157
               by_cases c164 : t629 = t610
               ·rw [if_pos c164] at H
                have c164b0 : (t629 == t610) = true := beq_iff_eq.mpr c164
                have c164b1 : (t629 != t610) = false := bne_eq_false_iff_eq.mpr c164
                clear c164
                obtain rfl := Option.some.inj H
                have hnb165 := NB597_567.out
                have hnc165 := NB567_597.out
                have hnb166 := NB597_582.out
                have hnc166 := NB582_597.out
                have hnb167 := NB597_589.out
                have hnc167 := NB589_597.out
                have hnb168 := NB597_627.out
                have hnc168 := NB627_597.out
                have hcz169_0 : wc.cell? ⟨gb597, 0, none⟩ = some (.slice Ao37 t611.length co37) := (blk_cell BK597.out 0).trans rfl
                have hcz169_1 : wc.cell? ⟨gb597, 1, none⟩ = some (.slice Ao42 t612.length co42) := (blk_cell BK597.out 1).trans rfl
                have hfz169_0 := blk_frozen BK597.out 0
                have hfz169_1 := blk_frozen BK597.out 1
                go_wp2_with (first | ((with_reducible refine gate_callee (f := 65) rfl ?_); refine goesL_ (some 90) rfl rfl Try.func65 (by kernel_rfl) rfl #[.agg #[.slice Ao37 t611.length co37, .slice Ao42 t612.length co42], .int .i64 1] rfl (by (try simp only [List.map_toArray, List.map_cons, List.map_nil]); first | done | rfl | (simp only [List.length_drop, List.length_take]; rfl)) ?_; (with_reducible refine (laws_heldLasso.calls kj109 _ _ t611 _ _ t612 1 t629 _ ?side1 ?side2 ?side3 ?side4 A156.out).mono ?_); (case side1 => repeat (first | exact (Kd.R_reads' HO_598000.out).2.2 | (with_reducible first | refine Kd.C_alloc ?_ _ | refine Kd.C_drewN ?_ _ | refine Kd.C_drew ?_))); (case side2 => exact (Kd.R_reads' HO_598000.out).2.1); (case side3 => repeat (first | exact (Kd.R_reads' HO_598001.out).2.2 | (with_reducible first | refine Kd.C_alloc ?_ _ | refine Kd.C_drewN ?_ _ | refine Kd.C_drew ?_))); (case side4 => exact (Kd.R_reads' HO_598001.out).2.1); rintro e w170 ⟨rfl, hb⟩; refine ⟨_, rfl, ?_⟩; have n0_ := am_ (Kd.R_below (by (with_reducible repeat (first | apply Kd.R_alloc | apply Kd.R_drewN | apply Kd.R_drew)); exact HO_583000.out) hb); have n1_ := am_ (Kd.R_below (by (with_reducible repeat (first | apply Kd.R_alloc | apply Kd.R_drewN | apply Kd.R_drew)); exact HO_583001.out) hb); have n2_ := am_ (Kd.R_below (by (with_reducible repeat (first | apply Kd.R_alloc | apply Kd.R_drewN | apply Kd.R_drew)); exact HO_590000.out) hb); have n3_ := am_ (Kd.R_below (by (with_reducible repeat (first | apply Kd.R_alloc | apply Kd.R_drewN | apply Kd.R_drew)); exact HO_590001.out) hb); have n4_ := am_ (Kd.R_below (by (with_reducible repeat (first | apply Kd.R_alloc | apply Kd.R_drewN | apply Kd.R_drew)); exact HO_598000.out) hb); have n5_ := am_ (Kd.R_below (by (with_reducible repeat (first | apply Kd.R_alloc | apply Kd.R_drewN | apply Kd.R_drew)); exact HO_598001.out) hb); have n6_ := am_ (Kd.R_below (by (with_reducible repeat (first | apply Kd.R_alloc | apply Kd.R_drewN | apply Kd.R_drew)); exact HO_628000.out) hb); have n7_ := am_ (Kd.R_below (by (with_reducible repeat (first | apply Kd.R_alloc | apply Kd.R_drewN | apply Kd.R_drew)); exact HO_628001.out) hb); have n8_ := am_ (blk_below (g := gb567) (o := .cells #[.slice A0_0 l0_0.length c0_0, .slice A0_1 l0_1.length c0_1] 24 (0, 0)) (by (with_reducible repeat (first | refine blk_drewN ?_ _ | refine blk_drew ?_ | refine blk_alloc ?_ _)); exact BK567.out) hb); have n9_ := am_ (blk_below (g := gb582) (o := .cells #[.slice Ao21 t575.length co21, .slice Ao24 t578.length co24] 27 (0, 0)) (by (with_reducible repeat (first | refine blk_drewN ?_ _ | refine blk_drew ?_ | refine blk_alloc ?_ _)); exact BK582.out) hb); have n10_ := am_ (blk_below (g := gb589) (o := .cells #[.slice Ao28 t607.length co28, .slice Ao32 t608.length co32] 27 (0, 0)) (by (with_reducible repeat (first | refine blk_drewN ?_ _ | refine blk_drew ?_ | refine blk_alloc ?_ _)); exact BK589.out) hb); have n11_ := am_ (blk_below (g := gb597) (o := .cells #[.slice Ao37 t611.length co37, .slice Ao42 t612.length co42] 27 (0, 0)) (by (with_reducible repeat (first | refine blk_drewN ?_ _ | refine blk_drew ?_ | refine blk_alloc ?_ _)); exact BK597.out) hb); have n12_ := am_ (blk_below (g := gb627) (o := .cells #[.slice Ao126 t620.length co126, .slice Ao132 t623.length co132] 27 (0, 0)) (by (with_reducible repeat (first | refine blk_drewN ?_ _ | refine blk_drew ?_ | refine blk_alloc ?_ _)); exact BK627.out) hb); have n13_ := am_ (below_step (by repeat (first | (with_reducible first | exact HB.out | apply below_alloc | apply pw_below_drewN | apply below_drew1 | refine below_set ?_ GE567.out | refine below_set ?_ GE582.out | refine below_set ?_ GE589.out | refine below_set ?_ GE597.out | refine below_set ?_ GE627.out) | exact HB.out)) hb); clear HO_583000; clear HO_583001; clear HO_590000; clear HO_590001; clear HO_598000; clear HO_598001; clear HO_628000; clear HO_628001; clear BK567; clear BK582; clear BK589; clear BK597; clear BK627; clear HB; have HO_583000 := n0_; have HO_583001 := n1_; have HO_590000 := n2_; have HO_590001 := n3_; have HO_598000 := n4_; have HO_598001 := n5_; have HO_628000 := n6_; have HO_628001 := n7_; have BK567 := n8_; have BK582 := n9_; have BK589 := n10_; have BK597 := n11_; have BK627 := n12_; have HB := n13_; clear n0_ n1_ n2_ n3_ n4_ n5_ n6_ n7_ n8_ n9_ n10_ n11_ n12_ n13_; (try clear hb); (try clear hb2); (try clear hk); (try clear hi)))
                go_ret
                exact ⟨by first | rfl | (simp [errW_none, errW_some] <;> rfl) | (simp [*, errW_none, errW_some] <;> rfl), by repeat (first | (with_reducible first | exact HB.out | apply below_alloc | apply pw_below_drewN | apply below_drew1 | refine below_set ?_ GE567.out | refine below_set ?_ GE582.out | refine below_set ?_ GE589.out | refine below_set ?_ GE597.out | refine below_set ?_ GE627.out) | exact HB.out)⟩
               ·rw [if_neg c164] at H
                have c164b0 : (t629 == t610) = false := beq_eq_false_iff_ne.mpr c164
                have c164b1 : (t629 != t610) = true := bne_iff_ne.mpr c164
                obtain rfl := Option.some.inj H
                have hnb171 := NB597_567.out
                have hnc171 := NB567_597.out
                have hnb172 := NB597_582.out
                have hnc172 := NB582_597.out
                have hnb173 := NB597_589.out
                have hnc173 := NB589_597.out
                have hnb174 := NB597_627.out
                have hnc174 := NB627_597.out
                have hcz175_0 : wc.cell? ⟨gb597, 0, none⟩ = some (.slice Ao37 t611.length co37) := (blk_cell BK597.out 0).trans rfl
                have hcz175_1 : wc.cell? ⟨gb597, 1, none⟩ = some (.slice Ao42 t612.length co42) := (blk_cell BK597.out 1).trans rfl
                have hfz175_0 := blk_frozen BK597.out 0
                have hfz175_1 := blk_frozen BK597.out 1
                go_wp2_with (first | ((with_reducible refine gate_callee (f := 65) rfl ?_); refine goesL_ (some 90) rfl rfl Try.func65 (by kernel_rfl) rfl #[.agg #[.slice Ao37 t611.length co37, .slice Ao42 t612.length co42], .int .i64 1] rfl (by (try simp only [List.map_toArray, List.map_cons, List.map_nil]); first | done | rfl | (simp only [List.length_drop, List.length_take]; rfl)) ?_; (with_reducible refine (laws_heldLasso.calls kj109 _ _ t611 _ _ t612 1 t629 _ ?side1 ?side2 ?side3 ?side4 A156.out).mono ?_); (case side1 => repeat (first | exact (Kd.R_reads' HO_598000.out).2.2 | (with_reducible first | refine Kd.C_alloc ?_ _ | refine Kd.C_drewN ?_ _ | refine Kd.C_drew ?_))); (case side2 => exact (Kd.R_reads' HO_598000.out).2.1); (case side3 => repeat (first | exact (Kd.R_reads' HO_598001.out).2.2 | (with_reducible first | refine Kd.C_alloc ?_ _ | refine Kd.C_drewN ?_ _ | refine Kd.C_drew ?_))); (case side4 => exact (Kd.R_reads' HO_598001.out).2.1); rintro e w176 ⟨rfl, hb⟩; refine ⟨_, rfl, ?_⟩; have n0_ := am_ (Kd.R_below (by (with_reducible repeat (first | apply Kd.R_alloc | apply Kd.R_drewN | apply Kd.R_drew)); exact HO_583000.out) hb); have n1_ := am_ (Kd.R_below (by (with_reducible repeat (first | apply Kd.R_alloc | apply Kd.R_drewN | apply Kd.R_drew)); exact HO_583001.out) hb); have n2_ := am_ (Kd.R_below (by (with_reducible repeat (first | apply Kd.R_alloc | apply Kd.R_drewN | apply Kd.R_drew)); exact HO_590000.out) hb); have n3_ := am_ (Kd.R_below (by (with_reducible repeat (first | apply Kd.R_alloc | apply Kd.R_drewN | apply Kd.R_drew)); exact HO_590001.out) hb); have n4_ := am_ (Kd.R_below (by (with_reducible repeat (first | apply Kd.R_alloc | apply Kd.R_drewN | apply Kd.R_drew)); exact HO_598000.out) hb); have n5_ := am_ (Kd.R_below (by (with_reducible repeat (first | apply Kd.R_alloc | apply Kd.R_drewN | apply Kd.R_drew)); exact HO_598001.out) hb); have n6_ := am_ (Kd.R_below (by (with_reducible repeat (first | apply Kd.R_alloc | apply Kd.R_drewN | apply Kd.R_drew)); exact HO_628000.out) hb); have n7_ := am_ (Kd.R_below (by (with_reducible repeat (first | apply Kd.R_alloc | apply Kd.R_drewN | apply Kd.R_drew)); exact HO_628001.out) hb); have n8_ := am_ (blk_below (g := gb567) (o := .cells #[.slice A0_0 l0_0.length c0_0, .slice A0_1 l0_1.length c0_1] 24 (0, 0)) (by (with_reducible repeat (first | refine blk_drewN ?_ _ | refine blk_drew ?_ | refine blk_alloc ?_ _)); exact BK567.out) hb); have n9_ := am_ (blk_below (g := gb582) (o := .cells #[.slice Ao21 t575.length co21, .slice Ao24 t578.length co24] 27 (0, 0)) (by (with_reducible repeat (first | refine blk_drewN ?_ _ | refine blk_drew ?_ | refine blk_alloc ?_ _)); exact BK582.out) hb); have n10_ := am_ (blk_below (g := gb589) (o := .cells #[.slice Ao28 t607.length co28, .slice Ao32 t608.length co32] 27 (0, 0)) (by (with_reducible repeat (first | refine blk_drewN ?_ _ | refine blk_drew ?_ | refine blk_alloc ?_ _)); exact BK589.out) hb); have n11_ := am_ (blk_below (g := gb597) (o := .cells #[.slice Ao37 t611.length co37, .slice Ao42 t612.length co42] 27 (0, 0)) (by (with_reducible repeat (first | refine blk_drewN ?_ _ | refine blk_drew ?_ | refine blk_alloc ?_ _)); exact BK597.out) hb); have n12_ := am_ (blk_below (g := gb627) (o := .cells #[.slice Ao126 t620.length co126, .slice Ao132 t623.length co132] 27 (0, 0)) (by (with_reducible repeat (first | refine blk_drewN ?_ _ | refine blk_drew ?_ | refine blk_alloc ?_ _)); exact BK627.out) hb); have n13_ := am_ (below_step (by repeat (first | (with_reducible first | exact HB.out | apply below_alloc | apply pw_below_drewN | apply below_drew1 | refine below_set ?_ GE567.out | refine below_set ?_ GE582.out | refine below_set ?_ GE589.out | refine below_set ?_ GE597.out | refine below_set ?_ GE627.out) | exact HB.out)) hb); clear HO_583000; clear HO_583001; clear HO_590000; clear HO_590001; clear HO_598000; clear HO_598001; clear HO_628000; clear HO_628001; clear BK567; clear BK582; clear BK589; clear BK597; clear BK627; clear HB; have HO_583000 := n0_; have HO_583001 := n1_; have HO_590000 := n2_; have HO_590001 := n3_; have HO_598000 := n4_; have HO_598001 := n5_; have HO_628000 := n6_; have HO_628001 := n7_; have BK567 := n8_; have BK582 := n9_; have BK589 := n10_; have BK597 := n11_; have BK627 := n12_; have HB := n13_; clear n0_ n1_ n2_ n3_ n4_ n5_ n6_ n7_ n8_ n9_ n10_ n11_ n12_ n13_; (try clear hb); (try clear hb2); (try clear hk); (try clear hi)))
                go_ret
                exact ⟨by first | rfl | (simp [errW_none, errW_some] <;> rfl) | (simp [*, errW_none, errW_some] <;> rfl), by repeat (first | (with_reducible first | exact HB.out | apply below_alloc | apply pw_below_drewN | apply below_drew1 | refine below_set ?_ GE567.out | refine below_set ?_ GE582.out | refine below_set ?_ GE589.out | refine below_set ?_ GE597.out | refine below_set ?_ GE627.out) | exact HB.out)⟩
          ·rw [if_neg c107] at H
           have c107b0 : (t613 == t610) = false := beq_eq_false_iff_ne.mpr c107
           have c107b1 : (t613 != t610) = true := bne_iff_ne.mpr c107
           obtain rfl := Option.some.inj H
           have hnb177 := NB597_567.out
           have hnc177 := NB567_597.out
           have hnb178 := NB597_582.out
           have hnc178 := NB582_597.out
           have hnb179 := NB597_589.out
           have hnc179 := NB589_597.out
           have hcz180_0 : wc.cell? ⟨gb597, 0, none⟩ = some (.slice Ao37 t590.length co37) := (blk_cell BK597.out 0).trans rfl
           have hcz180_1 : wc.cell? ⟨gb597, 1, none⟩ = some (.slice Ao42 t593.length co42) := (blk_cell BK597.out 1).trans rfl
           have hfz180_0 := blk_frozen BK597.out 0
           have hfz180_1 := blk_frozen BK597.out 1
           go_wp2_with (first | ((with_reducible refine gate_callee (f := 50) rfl ?_); refine goesL_ (some 64) rfl rfl Try.func50 (by kernel_rfl) rfl #[.agg #[.slice Ao37 t590.length co37, .slice Ao42 t593.length co42], .int .i64 1] rfl (by (try simp only [List.map_toArray, List.map_cons, List.map_nil]); first | done | rfl | (simp only [List.length_drop, List.length_take]; rfl)) ?_; (with_reducible refine (laws_markLasso.calls kj65 (fun k_ => some k_ = (.slice Ao37 t590.length co37 : Value).ownBlock) (.slice Ao37 t590.length co37) t590 (fun k_ => some k_ = (.slice Ao42 t593.length co42 : Value).ownBlock) (.slice Ao42 t593.length co42) t593 1 t610 t611 t612 w _ ?side1 ?side2 ?side3 ?side4 ?side5 A97.out).mono ?_); (case side1 => repeat (first | (with_reducible first | exact HB.out | apply below_alloc | apply pw_below_drewN | apply below_drew1 | refine below_set ?_ GE567.out | refine below_set ?_ GE582.out | refine below_set ?_ GE589.out | refine below_set ?_ GE597.out) | exact HB.out)); (case side2 => exact Kd.R_tight rfl HO_598000.out); (case side3 => exact fun k_ e_ => (HO_598000.out.1 k_ e_.symm).2.2.2.2); (case side4 => exact Kd.R_tight rfl HO_598001.out); (case side5 => exact fun k_ e_ => (HO_598001.out.1 k_ e_.symm).2.2.2.2); rintro e w181 ⟨rfl, hy0, hy1, hb, hkp⟩; refine ⟨_, rfl, ?_⟩; have n0_ := am_ (Kd.R_mono (ok' := fun k_ => some k_ ≠ (.slice Ao24 t578.length co24 : Value).ownBlock ∧ some k_ ≠ (.slice Ao28 t607.length co28 : Value).ownBlock ∧ some k_ ≠ (.slice Ao32 t608.length co32 : Value).ownBlock ∧ some k_ ≠ (.slice Ao37 t590.length co37 : Value).ownBlock ∧ some k_ ≠ (.slice Ao42 t593.length co42 : Value).ownBlock) (Kd.R_keptB (HO_583000.out) hkp (fun k_ hk_ hs_ => Or.elim hs_ (fun e_ => (hk_.2.2.2.1) e_) (fun e_ => (hk_.2.2.2.2) e_))) (fun k_ hk_ => ⟨hk_.1.1, hk_.1.2.1, hk_.1.2.2.1, hk_.1.2.2.2.1, hk_.1.2.2.2.2⟩)); have n1_ := am_ (Kd.R_mono (ok' := fun k_ => some k_ ≠ (.slice Ao21 t575.length co21 : Value).ownBlock ∧ some k_ ≠ (.slice Ao28 t607.length co28 : Value).ownBlock ∧ some k_ ≠ (.slice Ao32 t608.length co32 : Value).ownBlock ∧ some k_ ≠ (.slice Ao37 t590.length co37 : Value).ownBlock ∧ some k_ ≠ (.slice Ao42 t593.length co42 : Value).ownBlock) (Kd.R_keptB (HO_583001.out) hkp (fun k_ hk_ hs_ => Or.elim hs_ (fun e_ => (hk_.2.2.2.1) e_) (fun e_ => (hk_.2.2.2.2) e_))) (fun k_ hk_ => ⟨hk_.1.1, hk_.1.2.1, hk_.1.2.2.1, hk_.1.2.2.2.1, hk_.1.2.2.2.2⟩)); have n2_ := am_ (Kd.R_mono (ok' := fun k_ => some k_ ≠ (.slice Ao21 t575.length co21 : Value).ownBlock ∧ some k_ ≠ (.slice Ao24 t578.length co24 : Value).ownBlock ∧ some k_ ≠ (.slice Ao32 t608.length co32 : Value).ownBlock ∧ some k_ ≠ (.slice Ao37 t590.length co37 : Value).ownBlock ∧ some k_ ≠ (.slice Ao42 t593.length co42 : Value).ownBlock) (Kd.R_keptB (HO_590000.out) hkp (fun k_ hk_ hs_ => Or.elim hs_ (fun e_ => (hk_.2.2.2.1) e_) (fun e_ => (hk_.2.2.2.2) e_))) (fun k_ hk_ => ⟨hk_.1.1, hk_.1.2.1, hk_.1.2.2.1, hk_.1.2.2.2.1, hk_.1.2.2.2.2⟩)); have n3_ := am_ (Kd.R_mono (ok' := fun k_ => some k_ ≠ (.slice Ao21 t575.length co21 : Value).ownBlock ∧ some k_ ≠ (.slice Ao24 t578.length co24 : Value).ownBlock ∧ some k_ ≠ (.slice Ao28 t607.length co28 : Value).ownBlock ∧ some k_ ≠ (.slice Ao37 t590.length co37 : Value).ownBlock ∧ some k_ ≠ (.slice Ao42 t593.length co42 : Value).ownBlock) (Kd.R_keptB (HO_590001.out) hkp (fun k_ hk_ hs_ => Or.elim hs_ (fun e_ => (hk_.2.2.2.1) e_) (fun e_ => (hk_.2.2.2.2) e_))) (fun k_ hk_ => ⟨hk_.1.1, hk_.1.2.1, hk_.1.2.2.1, hk_.1.2.2.2.1, hk_.1.2.2.2.2⟩)); have n4_ := am_ (Kd.R_reok rfl hy0 (fun k_ e_ => HO_598000.out.1 k_ e_)); have n5_ := am_ (Kd.R_reok rfl hy1 (fun k_ e_ => HO_598001.out.1 k_ e_)); have n6_ := am_ (blk_kept (by (with_reducible repeat (first | refine blk_drewN ?_ _ | refine blk_drew ?_ | refine blk_alloc ?_ _)); exact BK567.out) hkp (fun hs_ => Or.elim hs_ (fun e_ => (fun e_ => (Kd.R_ne HO_598000.out BK567.out (by decide)) e_) e_) (fun e_ => (fun e_ => (Kd.R_ne HO_598001.out BK567.out (by decide)) e_) e_))); have n7_ := am_ (blk_kept (by (with_reducible repeat (first | refine blk_drewN ?_ _ | refine blk_drew ?_ | refine blk_alloc ?_ _)); exact BK582.out) hkp (fun hs_ => Or.elim hs_ (fun e_ => (fun e_ => (Kd.R_ne HO_598000.out BK582.out (by decide)) e_) e_) (fun e_ => (fun e_ => (Kd.R_ne HO_598001.out BK582.out (by decide)) e_) e_))); have n8_ := am_ (blk_kept (by (with_reducible repeat (first | refine blk_drewN ?_ _ | refine blk_drew ?_ | refine blk_alloc ?_ _)); exact BK589.out) hkp (fun hs_ => Or.elim hs_ (fun e_ => (fun e_ => (Kd.R_ne HO_598000.out BK589.out (by decide)) e_) e_) (fun e_ => (fun e_ => (Kd.R_ne HO_598001.out BK589.out (by decide)) e_) e_))); have n9_ := am_ (blk_kept (by (with_reducible repeat (first | refine blk_drewN ?_ _ | refine blk_drew ?_ | refine blk_alloc ?_ _)); exact BK597.out) hkp (fun hs_ => Or.elim hs_ (fun e_ => (fun e_ => (Kd.R_ne HO_598000.out BK597.out (by decide)) e_) e_) (fun e_ => (fun e_ => (Kd.R_ne HO_598001.out BK597.out (by decide)) e_) e_))); have n10_ := am_ (hb); clear HO_583000; clear HO_583001; clear HO_590000; clear HO_590001; clear HO_598000; clear HO_598001; clear BK567; clear BK582; clear BK589; clear BK597; clear HB; have HO_583000 := n0_; have HO_583001 := n1_; have HO_590000 := n2_; have HO_590001 := n3_; have HO_598000 := n4_; have HO_598001 := n5_; have BK567 := n6_; have BK582 := n7_; have BK589 := n8_; have BK597 := n9_; have HB := n10_; clear n0_ n1_ n2_ n3_ n4_ n5_ n6_ n7_ n8_ n9_ n10_; (try clear hb); (try clear hkp); (try clear hy0); (try clear hy1); have hcz182_0 : w181.cell? ⟨gb597, 0, none⟩ = some (.slice Ao37 t590.length co37) := (blk_cell BK597.out 0).trans rfl; have hcz182_1 : w181.cell? ⟨gb597, 1, none⟩ = some (.slice Ao42 t593.length co42) := (blk_cell BK597.out 1).trans rfl; have hfz182_0 := blk_frozen BK597.out 0; have hfz182_1 := blk_frozen BK597.out 1) | ((with_reducible refine gate_callee (f := 65) rfl ?_); refine goesL_ (some 67) rfl rfl Try.func65 (by kernel_rfl) rfl #[.agg #[.slice Ao37 t611.length co37, .slice Ao42 t612.length co42], .int .i64 1] rfl (by (try simp only [List.map_toArray, List.map_cons, List.map_nil]); first | done | (rw [show t611.length = t590.length from (Kd.R_reads' HO_598000.out).1.symm, show t612.length = t593.length from (Kd.R_reads' HO_598001.out).1.symm] <;> rfl) | rfl | (simp only [List.length_drop, List.length_take]; rfl)) ?_; (with_reducible refine (laws_heldLasso.calls kj65 _ _ t611 _ _ t612 1 t613 _ ?side1 ?side2 ?side3 ?side4 A98.out).mono ?_); (case side1 => repeat (first | exact (Kd.R_reads' HO_598000.out).2.2 | (with_reducible first | refine Kd.C_alloc ?_ _ | refine Kd.C_drewN ?_ _ | refine Kd.C_drew ?_))); (case side2 => rw [show t611.length = t590.length from (Kd.R_reads' HO_598000.out).1.symm]; exact (Kd.R_reads' HO_598000.out).2.1); (case side3 => repeat (first | exact (Kd.R_reads' HO_598001.out).2.2 | (with_reducible first | refine Kd.C_alloc ?_ _ | refine Kd.C_drewN ?_ _ | refine Kd.C_drew ?_))); (case side4 => rw [show t612.length = t593.length from (Kd.R_reads' HO_598001.out).1.symm]; exact (Kd.R_reads' HO_598001.out).2.1); rintro e w183 ⟨rfl, hb⟩; refine ⟨_, rfl, ?_⟩; have n0_ := am_ (Kd.R_below (by (with_reducible repeat (first | apply Kd.R_alloc | apply Kd.R_drewN | apply Kd.R_drew)); exact HO_583000.out) hb); have n1_ := am_ (Kd.R_below (by (with_reducible repeat (first | apply Kd.R_alloc | apply Kd.R_drewN | apply Kd.R_drew)); exact HO_583001.out) hb); have n2_ := am_ (Kd.R_below (by (with_reducible repeat (first | apply Kd.R_alloc | apply Kd.R_drewN | apply Kd.R_drew)); exact HO_590000.out) hb); have n3_ := am_ (Kd.R_below (by (with_reducible repeat (first | apply Kd.R_alloc | apply Kd.R_drewN | apply Kd.R_drew)); exact HO_590001.out) hb); have n4_ := am_ (Kd.R_below (by (with_reducible repeat (first | apply Kd.R_alloc | apply Kd.R_drewN | apply Kd.R_drew)); exact HO_598000.out) hb); have n5_ := am_ (Kd.R_below (by (with_reducible repeat (first | apply Kd.R_alloc | apply Kd.R_drewN | apply Kd.R_drew)); exact HO_598001.out) hb); have n6_ := am_ (blk_below (g := gb567) (o := .cells #[.slice A0_0 l0_0.length c0_0, .slice A0_1 l0_1.length c0_1] 24 (0, 0)) (by (with_reducible repeat (first | refine blk_drewN ?_ _ | refine blk_drew ?_ | refine blk_alloc ?_ _)); exact BK567.out) hb); have n7_ := am_ (blk_below (g := gb582) (o := .cells #[.slice Ao21 t575.length co21, .slice Ao24 t578.length co24] 27 (0, 0)) (by (with_reducible repeat (first | refine blk_drewN ?_ _ | refine blk_drew ?_ | refine blk_alloc ?_ _)); exact BK582.out) hb); have n8_ := am_ (blk_below (g := gb589) (o := .cells #[.slice Ao28 t607.length co28, .slice Ao32 t608.length co32] 27 (0, 0)) (by (with_reducible repeat (first | refine blk_drewN ?_ _ | refine blk_drew ?_ | refine blk_alloc ?_ _)); exact BK589.out) hb); have n9_ := am_ (blk_below (g := gb597) (o := .cells #[.slice Ao37 t590.length co37, .slice Ao42 t593.length co42] 27 (0, 0)) (by (with_reducible repeat (first | refine blk_drewN ?_ _ | refine blk_drew ?_ | refine blk_alloc ?_ _)); exact BK597.out) hb); have n10_ := am_ (below_step (by repeat (first | (with_reducible first | exact HB.out | apply below_alloc | apply pw_below_drewN | apply below_drew1 | refine below_set ?_ GE567.out | refine below_set ?_ GE582.out | refine below_set ?_ GE589.out | refine below_set ?_ GE597.out) | exact HB.out)) hb); clear HO_583000; clear HO_583001; clear HO_590000; clear HO_590001; clear HO_598000; clear HO_598001; clear BK567; clear BK582; clear BK589; clear BK597; clear HB; have HO_583000 := n0_; have HO_583001 := n1_; have HO_590000 := n2_; have HO_590001 := n3_; have HO_598000 := n4_; have HO_598001 := n5_; have BK567 := n6_; have BK582 := n7_; have BK589 := n8_; have BK597 := n9_; have HB := n10_; clear n0_ n1_ n2_ n3_ n4_ n5_ n6_ n7_ n8_ n9_ n10_; (try clear hb); (try clear hb2); (try clear hk); (try clear hi)))
           go_ret
           exact ⟨by first | rfl | (simp [errW_none, errW_some] <;> rfl) | (simp [*, errW_none, errW_some] <;> rfl), by repeat (first | (with_reducible first | exact HB.out | apply below_alloc | apply pw_below_drewN | apply below_drew1 | refine below_set ?_ GE567.out | refine below_set ?_ GE582.out | refine below_set ?_ GE589.out | refine below_set ?_ GE597.out) | exact HB.out)⟩
     ·replace c64 := Bool.eq_false_iff.mpr c64
      subst c64
      have H1 : (some false) = some r := by rw [if_neg (show ¬ (false = true) by decide)] at H; exact H
      clear H
      have H := H1
      clear H1
      obtain rfl := Option.some.inj H
      try go_wp2
      have n0_ := am_ (Kd.R_drew HO_583000.out)
      have n1_ := am_ (Kd.R_drew HO_583001.out)
      have n2_ := am_ (Kd.R_drew HO_590000.out)
      have n3_ := am_ (Kd.R_drew HO_590001.out)
      have n4_ := am_ (Kd.R_drew HO_598000.out)
      have n5_ := am_ (Kd.R_drew HO_598001.out)
      have n6_ := am_ (blk_drew BK567.out)
      have n7_ := am_ (blk_drew BK582.out)
      have n8_ := am_ (blk_drew BK589.out)
      have n9_ := am_ (blk_drew BK597.out)
      have n10_ := am_ (below_drew1 HB.out)
      clear HO_583000
      clear HO_583001
      clear HO_590000
      clear HO_590001
      clear HO_598000
      clear HO_598001
      clear BK567
      clear BK582
      clear BK589
      clear BK597
      clear HB
      have HO_583000 := n0_
      have HO_583001 := n1_
      have HO_590000 := n2_
      have HO_590001 := n3_
      have HO_598000 := n4_
      have HO_598001 := n5_
      have BK567 := n6_
      have BK582 := n7_
      have BK589 := n8_
      have BK597 := n9_
      have HB := n10_
      clear n0_ n1_ n2_ n3_ n4_ n5_ n6_ n7_ n8_ n9_ n10_
      refine start_ (n := 5) (S := fun w' => w'.cell? ⟨gb589, 0, none⟩ = some (.slice Ao28 t583.length co28) ∧ w'.cell? ⟨gb589, 1, none⟩ = some (.slice Ao32 t586.length co32) ∧ w'.cell? ⟨gb567, 0, none⟩ = some (.slice A0_0 l0_0.length c0_0) ∧ w'.cell? ⟨gb567, 1, none⟩ = some (.slice A0_1 l0_1.length c0_1)) (ds := []) #[false, false, false, false, false] (by kernel_rfl) rfl rfl ⟨(blk_cell BK589.out 0).trans rfl, (blk_cell BK589.out 1).trans rfl, (blk_cell BK567.out 0).trans rfl, (blk_cell BK567.out 1).trans rfl⟩ (fun hHeld => ?_)
      generalize wc.drew = w184 at HO_583000 HO_583001 HO_590000 HO_590001 HO_598000 HO_598001 BK567 BK582 BK589 BK597 HB hHeld ⊢
      refine take_ (i := 0) (N := some 41) (v := ?_) (a' := ?_) #[true, false, false, false, false] rfl rfl (by kernel_rfl) (fun _ _ _ h => h) (Or.inl ⟨by rfl, ?_⟩) hHeld ?_ ?_
      rotate_left
      ·rintro w' ⟨s0, s1, s2, s3⟩
       go_simp
       with_reducible rfl
      rotate_left
      ·simp only [Act.put, List.setIfInBounds_toArray, List.set_cons_zero, List.set_cons_succ, i64_w, i32_w]
       rfl
      refine take_ (i := 1) (N := some 42) (v := ?_) (a' := ?_) #[true, true, false, false, false] rfl rfl (by kernel_rfl) (fun _ _ _ h => h) (Or.inl ⟨by rfl, ?_⟩) hHeld ?_ ?_
      rotate_left
      ·rintro w' ⟨s0, s1, s2, s3⟩
       go_simp
       with_reducible rfl
      rotate_left
      ·simp only [Act.put, List.setIfInBounds_toArray, List.set_cons_zero, List.set_cons_succ, i64_w, i32_w]
       rfl
      refine one_ (i := 2) (N := some 43) #[true, true, true, false, false] rfl rfl (by kernel_rfl) (by decide) (fun K hK => ?_)
      refine goes_ Try.func17 (by kernel_rfl) rfl #[.agg #[.slice A0_0 l0_0.length c0_0, .slice A0_1 l0_1.length c0_1]] (by rfl) rfl rfl (by (try simp only [List.map_toArray, List.map_cons, List.map_nil]); first | done | rfl | (simp only [List.length_drop, List.length_take]; rfl)) ?_
      with_reducible refine (laws_toLasso.calls kj10 _ _ l0_0 _ _ l0_1 t599 t602 _ ?side1 ?side2 ?side3 ?side4 A62.out).mono ?_
      (case side1 => repeat (first | exact (Kd.C_below HR0_0.out HB.out) | (with_reducible first | refine Kd.C_alloc ?_ _ | refine Kd.C_drewN ?_ _ | refine Kd.C_drew ?_)))
      (case side2 => exact HC0_0.out)
      (case side3 => repeat (first | exact (Kd.C_below HR0_1.out HB.out) | (with_reducible first | refine Kd.C_alloc ?_ _ | refine Kd.C_drewN ?_ _ | refine Kd.C_drew ?_)))
      (case side4 => exact HC0_1.out)
      rintro e w185 ⟨v600, v603, rfl, ho0, ho1, hb⟩
      refine ⟨_, rfl, ?_⟩
      have n0_ := am_ (Kd.R_mono (Kd.R_told (Kd.R_told (Kd.R_old (by (with_reducible repeat (first | apply Kd.R_alloc | apply Kd.R_drewN | apply Kd.R_drew)); exact HO_583000.out) hb) (Kd.R_base ho0)) (Kd.R_base ho1)) (fun _ h_ => h_.1))
      have n1_ := am_ (Kd.R_mono (Kd.R_told (Kd.R_told (Kd.R_old (by (with_reducible repeat (first | apply Kd.R_alloc | apply Kd.R_drewN | apply Kd.R_drew)); exact HO_583001.out) hb) (Kd.R_base ho0)) (Kd.R_base ho1)) (fun _ h_ => h_.1))
      have n2_ := am_ (Kd.R_mono (Kd.R_told (Kd.R_told (Kd.R_old (by (with_reducible repeat (first | apply Kd.R_alloc | apply Kd.R_drewN | apply Kd.R_drew)); exact HO_590000.out) hb) (Kd.R_base ho0)) (Kd.R_base ho1)) (fun _ h_ => h_.1))
      have n3_ := am_ (Kd.R_mono (Kd.R_told (Kd.R_told (Kd.R_old (by (with_reducible repeat (first | apply Kd.R_alloc | apply Kd.R_drewN | apply Kd.R_drew)); exact HO_590001.out) hb) (Kd.R_base ho0)) (Kd.R_base ho1)) (fun _ h_ => h_.1))
      have n4_ := am_ (Kd.R_mono (Kd.R_told (Kd.R_told (Kd.R_old (by (with_reducible repeat (first | apply Kd.R_alloc | apply Kd.R_drewN | apply Kd.R_drew)); exact HO_598000.out) hb) (Kd.R_base ho0)) (Kd.R_base ho1)) (fun _ h_ => h_.1))
      have n5_ := am_ (Kd.R_mono (Kd.R_told (Kd.R_told (Kd.R_old (by (with_reducible repeat (first | apply Kd.R_alloc | apply Kd.R_drewN | apply Kd.R_drew)); exact HO_598001.out) hb) (Kd.R_base ho0)) (Kd.R_base ho1)) (fun _ h_ => h_.1))
      have n6_ := am_ (Kd.R_lower (Kd.R_new' (Kd.R_new' (Kd.R_new' (Kd.R_new' (Kd.R_new' (Kd.R_new' ho0 (Kd.R_lt (by (with_reducible repeat (first | apply Kd.R_alloc | apply Kd.R_drewN | apply Kd.R_drew)); exact HO_583000.out))) (Kd.R_lt (by (with_reducible repeat (first | apply Kd.R_alloc | apply Kd.R_drewN | apply Kd.R_drew)); exact HO_583001.out))) (Kd.R_lt (by (with_reducible repeat (first | apply Kd.R_alloc | apply Kd.R_drewN | apply Kd.R_drew)); exact HO_590000.out))) (Kd.R_lt (by (with_reducible repeat (first | apply Kd.R_alloc | apply Kd.R_drewN | apply Kd.R_drew)); exact HO_590001.out))) (Kd.R_lt (by (with_reducible repeat (first | apply Kd.R_alloc | apply Kd.R_drewN | apply Kd.R_drew)); exact HO_598000.out))) (Kd.R_lt (by (with_reducible repeat (first | apply Kd.R_alloc | apply Kd.R_drewN | apply Kd.R_drew)); exact HO_598001.out))) (below_size (by repeat (first | (with_reducible first | exact HB.out | apply below_alloc | apply pw_below_drewN | apply below_drew1 | refine below_set ?_ GE567.out | refine below_set ?_ GE582.out | refine below_set ?_ GE589.out | refine below_set ?_ GE597.out) | exact HB.out))))
      have n7_ := am_ (Kd.R_lower (Kd.R_new' (Kd.R_new' (Kd.R_new' (Kd.R_new' (Kd.R_new' (Kd.R_new' ho1 (Kd.R_lt (by (with_reducible repeat (first | apply Kd.R_alloc | apply Kd.R_drewN | apply Kd.R_drew)); exact HO_583000.out))) (Kd.R_lt (by (with_reducible repeat (first | apply Kd.R_alloc | apply Kd.R_drewN | apply Kd.R_drew)); exact HO_583001.out))) (Kd.R_lt (by (with_reducible repeat (first | apply Kd.R_alloc | apply Kd.R_drewN | apply Kd.R_drew)); exact HO_590000.out))) (Kd.R_lt (by (with_reducible repeat (first | apply Kd.R_alloc | apply Kd.R_drewN | apply Kd.R_drew)); exact HO_590001.out))) (Kd.R_lt (by (with_reducible repeat (first | apply Kd.R_alloc | apply Kd.R_drewN | apply Kd.R_drew)); exact HO_598000.out))) (Kd.R_lt (by (with_reducible repeat (first | apply Kd.R_alloc | apply Kd.R_drewN | apply Kd.R_drew)); exact HO_598001.out))) (below_size (by repeat (first | (with_reducible first | exact HB.out | apply below_alloc | apply pw_below_drewN | apply below_drew1 | refine below_set ?_ GE567.out | refine below_set ?_ GE582.out | refine below_set ?_ GE589.out | refine below_set ?_ GE597.out) | exact HB.out))))
      have n8_ := am_ (blk_below (g := gb567) (o := .cells #[.slice A0_0 l0_0.length c0_0, .slice A0_1 l0_1.length c0_1] 24 (0, 0)) (by (with_reducible repeat (first | refine blk_drewN ?_ _ | refine blk_drew ?_ | refine blk_alloc ?_ _)); exact BK567.out) hb)
      have n9_ := am_ (blk_below (g := gb582) (o := .cells #[.slice Ao21 t575.length co21, .slice Ao24 t578.length co24] 27 (0, 0)) (by (with_reducible repeat (first | refine blk_drewN ?_ _ | refine blk_drew ?_ | refine blk_alloc ?_ _)); exact BK582.out) hb)
      have n10_ := am_ (blk_below (g := gb589) (o := .cells #[.slice Ao28 t583.length co28, .slice Ao32 t586.length co32] 27 (0, 0)) (by (with_reducible repeat (first | refine blk_drewN ?_ _ | refine blk_drew ?_ | refine blk_alloc ?_ _)); exact BK589.out) hb)
      have n11_ := am_ (blk_below (g := gb597) (o := .cells #[.slice Ao37 t590.length co37, .slice Ao42 t593.length co42] 27 (0, 0)) (by (with_reducible repeat (first | refine blk_drewN ?_ _ | refine blk_drew ?_ | refine blk_alloc ?_ _)); exact BK597.out) hb)
      have n12_ := am_ (below_step (by repeat (first | (with_reducible first | exact HB.out | apply below_alloc | apply pw_below_drewN | apply below_drew1 | refine below_set ?_ GE567.out | refine below_set ?_ GE582.out | refine below_set ?_ GE589.out | refine below_set ?_ GE597.out) | exact HB.out)) hb)
      clear HO_583000
      clear HO_583001
      clear HO_590000
      clear HO_590001
      clear HO_598000
      clear HO_598001
      clear BK567
      clear BK582
      clear BK589
      clear BK597
      clear HB
      have HO_583000 := n0_
      have HO_583001 := n1_
      have HO_590000 := n2_
      have HO_590001 := n3_
      have HO_598000 := n4_
      have HO_598001 := n5_
      have HO601 := n6_
      have HO604 := n7_
      have BK567 := n8_
      have BK582 := n9_
      have BK589 := n10_
      have BK597 := n11_
      have HB := n12_
      clear n0_ n1_ n2_ n3_ n4_ n5_ n6_ n7_ n8_ n9_ n10_ n11_ n12_
      (try clear hb)
      (try clear hb2)
      (try clear hk)
      (try clear hi)
      (try clear ho0)
      (try clear ho1)
      obtain ⟨Ao186, co186, eo186⟩ := Kd.R_slice HO601.out
      (first | subst eo186 | (injection eo186 with f1_ f2_ f3_; have f4_ := f1_.symm; have f5_ := f3_.symm; clear f1_ f2_ f3_; subst f4_; subst f5_))
      obtain ⟨Ao187, co187, eo187⟩ := Kd.R_slice HO604.out
      (first | subst eo187 | (injection eo187 with f1_ f2_ f3_; have f4_ := f1_.symm; have f5_ := f3_.symm; clear f1_ f2_ f3_; subst f4_; subst f5_))
      refine hK.out _ _ ⟨(blk_cell BK589.out 0).trans rfl, (blk_cell BK589.out 1).trans rfl, (blk_cell BK567.out 0).trans rfl, (blk_cell BK567.out 1).trans rfl⟩ (fun hHeld => ?_)
      clear hK K
      refine norm_ (a' := ?_) ?_ ?_
      rotate_left
      ·show Act.put _ (some 43) _ = _
       simp only [Act.put, List.setIfInBounds_toArray, List.set_cons_zero, List.set_cons_succ, i64_w, i32_w]
       rfl
      refine one_ (i := 3) (N := some 44) #[true, true, true, true, false] rfl rfl (by kernel_rfl) (by decide) (fun K hK => ?_)
      refine goes_ Try.func19 (by kernel_rfl) rfl #[.agg #[.slice Ao28 t583.length co28, .slice Ao32 t586.length co32], .agg #[.slice Ao186 t599.length co186, .slice Ao187 t602.length co187]] (by rfl) rfl rfl (by (try simp only [List.map_toArray, List.map_cons, List.map_nil]); first | done | rfl | (simp only [List.length_drop, List.length_take]; rfl)) ?_
      with_reducible refine (laws_eqLasso.calls kj10 _ _ t583 _ _ t586 _ _ t599 _ _ t602 false _ ?side1 ?side2 ?side3 ?side4 ?side5 ?side6 ?side7 ?side8 A63.out).mono ?_
      (case side1 => repeat (first | exact (Kd.R_reads' HO_590000.out).2.2 | (with_reducible first | refine Kd.C_alloc ?_ _ | refine Kd.C_drewN ?_ _ | refine Kd.C_drew ?_)))
      (case side2 => exact (Kd.R_reads' HO_590000.out).2.1)
      (case side3 => repeat (first | exact (Kd.R_reads' HO_590001.out).2.2 | (with_reducible first | refine Kd.C_alloc ?_ _ | refine Kd.C_drewN ?_ _ | refine Kd.C_drew ?_)))
      (case side4 => exact (Kd.R_reads' HO_590001.out).2.1)
      (case side5 => repeat (first | exact (Kd.R_reads' HO601.out).2.2 | (with_reducible first | refine Kd.C_alloc ?_ _ | refine Kd.C_drewN ?_ _ | refine Kd.C_drew ?_)))
      (case side6 => exact (Kd.R_reads' HO601.out).2.1)
      (case side7 => repeat (first | exact (Kd.R_reads' HO604.out).2.2 | (with_reducible first | refine Kd.C_alloc ?_ _ | refine Kd.C_drewN ?_ _ | refine Kd.C_drew ?_)))
      (case side8 => exact (Kd.R_reads' HO604.out).2.1)
      rintro e w188 ⟨rfl, hb⟩
      refine ⟨_, rfl, ?_⟩
      have n0_ := am_ (Kd.R_below (by (with_reducible repeat (first | apply Kd.R_alloc | apply Kd.R_drewN | apply Kd.R_drew)); exact HO_583000.out) hb)
      have n1_ := am_ (Kd.R_below (by (with_reducible repeat (first | apply Kd.R_alloc | apply Kd.R_drewN | apply Kd.R_drew)); exact HO_583001.out) hb)
      have n2_ := am_ (Kd.R_below (by (with_reducible repeat (first | apply Kd.R_alloc | apply Kd.R_drewN | apply Kd.R_drew)); exact HO_590000.out) hb)
      have n3_ := am_ (Kd.R_below (by (with_reducible repeat (first | apply Kd.R_alloc | apply Kd.R_drewN | apply Kd.R_drew)); exact HO_590001.out) hb)
      have n4_ := am_ (Kd.R_below (by (with_reducible repeat (first | apply Kd.R_alloc | apply Kd.R_drewN | apply Kd.R_drew)); exact HO_598000.out) hb)
      have n5_ := am_ (Kd.R_below (by (with_reducible repeat (first | apply Kd.R_alloc | apply Kd.R_drewN | apply Kd.R_drew)); exact HO_598001.out) hb)
      have n6_ := am_ (Kd.R_below (by (with_reducible repeat (first | apply Kd.R_alloc | apply Kd.R_drewN | apply Kd.R_drew)); exact HO601.out) hb)
      have n7_ := am_ (Kd.R_below (by (with_reducible repeat (first | apply Kd.R_alloc | apply Kd.R_drewN | apply Kd.R_drew)); exact HO604.out) hb)
      have n8_ := am_ (blk_below (g := gb567) (o := .cells #[.slice A0_0 l0_0.length c0_0, .slice A0_1 l0_1.length c0_1] 24 (0, 0)) (by (with_reducible repeat (first | refine blk_drewN ?_ _ | refine blk_drew ?_ | refine blk_alloc ?_ _)); exact BK567.out) hb)
      have n9_ := am_ (blk_below (g := gb582) (o := .cells #[.slice Ao21 t575.length co21, .slice Ao24 t578.length co24] 27 (0, 0)) (by (with_reducible repeat (first | refine blk_drewN ?_ _ | refine blk_drew ?_ | refine blk_alloc ?_ _)); exact BK582.out) hb)
      have n10_ := am_ (blk_below (g := gb589) (o := .cells #[.slice Ao28 t583.length co28, .slice Ao32 t586.length co32] 27 (0, 0)) (by (with_reducible repeat (first | refine blk_drewN ?_ _ | refine blk_drew ?_ | refine blk_alloc ?_ _)); exact BK589.out) hb)
      have n11_ := am_ (blk_below (g := gb597) (o := .cells #[.slice Ao37 t590.length co37, .slice Ao42 t593.length co42] 27 (0, 0)) (by (with_reducible repeat (first | refine blk_drewN ?_ _ | refine blk_drew ?_ | refine blk_alloc ?_ _)); exact BK597.out) hb)
      have n12_ := am_ (below_step (by repeat (first | (with_reducible first | exact HB.out | apply below_alloc | apply pw_below_drewN | apply below_drew1 | refine below_set ?_ GE567.out | refine below_set ?_ GE582.out | refine below_set ?_ GE589.out | refine below_set ?_ GE597.out) | exact HB.out)) hb)
      clear HO_583000
      clear HO_583001
      clear HO_590000
      clear HO_590001
      clear HO_598000
      clear HO_598001
      clear HO601
      clear HO604
      clear BK567
      clear BK582
      clear BK589
      clear BK597
      clear HB
      have HO_583000 := n0_
      have HO_583001 := n1_
      have HO_590000 := n2_
      have HO_590001 := n3_
      have HO_598000 := n4_
      have HO_598001 := n5_
      have HO601 := n6_
      have HO604 := n7_
      have BK567 := n8_
      have BK582 := n9_
      have BK589 := n10_
      have BK597 := n11_
      have HB := n12_
      clear n0_ n1_ n2_ n3_ n4_ n5_ n6_ n7_ n8_ n9_ n10_ n11_ n12_
      (try clear hb)
      (try clear hb2)
      (try clear hk)
      (try clear hi)
      refine hK.out _ _ ⟨(blk_cell BK589.out 0).trans rfl, (blk_cell BK589.out 1).trans rfl, (blk_cell BK567.out 0).trans rfl, (blk_cell BK567.out 1).trans rfl⟩ (fun hHeld => ?_)
      clear hK K
      refine norm_ (a' := ?_) ?_ ?_
      rotate_left
      ·show Act.put _ (some 44) _ = _
       simp only [Act.put, List.setIfInBounds_toArray, List.set_cons_zero, List.set_cons_succ, i64_w, i32_w]
       rfl
      refine pure_ (i := 4) (N := some 45) (v := ?_) (a' := ?_) #[true, true, true, true, true] rfl rfl (by kernel_rfl) (fun _ _ _ h => h) (Or.inl ⟨by rfl, ?_⟩) ?_ ?_
      rotate_left
      ·intro w'
       go_simp
       with_reducible rfl
      rotate_left
      ·simp only [Act.put, List.setIfInBounds_toArray, List.set_cons_zero, List.set_cons_succ, i64_w, i32_w]
       rfl
      refine done_ (by kernel_rfl) ?_
      try go_wp2
      go_ret
      exact ⟨by first | rfl | (simp [errW_none, errW_some] <;> rfl) | (simp [*, errW_none, errW_some] <;> rfl), by repeat (first | (with_reducible first | exact HB.out | apply below_alloc | apply pw_below_drewN | apply below_drew1 | refine below_set ?_ GE567.out | refine below_set ?_ GE582.out | refine below_set ?_ GE589.out | refine below_set ?_ GE597.out) | exact HB.out)⟩

end Go.Proofs.Ytdaodonjikaalaa.P
