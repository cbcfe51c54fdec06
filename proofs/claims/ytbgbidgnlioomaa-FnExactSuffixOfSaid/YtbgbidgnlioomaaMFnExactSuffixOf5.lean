/- Go functions of this seat as Lean functions, and the proofs that the calls come to what these say; printed by a program of this session. No condition. -/
import Derived.Test.YtbgbidgnlioomaaP0
import Derived.Test.YtbgbidgnlioomaaMFnExactSuffixOf1
import Derived.Test.YtbgbidgnlioomaaMFnExactSuffixOf2
import Derived.Test.YtbgbidgnlioomaaMFnExactSuffixOf3
import Derived.Test.YtbgbidgnlioomaaMFnExactSuffixOf4
namespace Go.Proofs.Ytbgbidgnlioomaa.P
open Go.RowKit Go.Proofs.YtbgbidgnlioomaaW.PrintWords Go.Proofs.YtbgbidgnlioomaaW.PrintLast Go.Proofs.YtbgbidgnlioomaaW.PrintMore Go.Proofs.Ytbgbidgnlioomaa.Hof
attribute [local go_sem] max2_int min2_int max_two min_two max_three min_three max_four min_four   -- for this text's walks alone
set_option linter.unusedVariables false
set_option linter.unusedSimpArgs false

/-! ### laws_FnExactSuffixOf: function 4 -/
mutual
def laws_FnExactSuffixOf.j0 : Nat → Int → Bool → Bool → Bool → List Int → List Int → List Int → List Int → List Int → List Int → List Int → List Int → Option (Bool)
 | 0, _, _, _, _, _, _, _, _, _, _, _, _ => none
 | k + 1, x1, x7, x10, x44, x1056000, x1056001, x1071000, x1071001, x1078000, x1078001, x1086000, x1086001 => if x44 = true then (some false) else ((laws_toLasso.f k x1056000 x1056001).bind fun bt1087 => ((laws_eqLasso.f k x1078000 x1078001 bt1087.1 bt1087.2).bind fun t1093 => (if t1093 = true then ((laws_markLasso.f k x1078000 x1078001 1).bind fun bt1094 => (if bt1094.1 < 0 then (laws_FnExactSuffixOf.j1 k x1 x7 true x1056000 x1056001 x1071000 x1071001 x1086000 x1086001) else ((laws_eqLasso.f k x1086000 x1086001 x1071000 x1071001).bind fun t1097 => (if t1097 = true then (laws_FnExactSuffixOf.j1 k x1 x7 (x10 != x7) x1056000 x1056001 x1071000 x1071001 x1086000 x1086001) else (laws_FnExactSuffixOf.j1 k x1 x7 true x1056000 x1056001 x1071000 x1071001 x1086000 x1086001))))) else (some false))))
def laws_FnExactSuffixOf.j1 : Nat → Int → Bool → Bool → List Int → List Int → List Int → List Int → List Int → List Int → Option (Bool)
 | 0, _, _, _, _, _, _, _, _, _ => none
 | k + 1, x1, x7, x65, x1056000, x1056001, x1071000, x1071001, x1086000, x1086001 => if x65 = true then (some false) else ((laws_markLasso.f k x1086000 x1086001 1).bind fun bt1098 => ((laws_heldLasso.f k bt1098.2.1 bt1098.2.2 1).bind fun t1101 => (if t1101 < 0 then (some false) else (if t1101 = bt1098.1 then ((laws_toLasso.f k x1056000 x1056001).bind fun bt1102 => ((impl_SuffixOf.f k bt1102.1 bt1102.2 x1).bind fun bt1108 => ((laws_eqLasso.f k bt1108.1 bt1108.2.1 x1071000 x1071001).bind fun t1116 => (if t1116 = true then (laws_FnExactSuffixOf.j2 k bt1098.1 (bt1108.2.2 != x7) bt1098.2.1 bt1098.2.2) else (laws_FnExactSuffixOf.j2 k bt1098.1 true bt1098.2.1 bt1098.2.2))))) else (some false)))))
def laws_FnExactSuffixOf.j2 : Nat → Int → Bool → List Int → List Int → Option (Bool)
 | 0, _, _, _, _ => none
 | k + 1, x12, x92, x1086000, x1086001 => if x92 = true then (some false) else ((laws_heldLasso.f k x1086000 x1086001 1).bind fun t1117 => (if t1117 < 0 then (some false) else (if t1117 = x12 then (some true) else (some false))))
end
def laws_FnExactSuffixOf.f (k : Nat) (l0_0 : List Int) (l0_1 : List Int) (a1 : Int) : Option (Bool) := (laws_szLasso.f l0_0 l0_1 1048576).bind fun t1056 => (if t1056 < 0 then (some true) else ((laws_toLasso.f k l0_0 l0_1).bind fun bt1057 => ((spec_SuffixOf.f k bt1057.1 bt1057.2 a1).bind fun bt1063 => ((laws_toLasso.f k l0_0 l0_1).bind fun bt1071 => ((impl_SuffixOf.f k bt1071.1 bt1071.2 a1).bind fun bt1078 => ((laws_eqLasso.f k bt1078.1 bt1078.2.1 bt1063.1 bt1063.2.1).bind fun t1086 => (if t1086 = true then (laws_FnExactSuffixOf.j0 k a1 bt1063.2.2 bt1078.2.2 (bt1078.2.2 != bt1063.2.2) l0_0 l0_1 bt1063.1 bt1063.2.1 bt1071.1 bt1071.2 bt1078.1 bt1078.2.1) else (laws_FnExactSuffixOf.j0 k a1 bt1063.2.2 bt1078.2.2 true l0_0 l0_1 bt1063.1 bt1063.2.1 bt1071.1 bt1071.2 bt1078.1 bt1078.2.1))))))))
theorem laws_FnExactSuffixOf.mono_l : ∀ k, (∀ y0 y1 y2 y3 y4 y5 y6 y7 y8 y9 y10 y11, LeO (laws_FnExactSuffixOf.j0 k y0 y1 y2 y3 y4 y5 y6 y7 y8 y9 y10 y11) (laws_FnExactSuffixOf.j0 (k + 1) y0 y1 y2 y3 y4 y5 y6 y7 y8 y9 y10 y11)) ∧ (∀ y0 y1 y2 y3 y4 y5 y6 y7 y8, LeO (laws_FnExactSuffixOf.j1 k y0 y1 y2 y3 y4 y5 y6 y7 y8) (laws_FnExactSuffixOf.j1 (k + 1) y0 y1 y2 y3 y4 y5 y6 y7 y8)) ∧ (∀ y0 y1 y2 y3, LeO (laws_FnExactSuffixOf.j2 k y0 y1 y2 y3) (laws_FnExactSuffixOf.j2 (k + 1) y0 y1 y2 y3))
 | 0 => ⟨fun _ _ _ _ _ _ _ _ _ _ _ _ r h => by simp [laws_FnExactSuffixOf.j0] at h, fun _ _ _ _ _ _ _ _ _ r h => by simp [laws_FnExactSuffixOf.j1] at h, fun _ _ _ _ r h => by simp [laws_FnExactSuffixOf.j2] at h⟩
 | k + 1 => by
  obtain ⟨ih0, ih1, ih2⟩ := laws_FnExactSuffixOf.mono_l k
  refine ⟨?_, ?_, ?_⟩
  ·intro y0 y1 y2 y3 y4 y5 y6 y7 y8 y9 y10 y11
   unfold laws_FnExactSuffixOf.j0
   repeat' first
   | (with_reducible exact ih0 _ _ _ _ _ _ _ _ _ _ _ _)
   | (with_reducible exact ih1 _ _ _ _ _ _ _ _ _)
   | (with_reducible exact ih2 _ _ _ _)
   | (with_reducible exact impl_SuffixOf.mono _ _ _ _)
   | (with_reducible exact laws_eqLasso.mono _ _ _ _ _)
   | (with_reducible exact laws_heldLasso.mono _ _ _ _)
   | (with_reducible exact laws_markLasso.mono _ _ _ _)
   | (with_reducible exact laws_toLasso.mono _ _ _)
   | (with_reducible exact spec_SuffixOf.mono _ _ _ _)
   | (with_reducible exact LeO.refl _)
   | (with_reducible exact LeO.none _)
   | (with_reducible refine LeO.ite ?_ ?_)
   | (with_reducible refine LeO.bind ?_ (fun _ => ?_))
   | exact ih0 _ _ _ _ _ _ _ _ _ _ _ _
   | exact ih1 _ _ _ _ _ _ _ _ _
   | exact ih2 _ _ _ _
   | exact impl_SuffixOf.mono _ _ _ _
   | exact laws_eqLasso.mono _ _ _ _ _
   | exact laws_heldLasso.mono _ _ _ _
   | exact laws_markLasso.mono _ _ _ _
   | exact laws_toLasso.mono _ _ _
   | exact spec_SuffixOf.mono _ _ _ _
   | exact LeO.none _
   | refine LeO.ite ?_ ?_
   | refine LeO.bind ?_ (fun _ => ?_)
  ·intro y0 y1 y2 y3 y4 y5 y6 y7 y8
   unfold laws_FnExactSuffixOf.j1
   repeat' first
   | (with_reducible exact ih0 _ _ _ _ _ _ _ _ _ _ _ _)
   | (with_reducible exact ih1 _ _ _ _ _ _ _ _ _)
   | (with_reducible exact ih2 _ _ _ _)
   | (with_reducible exact impl_SuffixOf.mono _ _ _ _)
   | (with_reducible exact laws_eqLasso.mono _ _ _ _ _)
   | (with_reducible exact laws_heldLasso.mono _ _ _ _)
   | (with_reducible exact laws_markLasso.mono _ _ _ _)
   | (with_reducible exact laws_toLasso.mono _ _ _)
   | (with_reducible exact spec_SuffixOf.mono _ _ _ _)
   | (with_reducible exact LeO.refl _)
   | (with_reducible exact LeO.none _)
   | (with_reducible refine LeO.ite ?_ ?_)
   | (with_reducible refine LeO.bind ?_ (fun _ => ?_))
   | exact ih0 _ _ _ _ _ _ _ _ _ _ _ _
   | exact ih1 _ _ _ _ _ _ _ _ _
   | exact ih2 _ _ _ _
   | exact impl_SuffixOf.mono _ _ _ _
   | exact laws_eqLasso.mono _ _ _ _ _
   | exact laws_heldLasso.mono _ _ _ _
   | exact laws_markLasso.mono _ _ _ _
   | exact laws_toLasso.mono _ _ _
   | exact spec_SuffixOf.mono _ _ _ _
   | exact LeO.none _
   | refine LeO.ite ?_ ?_
   | refine LeO.bind ?_ (fun _ => ?_)
  ·intro y0 y1 y2 y3
   unfold laws_FnExactSuffixOf.j2
   repeat' first
   | (with_reducible exact ih0 _ _ _ _ _ _ _ _ _ _ _ _)
   | (with_reducible exact ih1 _ _ _ _ _ _ _ _ _)
   | (with_reducible exact ih2 _ _ _ _)
   | (with_reducible exact impl_SuffixOf.mono _ _ _ _)
   | (with_reducible exact laws_eqLasso.mono _ _ _ _ _)
   | (with_reducible exact laws_heldLasso.mono _ _ _ _)
   | (with_reducible exact laws_markLasso.mono _ _ _ _)
   | (with_reducible exact laws_toLasso.mono _ _ _)
   | (with_reducible exact spec_SuffixOf.mono _ _ _ _)
   | (with_reducible exact LeO.refl _)
   | (with_reducible exact LeO.none _)
   | (with_reducible refine LeO.ite ?_ ?_)
   | (with_reducible refine LeO.bind ?_ (fun _ => ?_))
   | exact ih0 _ _ _ _ _ _ _ _ _ _ _ _
   | exact ih1 _ _ _ _ _ _ _ _ _
   | exact ih2 _ _ _ _
   | exact impl_SuffixOf.mono _ _ _ _
   | exact laws_eqLasso.mono _ _ _ _ _
   | exact laws_heldLasso.mono _ _ _ _
   | exact laws_markLasso.mono _ _ _ _
   | exact laws_toLasso.mono _ _ _
   | exact spec_SuffixOf.mono _ _ _ _
   | exact LeO.none _
   | refine LeO.ite ?_ ?_
   | refine LeO.bind ?_ (fun _ => ?_)
theorem laws_FnExactSuffixOf.mono : ∀ a0 a1 a2 k, LeO (laws_FnExactSuffixOf.f k a0 a1 a2) (laws_FnExactSuffixOf.f (k + 1) a0 a1 a2) := by
 intro a0 a1 a2 k
 obtain ⟨ih0, ih1, ih2⟩ := laws_FnExactSuffixOf.mono_l k
 unfold laws_FnExactSuffixOf.f
 repeat' first
   | (with_reducible exact ih0 _ _ _ _ _ _ _ _ _ _ _ _)
   | (with_reducible exact ih1 _ _ _ _ _ _ _ _ _)
   | (with_reducible exact ih2 _ _ _ _)
   | (with_reducible exact impl_SuffixOf.mono _ _ _ _)
   | (with_reducible exact laws_eqLasso.mono _ _ _ _ _)
   | (with_reducible exact laws_heldLasso.mono _ _ _ _)
   | (with_reducible exact laws_markLasso.mono _ _ _ _)
   | (with_reducible exact laws_toLasso.mono _ _ _)
   | (with_reducible exact spec_SuffixOf.mono _ _ _ _)
   | (with_reducible exact LeO.refl _)
   | (with_reducible exact LeO.none _)
   | (with_reducible refine LeO.ite ?_ ?_)
   | (with_reducible refine LeO.bind ?_ (fun _ => ?_))
   | exact ih0 _ _ _ _ _ _ _ _ _ _ _ _
   | exact ih1 _ _ _ _ _ _ _ _ _
   | exact ih2 _ _ _ _
   | exact impl_SuffixOf.mono _ _ _ _
   | exact laws_eqLasso.mono _ _ _ _ _
   | exact laws_heldLasso.mono _ _ _ _
   | exact laws_markLasso.mono _ _ _ _
   | exact laws_toLasso.mono _ _ _
   | exact spec_SuffixOf.mono _ _ _ _
   | exact LeO.none _
   | refine LeO.ite ?_ ?_
   | refine LeO.bind ?_ (fun _ => ?_)
set_option maxHeartbeats 8000000 in
set_option maxRecDepth 100000 in
theorem laws_FnExactSuffixOf.calls (k : Nat) (A0_0 : Option Addr) (c0_0 : Nat) (l0_0 : List Int) (A0_1 : Option Addr) (c0_1 : Nat) (l0_1 : List Int) (a1 : Int) (r : Bool) (w : World) (hr0_0 : Kd.C (Kd.int .i64) w A0_0 l0_0.length l0_0) (hc0_0 : l0_0.length ≤ c0_0) (hr0_1 : Kd.C (Kd.int .i64) w A0_1 l0_1.length l0_1) (hc0_1 : l0_1.length ≤ c0_1) (h : laws_FnExactSuffixOf.f k l0_0 l0_1 a1 = some r) :
  Calls Try.prog 4 #[.agg #[.slice A0_0 l0_0.length c0_0, .slice A0_1 l0_1.length c0_1], .int .i64 a1] w fun e w' => e = .returned (.bool r) ∧ Below w.heap.size w w' := by
 have hu33 := Try.underlying33
 have hu35 := Try.underlying35
 have HR0_0 := am_ hr0_0
 have HC0_0 := am_ hc0_0
 clear hr0_0 hc0_0
 have HR0_1 := am_ hr0_1
 have HC0_1 := am_ hc0_1
 clear hr0_1 hc0_1
 have HB := am_ (Below.refl w.heap.size w)
 have H : ((laws_szLasso.f l0_0 l0_1 1048576).bind fun t1056 => (if t1056 < 0 then (some true) else ((laws_toLasso.f k l0_0 l0_1).bind fun bt1057 => ((spec_SuffixOf.f k bt1057.1 bt1057.2 a1).bind fun bt1063 => ((laws_toLasso.f k l0_0 l0_1).bind fun bt1071 => ((impl_SuffixOf.f k bt1071.1 bt1071.2 a1).bind fun bt1078 => ((laws_eqLasso.f k bt1078.1 bt1078.2.1 bt1063.1 bt1063.2.1).bind fun t1086 => (if t1086 = true then (laws_FnExactSuffixOf.j0 k a1 bt1063.2.2 bt1078.2.2 (bt1078.2.2 != bt1063.2.2) l0_0 l0_1 bt1063.1 bt1063.2.1 bt1071.1 bt1071.2 bt1078.1 bt1078.2.1) else (laws_FnExactSuffixOf.j0 k a1 bt1063.2.2 bt1078.2.2 true l0_0 l0_1 bt1063.1 bt1063.2.1 bt1071.1 bt1071.2 bt1078.1 bt1078.2.1))))))))) = some r := h
 clear h
 replace H := Option.bind_eq_some_iff.mp H
 obtain ⟨t1056, A30, H⟩ := H
 replace H : (if t1056 < 0 then (some true) else ((laws_toLasso.f k l0_0 l0_1).bind fun bt1057 => ((spec_SuffixOf.f k bt1057.1 bt1057.2 a1).bind fun bt1063 => ((laws_toLasso.f k l0_0 l0_1).bind fun bt1071 => ((impl_SuffixOf.f k bt1071.1 bt1071.2 a1).bind fun bt1078 => ((laws_eqLasso.f k bt1078.1 bt1078.2.1 bt1063.1 bt1063.2.1).bind fun t1086 => (if t1086 = true then (laws_FnExactSuffixOf.j0 k a1 bt1063.2.2 bt1078.2.2 (bt1078.2.2 != bt1063.2.2) l0_0 l0_1 bt1063.1 bt1063.2.1 bt1071.1 bt1071.2 bt1078.1 bt1078.2.1) else (laws_FnExactSuffixOf.j0 k a1 bt1063.2.2 bt1078.2.2 true l0_0 l0_1 bt1063.1 bt1063.2.1 bt1071.1 bt1071.2 bt1078.1 bt1078.2.1)))))))) = some r := H
 have A3 := am_ A30
 clear A30
 by_cases c4 : t1056 < 0
 ·rw [if_pos c4] at H
  have c4b0 : decide (t1056 < 0) = true := decide_eq_true c4
  clear c4
  obtain rfl := Option.some.inj H
  go_enter Try.func4, Try.ntmps4
  go_wp2_with (first | ((with_reducible refine gate_dst (N := 2) rfl ?_); refine box_event ?hg (N := 2) ?hd (cs := #[.slice A0_0 l0_0.length c0_0, .slice A0_1 l0_1.length c0_1]) (t := 33) ?hr ?_; (case hd => rfl); (case hg => rfl); (case hr => first | (go_simp; done) | (go_simp; rfl)); intro gb1055 hg w5 hbox hb; have n0_ := am_ (below_step (by repeat (first | (with_reducible first | exact HB.out | apply below_alloc | apply pw_below_drewN | apply below_drew1) | exact HB.out)) hb); have n1_ := am_ (hbox); have n2_ := am_ ((by rw [hg]; exact (below_size (by repeat (first | (with_reducible first | exact HB.out | apply below_alloc | apply pw_below_drewN | apply below_drew1) | exact HB.out))) : w.heap.size ≤ gb1055)); have n3_ := am_ ((by rw [hg]; exact (below_size (by repeat (first | (with_reducible first | exact HB.out | apply below_alloc | apply pw_below_drewN | apply below_drew1) | exact HB.out))) : w.heap.size ≤ gb1055)); clear HB; have HB := n0_; have BK1055 := n1_; have GW1055 := n2_; have GE1055 := n3_; clear n0_ n1_ n2_ n3_; clear hb hbox hg; have hcz6_0 : w5.cell? ⟨gb1055, 0, none⟩ = some (.slice A0_0 l0_0.length c0_0) := (blk_cell BK1055.out 0).trans rfl; have hcz6_1 : w5.cell? ⟨gb1055, 1, none⟩ = some (.slice A0_1 l0_1.length c0_1) := (blk_cell BK1055.out 1).trans rfl; have hfz6_0 := blk_frozen BK1055.out 0; have hfz6_1 := blk_frozen BK1055.out 1) | ((with_reducible refine gate_callee (f := 22) rfl ?_); refine goesL_ (some 18) rfl rfl Try.func22 (by kernel_rfl) rfl #[.agg #[.slice A0_0 l0_0.length c0_0, .slice A0_1 l0_1.length c0_1], .int .i64 1048576] rfl (by (try simp only [List.map_toArray, List.map_cons, List.map_nil]); first | done | rfl | (simp only [List.length_drop, List.length_take]; rfl)) ?_; (with_reducible refine (laws_szLasso.calls _ _ l0_0 _ _ l0_1 1048576 t1056 _ ?side1 ?side2 ?side3 ?side4 A3.out).mono ?_); (case side1 => repeat (first | exact (Kd.C_below HR0_0.out HB.out) | (with_reducible first | refine Kd.C_alloc ?_ _ | refine Kd.C_drewN ?_ _ | refine Kd.C_drew ?_))); (case side2 => exact HC0_0.out); (case side3 => repeat (first | exact (Kd.C_below HR0_1.out HB.out) | (with_reducible first | refine Kd.C_alloc ?_ _ | refine Kd.C_drewN ?_ _ | refine Kd.C_drew ?_))); (case side4 => exact HC0_1.out); rintro e w7 ⟨rfl, hb⟩; refine ⟨_, rfl, ?_⟩; have n0_ := am_ (blk_below (g := gb1055) (o := .cells #[.slice A0_0 l0_0.length c0_0, .slice A0_1 l0_1.length c0_1] 33 (0, 0)) (by (with_reducible repeat (first | refine blk_drewN ?_ _ | refine blk_drew ?_ | refine blk_alloc ?_ _)); exact BK1055.out) hb); have n1_ := am_ (below_step (by repeat (first | (with_reducible first | exact HB.out | apply below_alloc | apply pw_below_drewN | apply below_drew1 | refine below_set ?_ GE1055.out) | exact HB.out)) hb); clear BK1055; clear HB; have BK1055 := n0_; have HB := n1_; clear n0_ n1_; (try clear hb); (try clear hb2); (try clear hk); (try clear hi)))
  go_ret
  exact ⟨by first | rfl | (simp [errW_none, errW_some] <;> rfl) | (simp [*, errW_none, errW_some] <;> rfl), by repeat (first | (with_reducible first | exact HB.out | apply below_alloc | apply pw_below_drewN | apply below_drew1 | refine below_set ?_ GE1055.out) | exact HB.out)⟩
 ·rw [if_neg c4] at H
  have c4b0 : decide (t1056 < 0) = false := decide_eq_false c4
  clear c4
  replace H := Option.bind_eq_some_iff.mp H
  obtain ⟨⟨t1057, t1060⟩, A80, H⟩ := H
  replace H : ((spec_SuffixOf.f k t1057 t1060 a1).bind fun bt1063 => ((laws_toLasso.f k l0_0 l0_1).bind fun bt1071 => ((impl_SuffixOf.f k bt1071.1 bt1071.2 a1).bind fun bt1078 => ((laws_eqLasso.f k bt1078.1 bt1078.2.1 bt1063.1 bt1063.2.1).bind fun t1086 => (if t1086 = true then (laws_FnExactSuffixOf.j0 k a1 bt1063.2.2 bt1078.2.2 (bt1078.2.2 != bt1063.2.2) l0_0 l0_1 bt1063.1 bt1063.2.1 bt1071.1 bt1071.2 bt1078.1 bt1078.2.1) else (laws_FnExactSuffixOf.j0 k a1 bt1063.2.2 bt1078.2.2 true l0_0 l0_1 bt1063.1 bt1063.2.1 bt1071.1 bt1071.2 bt1078.1 bt1078.2.1)))))) = some r := H
  have A8 := am_ A80
  clear A80
  replace H := Option.bind_eq_some_iff.mp H
  obtain ⟨⟨t1063, t1066, t1069⟩, A90, H⟩ := H
  replace H : ((laws_toLasso.f k l0_0 l0_1).bind fun bt1071 => ((impl_SuffixOf.f k bt1071.1 bt1071.2 a1).bind fun bt1078 => ((laws_eqLasso.f k bt1078.1 bt1078.2.1 t1063 t1066).bind fun t1086 => (if t1086 = true then (laws_FnExactSuffixOf.j0 k a1 t1069 bt1078.2.2 (bt1078.2.2 != t1069) l0_0 l0_1 t1063 t1066 bt1071.1 bt1071.2 bt1078.1 bt1078.2.1) else (laws_FnExactSuffixOf.j0 k a1 t1069 bt1078.2.2 true l0_0 l0_1 t1063 t1066 bt1071.1 bt1071.2 bt1078.1 bt1078.2.1))))) = some r := H
  have A9 := am_ A90
  clear A90
  replace H := Option.bind_eq_some_iff.mp H
  obtain ⟨⟨t1071, t1074⟩, A100, H⟩ := H
  replace H : ((impl_SuffixOf.f k t1071 t1074 a1).bind fun bt1078 => ((laws_eqLasso.f k bt1078.1 bt1078.2.1 t1063 t1066).bind fun t1086 => (if t1086 = true then (laws_FnExactSuffixOf.j0 k a1 t1069 bt1078.2.2 (bt1078.2.2 != t1069) l0_0 l0_1 t1063 t1066 t1071 t1074 bt1078.1 bt1078.2.1) else (laws_FnExactSuffixOf.j0 k a1 t1069 bt1078.2.2 true l0_0 l0_1 t1063 t1066 t1071 t1074 bt1078.1 bt1078.2.1)))) = some r := H
  have A10 := am_ A100
  clear A100
  replace H := Option.bind_eq_some_iff.mp H
  obtain ⟨⟨t1078, t1081, t1084⟩, A110, H⟩ := H
  replace H : ((laws_eqLasso.f k t1078 t1081 t1063 t1066).bind fun t1086 => (if t1086 = true then (laws_FnExactSuffixOf.j0 k a1 t1069 t1084 (t1084 != t1069) l0_0 l0_1 t1063 t1066 t1071 t1074 t1078 t1081) else (laws_FnExactSuffixOf.j0 k a1 t1069 t1084 true l0_0 l0_1 t1063 t1066 t1071 t1074 t1078 t1081))) = some r := H
  have A11 := am_ A110
  clear A110
  have HC12 := am_ H
  clear H
  go_enter Try.func4, Try.ntmps4
  go_upto_region 8 with (first | ((with_reducible refine gate_dst (N := 2) rfl ?_); refine box_event ?hg (N := 2) ?hd (cs := #[.slice A0_0 l0_0.length c0_0, .slice A0_1 l0_1.length c0_1]) (t := 33) ?hr ?_; (case hd => rfl); (case hg => rfl); (case hr => first | (go_simp; done) | (go_simp; rfl)); intro gb1055 hg w13 hbox hb; have n0_ := am_ (below_step (by repeat (first | (with_reducible first | exact HB.out | apply below_alloc | apply pw_below_drewN | apply below_drew1) | exact HB.out)) hb); have n1_ := am_ (hbox); have n2_ := am_ ((by rw [hg]; exact (below_size (by repeat (first | (with_reducible first | exact HB.out | apply below_alloc | apply pw_below_drewN | apply below_drew1) | exact HB.out))) : w.heap.size ≤ gb1055)); have n3_ := am_ ((by rw [hg]; exact (below_size (by repeat (first | (with_reducible first | exact HB.out | apply below_alloc | apply pw_below_drewN | apply below_drew1) | exact HB.out))) : w.heap.size ≤ gb1055)); clear HB; have HB := n0_; have BK1055 := n1_; have GW1055 := n2_; have GE1055 := n3_; clear n0_ n1_ n2_ n3_; clear hb hbox hg; have hcz14_0 : w13.cell? ⟨gb1055, 0, none⟩ = some (.slice A0_0 l0_0.length c0_0) := (blk_cell BK1055.out 0).trans rfl; have hcz14_1 : w13.cell? ⟨gb1055, 1, none⟩ = some (.slice A0_1 l0_1.length c0_1) := (blk_cell BK1055.out 1).trans rfl; have hfz14_0 := blk_frozen BK1055.out 0; have hfz14_1 := blk_frozen BK1055.out 1) | ((with_reducible refine gate_callee (f := 22) rfl ?_); refine goesL_ (some 18) rfl rfl Try.func22 (by kernel_rfl) rfl #[.agg #[.slice A0_0 l0_0.length c0_0, .slice A0_1 l0_1.length c0_1], .int .i64 1048576] rfl (by (try simp only [List.map_toArray, List.map_cons, List.map_nil]); first | done | rfl | (simp only [List.length_drop, List.length_take]; rfl)) ?_; (with_reducible refine (laws_szLasso.calls _ _ l0_0 _ _ l0_1 1048576 t1056 _ ?side1 ?side2 ?side3 ?side4 A3.out).mono ?_); (case side1 => repeat (first | exact (Kd.C_below HR0_0.out HB.out) | (with_reducible first | refine Kd.C_alloc ?_ _ | refine Kd.C_drewN ?_ _ | refine Kd.C_drew ?_))); (case side2 => exact HC0_0.out); (case side3 => repeat (first | exact (Kd.C_below HR0_1.out HB.out) | (with_reducible first | refine Kd.C_alloc ?_ _ | refine Kd.C_drewN ?_ _ | refine Kd.C_drew ?_))); (case side4 => exact HC0_1.out); rintro e w15 ⟨rfl, hb⟩; refine ⟨_, rfl, ?_⟩; have n0_ := am_ (blk_below (g := gb1055) (o := .cells #[.slice A0_0 l0_0.length c0_0, .slice A0_1 l0_1.length c0_1] 33 (0, 0)) (by (with_reducible repeat (first | refine blk_drewN ?_ _ | refine blk_drew ?_ | refine blk_alloc ?_ _)); exact BK1055.out) hb); have n1_ := am_ (below_step (by repeat (first | (with_reducible first | exact HB.out | apply below_alloc | apply pw_below_drewN | apply below_drew1 | refine below_set ?_ GE1055.out) | exact HB.out)) hb); clear BK1055; clear HB; have BK1055 := n0_; have HB := n1_; clear n0_ n1_; (try clear hb); (try clear hb2); (try clear hk); (try clear hi); have hcz16_0 : w15.cell? ⟨gb1055, 0, none⟩ = some (.slice A0_0 l0_0.length c0_0) := (blk_cell BK1055.out 0).trans rfl; have hcz16_1 : w15.cell? ⟨gb1055, 1, none⟩ = some (.slice A0_1 l0_1.length c0_1) := (blk_cell BK1055.out 1).trans rfl; have hfz16_0 := blk_frozen BK1055.out 0; have hfz16_1 := blk_frozen BK1055.out 1) | ((with_reducible refine gate_callee (f := 24) rfl ?_); refine goesL_ (some 23) rfl rfl Try.func24 (by kernel_rfl) rfl #[.agg #[.slice A0_0 l0_0.length c0_0, .slice A0_1 l0_1.length c0_1]] rfl (by (try simp only [List.map_toArray, List.map_cons, List.map_nil]); first | done | rfl | (simp only [List.length_drop, List.length_take]; rfl)) ?_; (with_reducible refine (laws_toLasso.calls k _ _ l0_0 _ _ l0_1 t1057 t1060 _ ?side1 ?side2 ?side3 ?side4 A8.out).mono ?_); (case side1 => repeat (first | exact (Kd.C_below HR0_0.out HB.out) | (with_reducible first | refine Kd.C_alloc ?_ _ | refine Kd.C_drewN ?_ _ | refine Kd.C_drew ?_))); (case side2 => exact HC0_0.out); (case side3 => repeat (first | exact (Kd.C_below HR0_1.out HB.out) | (with_reducible first | refine Kd.C_alloc ?_ _ | refine Kd.C_drewN ?_ _ | refine Kd.C_drew ?_))); (case side4 => exact HC0_1.out); rintro e w17 ⟨v1058, v1061, rfl, ho0, ho1, hb⟩; refine ⟨_, rfl, ?_⟩; have n0_ := am_ (Kd.R_lower ho0 (below_size (by repeat (first | (with_reducible first | exact HB.out | apply below_alloc | apply pw_below_drewN | apply below_drew1 | refine below_set ?_ GE1055.out) | exact HB.out)))); have n1_ := am_ (Kd.R_lower ho1 (below_size (by repeat (first | (with_reducible first | exact HB.out | apply below_alloc | apply pw_below_drewN | apply below_drew1 | refine below_set ?_ GE1055.out) | exact HB.out)))); have n2_ := am_ (blk_below (g := gb1055) (o := .cells #[.slice A0_0 l0_0.length c0_0, .slice A0_1 l0_1.length c0_1] 33 (0, 0)) (by (with_reducible repeat (first | refine blk_drewN ?_ _ | refine blk_drew ?_ | refine blk_alloc ?_ _)); exact BK1055.out) hb); have n3_ := am_ (below_step (by repeat (first | (with_reducible first | exact HB.out | apply below_alloc | apply pw_below_drewN | apply below_drew1 | refine below_set ?_ GE1055.out) | exact HB.out)) hb); clear BK1055; clear HB; have HO1059 := n0_; have HO1062 := n1_; have BK1055 := n2_; have HB := n3_; clear n0_ n1_ n2_ n3_; (try clear hb); (try clear hb2); (try clear hk); (try clear hi); (try clear ho0); (try clear ho1); obtain ⟨Ao18, co18, eo18⟩ := Kd.R_slice HO1059.out; subst eo18; obtain ⟨Ao19, co19, eo19⟩ := Kd.R_slice HO1062.out; subst eo19) | ((with_reducible refine gate_callee (f := 23) rfl ?_); refine goesL_ (some 25) rfl rfl Try.func23 (by kernel_rfl) rfl #[.agg #[.slice Ao18 t1057.length co18, .slice Ao19 t1060.length co19], .int .i64 a1] rfl (by (try simp only [List.map_toArray, List.map_cons, List.map_nil]); first | done | rfl | (simp only [List.length_drop, List.length_take]; rfl)) ?_; (with_reducible refine (spec_SuffixOf.calls k _ _ t1057 _ _ t1060 a1 t1063 t1066 t1069 _ ?side1 ?side2 ?side3 ?side4 A9.out).mono ?_); (case side1 => repeat (first | exact (Kd.R_reads' HO1059.out).2.2 | (with_reducible first | refine Kd.C_alloc ?_ _ | refine Kd.C_drewN ?_ _ | refine Kd.C_drew ?_))); (case side2 => exact (Kd.R_reads' HO1059.out).2.1); (case side3 => repeat (first | exact (Kd.R_reads' HO1062.out).2.2 | (with_reducible first | refine Kd.C_alloc ?_ _ | refine Kd.C_drewN ?_ _ | refine Kd.C_drew ?_))); (case side4 => exact (Kd.R_reads' HO1062.out).2.1); rintro e w20 ⟨v1064, v1067, rfl, ho0, ho1, hb⟩; refine ⟨_, rfl, ?_⟩; have n0_ := am_ (Kd.R_mono (Kd.R_told (Kd.R_told (Kd.R_old (by (with_reducible repeat (first | apply Kd.R_alloc | apply Kd.R_drewN | apply Kd.R_drew)); exact HO1059.out) hb) (Kd.R_base ho0)) (Kd.R_base ho1)) (fun _ h_ => h_.1)); have n1_ := am_ (Kd.R_mono (Kd.R_told (Kd.R_told (Kd.R_old (by (with_reducible repeat (first | apply Kd.R_alloc | apply Kd.R_drewN | apply Kd.R_drew)); exact HO1062.out) hb) (Kd.R_base ho0)) (Kd.R_base ho1)) (fun _ h_ => h_.1)); have n2_ := am_ (Kd.R_lower (Kd.R_new' (Kd.R_new' ho0 (Kd.R_lt (by (with_reducible repeat (first | apply Kd.R_alloc | apply Kd.R_drewN | apply Kd.R_drew)); exact HO1059.out))) (Kd.R_lt (by (with_reducible repeat (first | apply Kd.R_alloc | apply Kd.R_drewN | apply Kd.R_drew)); exact HO1062.out))) (below_size (by repeat (first | (with_reducible first | exact HB.out | apply below_alloc | apply pw_below_drewN | apply below_drew1 | refine below_set ?_ GE1055.out) | exact HB.out)))); have n3_ := am_ (Kd.R_lower (Kd.R_new' (Kd.R_new' ho1 (Kd.R_lt (by (with_reducible repeat (first | apply Kd.R_alloc | apply Kd.R_drewN | apply Kd.R_drew)); exact HO1059.out))) (Kd.R_lt (by (with_reducible repeat (first | apply Kd.R_alloc | apply Kd.R_drewN | apply Kd.R_drew)); exact HO1062.out))) (below_size (by repeat (first | (with_reducible first | exact HB.out | apply below_alloc | apply pw_below_drewN | apply below_drew1 | refine below_set ?_ GE1055.out) | exact HB.out)))); have n4_ := am_ (blk_below (g := gb1055) (o := .cells #[.slice A0_0 l0_0.length c0_0, .slice A0_1 l0_1.length c0_1] 33 (0, 0)) (by (with_reducible repeat (first | refine blk_drewN ?_ _ | refine blk_drew ?_ | refine blk_alloc ?_ _)); exact BK1055.out) hb); have n5_ := am_ (below_step (by repeat (first | (with_reducible first | exact HB.out | apply below_alloc | apply pw_below_drewN | apply below_drew1 | refine below_set ?_ GE1055.out) | exact HB.out)) hb); clear HO1059; clear HO1062; clear BK1055; clear HB; have HO1059 := n0_; have HO1062 := n1_; have HO1065 := n2_; have HO1068 := n3_; have BK1055 := n4_; have HB := n5_; clear n0_ n1_ n2_ n3_ n4_ n5_; (try clear hb); (try clear hb2); (try clear hk); (try clear hi); (try clear ho0); (try clear ho1)) | ((with_reducible refine gate_dst (N := 6) rfl ?_); refine box_event ?hg (N := 6) ?hd (cs := #[.slice none 0 0, .slice none 0 0]) (t := 35) ?hr ?_; (case hd => rfl); (case hg => rfl); (case hr => first | (go_simp; done) | (go_simp; rfl)); intro gb1070 hg w21 hbox hb; have n0_ := am_ (Kd.R_below (by (with_reducible repeat (first | apply Kd.R_alloc | apply Kd.R_drewN | apply Kd.R_drew)); exact HO1059.out) hb); have n1_ := am_ (Kd.R_below (by (with_reducible repeat (first | apply Kd.R_alloc | apply Kd.R_drewN | apply Kd.R_drew)); exact HO1062.out) hb); have n2_ := am_ (Kd.R_below (by (with_reducible repeat (first | apply Kd.R_alloc | apply Kd.R_drewN | apply Kd.R_drew)); exact HO1065.out) hb); have n3_ := am_ (Kd.R_below (by (with_reducible repeat (first | apply Kd.R_alloc | apply Kd.R_drewN | apply Kd.R_drew)); exact HO1068.out) hb); have n4_ := am_ (blk_below (g := gb1055) (o := .cells #[.slice A0_0 l0_0.length c0_0, .slice A0_1 l0_1.length c0_1] 33 (0, 0)) (by (with_reducible repeat (first | refine blk_drewN ?_ _ | refine blk_drew ?_ | refine blk_alloc ?_ _)); exact BK1055.out) hb); have n5_ := am_ (below_step (by repeat (first | (with_reducible first | exact HB.out | apply below_alloc | apply pw_below_drewN | apply below_drew1 | refine below_set ?_ GE1055.out) | exact HB.out)) hb); have n6_ := am_ (hbox); have n7_ := am_ ((by rw [hg]; exact (below_size (by repeat (first | (with_reducible first | exact HB.out | apply below_alloc | apply pw_below_drewN | apply below_drew1 | refine below_set ?_ GE1055.out) | exact HB.out))) : w.heap.size ≤ gb1070)); have n8_ := am_ ((by rw [hg]; exact (below_size (by repeat (first | (with_reducible first | exact HB.out | apply below_alloc | apply pw_below_drewN | apply below_drew1 | refine below_set ?_ GE1055.out) | exact HB.out))) : w.heap.size ≤ gb1070)); have n9_ := am_ ((by rw [hg]; exact Nat.ne_of_lt (blk_lt (g := gb1055) (o := .cells #[.slice A0_0 l0_0.length c0_0, .slice A0_1 l0_1.length c0_1] 33 (0, 0)) (by (with_reducible repeat (first | refine blk_drewN ?_ _ | refine blk_drew ?_ | refine blk_alloc ?_ _)); exact BK1055.out)) : gb1055 ≠ gb1070)); have n10_ := am_ ((by rw [hg]; exact Nat.ne_of_gt (blk_lt (g := gb1055) (o := .cells #[.slice A0_0 l0_0.length c0_0, .slice A0_1 l0_1.length c0_1] 33 (0, 0)) (by (with_reducible repeat (first | refine blk_drewN ?_ _ | refine blk_drew ?_ | refine blk_alloc ?_ _)); exact BK1055.out)) : gb1070 ≠ gb1055)); clear HO1059; clear HO1062; clear HO1065; clear HO1068; clear BK1055; clear HB; have HO1059 := n0_; have HO1062 := n1_; have HO1065 := n2_; have HO1068 := n3_; have BK1055 := n4_; have HB := n5_; have BK1070 := n6_; have GW1070 := n7_; have GE1070 := n8_; have NB1055_1070 := n9_; have NB1070_1055 := n10_; clear n0_ n1_ n2_ n3_ n4_ n5_ n6_ n7_ n8_ n9_ n10_; clear hb hbox hg; obtain ⟨Ao22, co22, eo22⟩ := Kd.R_slice HO1065.out; subst eo22; have hnb23 := NB1070_1055.out; have hnc23 := NB1055_1070.out; have hcz24_0 : w21.cell? ⟨gb1070, 0, none⟩ = some (.slice none 0 0) := (blk_cell BK1070.out 0).trans rfl; have hcz24_1 : w21.cell? ⟨gb1070, 1, none⟩ = some (.slice none 0 0) := (blk_cell BK1070.out 1).trans rfl; have hfz24_0 := blk_frozen BK1070.out 0; have hfz24_1 := blk_frozen BK1070.out 1; obtain ⟨Ao25, co25, eo25⟩ := Kd.R_slice HO1068.out; subst eo25; have hcz26_0 : w21.cell? ⟨gb1055, 0, none⟩ = some (.slice A0_0 l0_0.length c0_0) := (blk_cell BK1055.out 0).trans rfl; have hcz26_1 : w21.cell? ⟨gb1055, 1, none⟩ = some (.slice A0_1 l0_1.length c0_1) := (blk_cell BK1055.out 1).trans rfl; have hfz26_0 := blk_frozen BK1055.out 0; have hfz26_1 := blk_frozen BK1055.out 1) | ((with_reducible refine gate_callee (f := 24) rfl ?_); refine goesL_ (some 29) rfl rfl Try.func24 (by kernel_rfl) rfl #[.agg #[.slice A0_0 l0_0.length c0_0, .slice A0_1 l0_1.length c0_1]] rfl (by (try simp only [List.map_toArray, List.map_cons, List.map_nil]); first | done | rfl | (simp only [List.length_drop, List.length_take]; rfl)) ?_; (with_reducible refine (laws_toLasso.calls k _ _ l0_0 _ _ l0_1 t1071 t1074 _ ?side1 ?side2 ?side3 ?side4 A10.out).mono ?_); (case side1 => exact Kd.C_below HR0_0.out (by repeat (first | (with_reducible first | exact HB.out | apply below_alloc | apply pw_below_drewN | apply below_drew1 | refine below_set ?_ GE1055.out | refine below_set ?_ GE1070.out) | exact HB.out))); (case side2 => exact HC0_0.out); (case side3 => exact Kd.C_below HR0_1.out (by repeat (first | (with_reducible first | exact HB.out | apply below_alloc | apply pw_below_drewN | apply below_drew1 | refine below_set ?_ GE1055.out | refine below_set ?_ GE1070.out) | exact HB.out))); (case side4 => exact HC0_1.out); rintro e w27 ⟨v1072, v1075, rfl, ho0, ho1, hb⟩; refine ⟨_, rfl, ?_⟩; have n0_ := am_ (Kd.R_mono (Kd.R_told (Kd.R_told (Kd.R_old (by (with_reducible repeat (first | apply Kd.R_alloc | apply Kd.R_drewN | apply Kd.R_drew)); exact (Kd.R_mono (Kd.R_far (p := ⟨gb1070, 1, none⟩) (Kd.R_far (p := ⟨gb1070, 0, none⟩) (Kd.R_types HO1059.out BK1070.out (by decide)) (fun _ hk => hk.2) (.slice Ao22 t1063.length co22)) (fun _ hk => hk.2) (.slice Ao25 t1066.length co25)) (fun _ h_ => h_.1))) hb) (Kd.R_base ho0)) (Kd.R_base ho1)) (fun _ h_ => h_.1)); have n1_ := am_ (Kd.R_mono (Kd.R_told (Kd.R_told (Kd.R_old (by (with_reducible repeat (first | apply Kd.R_alloc | apply Kd.R_drewN | apply Kd.R_drew)); exact (Kd.R_mono (Kd.R_far (p := ⟨gb1070, 1, none⟩) (Kd.R_far (p := ⟨gb1070, 0, none⟩) (Kd.R_types HO1062.out BK1070.out (by decide)) (fun _ hk => hk.2) (.slice Ao22 t1063.length co22)) (fun _ hk => hk.2) (.slice Ao25 t1066.length co25)) (fun _ h_ => h_.1))) hb) (Kd.R_base ho0)) (Kd.R_base ho1)) (fun _ h_ => h_.1)); have n2_ := am_ (Kd.R_mono (Kd.R_told (Kd.R_told (Kd.R_old (by (with_reducible repeat (first | apply Kd.R_alloc | apply Kd.R_drewN | apply Kd.R_drew)); exact (Kd.R_mono (Kd.R_far (p := ⟨gb1070, 1, none⟩) (Kd.R_far (p := ⟨gb1070, 0, none⟩) (Kd.R_types HO1065.out BK1070.out (by decide)) (fun _ hk => hk.2) (.slice Ao22 t1063.length co22)) (fun _ hk => hk.2) (.slice Ao25 t1066.length co25)) (fun _ h_ => h_.1))) hb) (Kd.R_base ho0)) (Kd.R_base ho1)) (fun _ h_ => h_.1)); have n3_ := am_ (Kd.R_mono (Kd.R_told (Kd.R_told (Kd.R_old (by (with_reducible repeat (first | apply Kd.R_alloc | apply Kd.R_drewN | apply Kd.R_drew)); exact (Kd.R_mono (Kd.R_far (p := ⟨gb1070, 1, none⟩) (Kd.R_far (p := ⟨gb1070, 0, none⟩) (Kd.R_types HO1068.out BK1070.out (by decide)) (fun _ hk => hk.2) (.slice Ao22 t1063.length co22)) (fun _ hk => hk.2) (.slice Ao25 t1066.length co25)) (fun _ h_ => h_.1))) hb) (Kd.R_base ho0)) (Kd.R_base ho1)) (fun _ h_ => h_.1)); have n4_ := am_ (Kd.R_lower (Kd.R_new' (Kd.R_new' (Kd.R_new' (Kd.R_new' ho0 (Kd.R_lt (by (with_reducible repeat (first | apply Kd.R_alloc | apply Kd.R_drewN | apply Kd.R_drew)); exact (Kd.R_mono (Kd.R_far (p := ⟨gb1070, 1, none⟩) (Kd.R_far (p := ⟨gb1070, 0, none⟩) (Kd.R_types HO1059.out BK1070.out (by decide)) (fun _ hk => hk.2) (.slice Ao22 t1063.length co22)) (fun _ hk => hk.2) (.slice Ao25 t1066.length co25)) (fun _ h_ => h_.1))))) (Kd.R_lt (by (with_reducible repeat (first | apply Kd.R_alloc | apply Kd.R_drewN | apply Kd.R_drew)); exact (Kd.R_mono (Kd.R_far (p := ⟨gb1070, 1, none⟩) (Kd.R_far (p := ⟨gb1070, 0, none⟩) (Kd.R_types HO1062.out BK1070.out (by decide)) (fun _ hk => hk.2) (.slice Ao22 t1063.length co22)) (fun _ hk => hk.2) (.slice Ao25 t1066.length co25)) (fun _ h_ => h_.1))))) (Kd.R_lt (by (with_reducible repeat (first | apply Kd.R_alloc | apply Kd.R_drewN | apply Kd.R_drew)); exact (Kd.R_mono (Kd.R_far (p := ⟨gb1070, 1, none⟩) (Kd.R_far (p := ⟨gb1070, 0, none⟩) (Kd.R_types HO1065.out BK1070.out (by decide)) (fun _ hk => hk.2) (.slice Ao22 t1063.length co22)) (fun _ hk => hk.2) (.slice Ao25 t1066.length co25)) (fun _ h_ => h_.1))))) (Kd.R_lt (by (with_reducible repeat (first | apply Kd.R_alloc | apply Kd.R_drewN | apply Kd.R_drew)); exact (Kd.R_mono (Kd.R_far (p := ⟨gb1070, 1, none⟩) (Kd.R_far (p := ⟨gb1070, 0, none⟩) (Kd.R_types HO1068.out BK1070.out (by decide)) (fun _ hk => hk.2) (.slice Ao22 t1063.length co22)) (fun _ hk => hk.2) (.slice Ao25 t1066.length co25)) (fun _ h_ => h_.1))))) (below_size (by repeat (first | (with_reducible first | exact HB.out | apply below_alloc | apply pw_below_drewN | apply below_drew1 | refine below_set ?_ GE1055.out | refine below_set ?_ GE1070.out) | exact HB.out)))); have n5_ := am_ (Kd.R_lower (Kd.R_new' (Kd.R_new' (Kd.R_new' (Kd.R_new' ho1 (Kd.R_lt (by (with_reducible repeat (first | apply Kd.R_alloc | apply Kd.R_drewN | apply Kd.R_drew)); exact (Kd.R_mono (Kd.R_far (p := ⟨gb1070, 1, none⟩) (Kd.R_far (p := ⟨gb1070, 0, none⟩) (Kd.R_types HO1059.out BK1070.out (by decide)) (fun _ hk => hk.2) (.slice Ao22 t1063.length co22)) (fun _ hk => hk.2) (.slice Ao25 t1066.length co25)) (fun _ h_ => h_.1))))) (Kd.R_lt (by (with_reducible repeat (first | apply Kd.R_alloc | apply Kd.R_drewN | apply Kd.R_drew)); exact (Kd.R_mono (Kd.R_far (p := ⟨gb1070, 1, none⟩) (Kd.R_far (p := ⟨gb1070, 0, none⟩) (Kd.R_types HO1062.out BK1070.out (by decide)) (fun _ hk => hk.2) (.slice Ao22 t1063.length co22)) (fun _ hk => hk.2) (.slice Ao25 t1066.length co25)) (fun _ h_ => h_.1))))) (Kd.R_lt (by (with_reducible repeat (first | apply Kd.R_alloc | apply Kd.R_drewN | apply Kd.R_drew)); exact (Kd.R_mono (Kd.R_far (p := ⟨gb1070, 1, none⟩) (Kd.R_far (p := ⟨gb1070, 0, none⟩) (Kd.R_types HO1065.out BK1070.out (by decide)) (fun _ hk => hk.2) (.slice Ao22 t1063.length co22)) (fun _ hk => hk.2) (.slice Ao25 t1066.length co25)) (fun _ h_ => h_.1))))) (Kd.R_lt (by (with_reducible repeat (first | apply Kd.R_alloc | apply Kd.R_drewN | apply Kd.R_drew)); exact (Kd.R_mono (Kd.R_far (p := ⟨gb1070, 1, none⟩) (Kd.R_far (p := ⟨gb1070, 0, none⟩) (Kd.R_types HO1068.out BK1070.out (by decide)) (fun _ hk => hk.2) (.slice Ao22 t1063.length co22)) (fun _ hk => hk.2) (.slice Ao25 t1066.length co25)) (fun _ h_ => h_.1))))) (below_size (by repeat (first | (with_reducible first | exact HB.out | apply below_alloc | apply pw_below_drewN | apply below_drew1 | refine below_set ?_ GE1055.out | refine below_set ?_ GE1070.out) | exact HB.out)))); have n6_ := am_ (blk_below (g := gb1055) (o := .cells #[.slice A0_0 l0_0.length c0_0, .slice A0_1 l0_1.length c0_1] 33 (0, 0)) (by (with_reducible repeat (first | refine blk_drewN ?_ _ | refine blk_drew ?_ | refine blk_alloc ?_ _)); refine blk_far ?_ NB1055_1070.out _; (with_reducible repeat (first | refine blk_drewN ?_ _ | refine blk_drew ?_ | refine blk_alloc ?_ _)); refine blk_far ?_ NB1055_1070.out _; (with_reducible repeat (first | refine blk_drewN ?_ _ | refine blk_drew ?_ | refine blk_alloc ?_ _)); exact BK1055.out) hb); have n7_ := am_ (blk_below (g := gb1070) (o := .cells #[.slice Ao22 t1063.length co22, .slice Ao25 t1066.length co25] 35 (0, 0)) (by (with_reducible repeat (first | refine blk_drewN ?_ _ | refine blk_drew ?_ | refine blk_alloc ?_ _)); refine blk_put (cs := #[.slice Ao22 t1063.length co22, .slice none 0 0]) ?_ 1 _ rfl; (with_reducible repeat (first | refine blk_drewN ?_ _ | refine blk_drew ?_ | refine blk_alloc ?_ _)); refine blk_put (cs := #[.slice none 0 0, .slice none 0 0]) ?_ 0 _ rfl; (with_reducible repeat (first | refine blk_drewN ?_ _ | refine blk_drew ?_ | refine blk_alloc ?_ _)); exact BK1070.out) hb); have n8_ := am_ (below_step (by repeat (first | (with_reducible first | exact HB.out | apply below_alloc | apply pw_below_drewN | apply below_drew1 | refine below_set ?_ GE1055.out | refine below_set ?_ GE1070.out) | exact HB.out)) hb); clear HO1059; clear HO1062; clear HO1065; clear HO1068; clear BK1055; clear BK1070; clear HB; have HO1059 := n0_; have HO1062 := n1_; have HO1065 := n2_; have HO1068 := n3_; have HO1073 := n4_; have HO1076 := n5_; have BK1055 := n6_; have BK1070 := n7_; have HB := n8_; clear n0_ n1_ n2_ n3_ n4_ n5_ n6_ n7_ n8_; (try clear hb); (try clear hb2); (try clear hk); (try clear hi); (try clear ho0); (try clear ho1)) | ((with_reducible refine gate_dst (N := 8) rfl ?_); refine box_event ?hg (N := 8) ?hd (cs := #[.slice none 0 0, .slice none 0 0]) (t := 35) ?hr ?_; (case hd => rfl); (case hg => rfl); (case hr => first | (go_simp; done) | (go_simp; rfl)); intro gb1077 hg w28 hbox hb; have n0_ := am_ (Kd.R_below (by (with_reducible repeat (first | apply Kd.R_alloc | apply Kd.R_drewN | apply Kd.R_drew)); exact HO1059.out) hb); have n1_ := am_ (Kd.R_below (by (with_reducible repeat (first | apply Kd.R_alloc | apply Kd.R_drewN | apply Kd.R_drew)); exact HO1062.out) hb); have n2_ := am_ (Kd.R_below (by (with_reducible repeat (first | apply Kd.R_alloc | apply Kd.R_drewN | apply Kd.R_drew)); exact HO1065.out) hb); have n3_ := am_ (Kd.R_below (by (with_reducible repeat (first | apply Kd.R_alloc | apply Kd.R_drewN | apply Kd.R_drew)); exact HO1068.out) hb); have n4_ := am_ (Kd.R_below (by (with_reducible repeat (first | apply Kd.R_alloc | apply Kd.R_drewN | apply Kd.R_drew)); exact HO1073.out) hb); have n5_ := am_ (Kd.R_below (by (with_reducible repeat (first | apply Kd.R_alloc | apply Kd.R_drewN | apply Kd.R_drew)); exact HO1076.out) hb); have n6_ := am_ (blk_below (g := gb1055) (o := .cells #[.slice A0_0 l0_0.length c0_0, .slice A0_1 l0_1.length c0_1] 33 (0, 0)) (by (with_reducible repeat (first | refine blk_drewN ?_ _ | refine blk_drew ?_ | refine blk_alloc ?_ _)); exact BK1055.out) hb); have n7_ := am_ (blk_below (g := gb1070) (o := .cells #[.slice Ao22 t1063.length co22, .slice Ao25 t1066.length co25] 35 (0, 0)) (by (with_reducible repeat (first | refine blk_drewN ?_ _ | refine blk_drew ?_ | refine blk_alloc ?_ _)); exact BK1070.out) hb); have n8_ := am_ (below_step (by repeat (first | (with_reducible first | exact HB.out | apply below_alloc | apply pw_below_drewN | apply below_drew1 | refine below_set ?_ GE1055.out | refine below_set ?_ GE1070.out) | exact HB.out)) hb); have n9_ := am_ (hbox); have n10_ := am_ ((by rw [hg]; exact (below_size (by repeat (first | (with_reducible first | exact HB.out | apply below_alloc | apply pw_below_drewN | apply below_drew1 | refine below_set ?_ GE1055.out | refine below_set ?_ GE1070.out) | exact HB.out))) : w.heap.size ≤ gb1077)); have n11_ := am_ ((by rw [hg]; exact (below_size (by repeat (first | (with_reducible first | exact HB.out | apply below_alloc | apply pw_below_drewN | apply below_drew1 | refine below_set ?_ GE1055.out | refine below_set ?_ GE1070.out) | exact HB.out))) : w.heap.size ≤ gb1077)); have n12_ := am_ ((by rw [hg]; exact Nat.ne_of_lt (blk_lt (g := gb1055) (o := .cells #[.slice A0_0 l0_0.length c0_0, .slice A0_1 l0_1.length c0_1] 33 (0, 0)) (by (with_reducible repeat (first | refine blk_drewN ?_ _ | refine blk_drew ?_ | refine blk_alloc ?_ _)); exact BK1055.out)) : gb1055 ≠ gb1077)); have n13_ := am_ ((by rw [hg]; exact Nat.ne_of_gt (blk_lt (g := gb1055) (o := .cells #[.slice A0_0 l0_0.length c0_0, .slice A0_1 l0_1.length c0_1] 33 (0, 0)) (by (with_reducible repeat (first | refine blk_drewN ?_ _ | refine blk_drew ?_ | refine blk_alloc ?_ _)); exact BK1055.out)) : gb1077 ≠ gb1055)); have n14_ := am_ ((by rw [hg]; exact Nat.ne_of_lt (blk_lt (g := gb1070) (o := .cells #[.slice Ao22 t1063.length co22, .slice Ao25 t1066.length co25] 35 (0, 0)) (by (with_reducible repeat (first | refine blk_drewN ?_ _ | refine blk_drew ?_ | refine blk_alloc ?_ _)); exact BK1070.out)) : gb1070 ≠ gb1077)); have n15_ := am_ ((by rw [hg]; exact Nat.ne_of_gt (blk_lt (g := gb1070) (o := .cells #[.slice Ao22 t1063.length co22, .slice Ao25 t1066.length co25] 35 (0, 0)) (by (with_reducible repeat (first | refine blk_drewN ?_ _ | refine blk_drew ?_ | refine blk_alloc ?_ _)); exact BK1070.out)) : gb1077 ≠ gb1070)); clear HO1059; clear HO1062; clear HO1065; clear HO1068; clear HO1073; clear HO1076; clear BK1055; clear BK1070; clear HB; have HO1059 := n0_; have HO1062 := n1_; have HO1065 := n2_; have HO1068 := n3_; have HO1073 := n4_; have HO1076 := n5_; have BK1055 := n6_; have BK1070 := n7_; have HB := n8_; have BK1077 := n9_; have GW1077 := n10_; have GE1077 := n11_; have NB1055_1077 := n12_; have NB1077_1055 := n13_; have NB1070_1077 := n14_; have NB1077_1070 := n15_; clear n0_ n1_ n2_ n3_ n4_ n5_ n6_ n7_ n8_ n9_ n10_ n11_ n12_ n13_ n14_ n15_; clear hb hbox hg; obtain ⟨Ao29, co29, eo29⟩ := Kd.R_slice HO1073.out; subst eo29; have hnb30 := NB1077_1055.out; have hnc30 := NB1055_1077.out; have hnb31 := NB1077_1070.out; have hnc31 := NB1070_1077.out; have hcz32_0 : w28.cell? ⟨gb1077, 0, none⟩ = some (.slice none 0 0) := (blk_cell BK1077.out 0).trans rfl; have hcz32_1 : w28.cell? ⟨gb1077, 1, none⟩ = some (.slice none 0 0) := (blk_cell BK1077.out 1).trans rfl; have hfz32_0 := blk_frozen BK1077.out 0; have hfz32_1 := blk_frozen BK1077.out 1; obtain ⟨Ao33, co33, eo33⟩ := Kd.R_slice HO1076.out; subst eo33) | ((with_reducible refine gate_callee (f := 25) rfl ?_); refine goesL_ (some 33) rfl rfl Try.func25 (by kernel_rfl) rfl #[.agg #[.slice Ao29 t1071.length co29, .slice Ao33 t1074.length co33], .int .i64 a1] rfl (by (try simp only [List.map_toArray, List.map_cons, List.map_nil]); first | done | rfl | (simp only [List.length_drop, List.length_take]; rfl)) ?_; (with_reducible refine (impl_SuffixOf.calls k _ _ t1071 _ _ t1074 a1 t1078 t1081 t1084 _ ?side1 ?side2 ?side3 ?side4 A11.out).mono ?_); (case side1 => refine (Kd.R_reads' (e := 3) (base := w.heap.size) (ok := fun k_ => ((((some k_ ≠ (.slice Ao33 t1074.length co33 : Value).ownBlock ∧ some k_ ≠ (.slice Ao18 t1057.length co18 : Value).ownBlock) ∧ some k_ ≠ (.slice Ao19 t1060.length co19 : Value).ownBlock) ∧ some k_ ≠ (.slice Ao22 t1063.length co22 : Value).ownBlock) ∧ some k_ ≠ (.slice Ao25 t1066.length co25 : Value).ownBlock)) (n := t1071.length) (c := co29) ?_).2.2; exact (by (with_reducible repeat (first | apply Kd.R_alloc | apply Kd.R_drewN | apply Kd.R_drew)); exact (Kd.R_mono (Kd.R_far (p := ⟨gb1077, 1, none⟩) (Kd.R_far (p := ⟨gb1077, 0, none⟩) (Kd.R_types HO1073.out BK1077.out (by decide)) (fun _ hk => hk.2) (.slice Ao29 t1071.length co29)) (fun _ hk => hk.2) (.slice Ao33 t1074.length co33)) (fun _ h_ => h_.1)))); (case side2 => exact (Kd.R_reads' HO1073.out).2.1); (case side3 => refine (Kd.R_reads' (e := 3) (base := w.heap.size) (ok := fun k_ => ((((some k_ ≠ (.slice Ao29 t1071.length co29 : Value).ownBlock ∧ some k_ ≠ (.slice Ao18 t1057.length co18 : Value).ownBlock) ∧ some k_ ≠ (.slice Ao19 t1060.length co19 : Value).ownBlock) ∧ some k_ ≠ (.slice Ao22 t1063.length co22 : Value).ownBlock) ∧ some k_ ≠ (.slice Ao25 t1066.length co25 : Value).ownBlock)) (n := t1074.length) (c := co33) ?_).2.2; exact (by (with_reducible repeat (first | apply Kd.R_alloc | apply Kd.R_drewN | apply Kd.R_drew)); exact (Kd.R_mono (Kd.R_far (p := ⟨gb1077, 1, none⟩) (Kd.R_far (p := ⟨gb1077, 0, none⟩) (Kd.R_types HO1076.out BK1077.out (by decide)) (fun _ hk => hk.2) (.slice Ao29 t1071.length co29)) (fun _ hk => hk.2) (.slice Ao33 t1074.length co33)) (fun _ h_ => h_.1)))); (case side4 => exact (Kd.R_reads' HO1076.out).2.1); rintro e w34 ⟨v1079, v1082, rfl, ho0, ho1, hb⟩; refine ⟨_, rfl, ?_⟩; have n0_ := am_ (Kd.R_mono (Kd.R_told (Kd.R_told (Kd.R_old (by (with_reducible repeat (first | apply Kd.R_alloc | apply Kd.R_drewN | apply Kd.R_drew)); exact (Kd.R_mono (Kd.R_far (p := ⟨gb1077, 1, none⟩) (Kd.R_far (p := ⟨gb1077, 0, none⟩) (Kd.R_types HO1059.out BK1077.out (by decide)) (fun _ hk => hk.2) (.slice Ao29 t1071.length co29)) (fun _ hk => hk.2) (.slice Ao33 t1074.length co33)) (fun _ h_ => h_.1))) hb) (Kd.R_base ho0)) (Kd.R_base ho1)) (fun _ h_ => h_.1)); have n1_ := am_ (Kd.R_mono (Kd.R_told (Kd.R_told (Kd.R_old (by (with_reducible repeat (first | apply Kd.R_alloc | apply Kd.R_drewN | apply Kd.R_drew)); exact (Kd.R_mono (Kd.R_far (p := ⟨gb1077, 1, none⟩) (Kd.R_far (p := ⟨gb1077, 0, none⟩) (Kd.R_types HO1062.out BK1077.out (by decide)) (fun _ hk => hk.2) (.slice Ao29 t1071.length co29)) (fun _ hk => hk.2) (.slice Ao33 t1074.length co33)) (fun _ h_ => h_.1))) hb) (Kd.R_base ho0)) (Kd.R_base ho1)) (fun _ h_ => h_.1)); have n2_ := am_ (Kd.R_mono (Kd.R_told (Kd.R_told (Kd.R_old (by (with_reducible repeat (first | apply Kd.R_alloc | apply Kd.R_drewN | apply Kd.R_drew)); exact (Kd.R_mono (Kd.R_far (p := ⟨gb1077, 1, none⟩) (Kd.R_far (p := ⟨gb1077, 0, none⟩) (Kd.R_types HO1065.out BK1077.out (by decide)) (fun _ hk => hk.2) (.slice Ao29 t1071.length co29)) (fun _ hk => hk.2) (.slice Ao33 t1074.length co33)) (fun _ h_ => h_.1))) hb) (Kd.R_base ho0)) (Kd.R_base ho1)) (fun _ h_ => h_.1)); have n3_ := am_ (Kd.R_mono (Kd.R_told (Kd.R_told (Kd.R_old (by (with_reducible repeat (first | apply Kd.R_alloc | apply Kd.R_drewN | apply Kd.R_drew)); exact (Kd.R_mono (Kd.R_far (p := ⟨gb1077, 1, none⟩) (Kd.R_far (p := ⟨gb1077, 0, none⟩) (Kd.R_types HO1068.out BK1077.out (by decide)) (fun _ hk => hk.2) (.slice Ao29 t1071.length co29)) (fun _ hk => hk.2) (.slice Ao33 t1074.length co33)) (fun _ h_ => h_.1))) hb) (Kd.R_base ho0)) (Kd.R_base ho1)) (fun _ h_ => h_.1)); have n4_ := am_ (Kd.R_mono (Kd.R_told (Kd.R_told (Kd.R_old (by (with_reducible repeat (first | apply Kd.R_alloc | apply Kd.R_drewN | apply Kd.R_drew)); exact (Kd.R_mono (Kd.R_far (p := ⟨gb1077, 1, none⟩) (Kd.R_far (p := ⟨gb1077, 0, none⟩) (Kd.R_types HO1073.out BK1077.out (by decide)) (fun _ hk => hk.2) (.slice Ao29 t1071.length co29)) (fun _ hk => hk.2) (.slice Ao33 t1074.length co33)) (fun _ h_ => h_.1))) hb) (Kd.R_base ho0)) (Kd.R_base ho1)) (fun _ h_ => h_.1)); have n5_ := am_ (Kd.R_mono (Kd.R_told (Kd.R_told (Kd.R_old (by (with_reducible repeat (first | apply Kd.R_alloc | apply Kd.R_drewN | apply Kd.R_drew)); exact (Kd.R_mono (Kd.R_far (p := ⟨gb1077, 1, none⟩) (Kd.R_far (p := ⟨gb1077, 0, none⟩) (Kd.R_types HO1076.out BK1077.out (by decide)) (fun _ hk => hk.2) (.slice Ao29 t1071.length co29)) (fun _ hk => hk.2) (.slice Ao33 t1074.length co33)) (fun _ h_ => h_.1))) hb) (Kd.R_base ho0)) (Kd.R_base ho1)) (fun _ h_ => h_.1)); have n6_ := am_ (Kd.R_lower (Kd.R_new' (Kd.R_new' (Kd.R_new' (Kd.R_new' (Kd.R_new' (Kd.R_new' ho0 (Kd.R_lt (by (with_reducible repeat (first | apply Kd.R_alloc | apply Kd.R_drewN | apply Kd.R_drew)); exact (Kd.R_mono (Kd.R_far (p := ⟨gb1077, 1, none⟩) (Kd.R_far (p := ⟨gb1077, 0, none⟩) (Kd.R_types HO1059.out BK1077.out (by decide)) (fun _ hk => hk.2) (.slice Ao29 t1071.length co29)) (fun _ hk => hk.2) (.slice Ao33 t1074.length co33)) (fun _ h_ => h_.1))))) (Kd.R_lt (by (with_reducible repeat (first | apply Kd.R_alloc | apply Kd.R_drewN | apply Kd.R_drew)); exact (Kd.R_mono (Kd.R_far (p := ⟨gb1077, 1, none⟩) (Kd.R_far (p := ⟨gb1077, 0, none⟩) (Kd.R_types HO1062.out BK1077.out (by decide)) (fun _ hk => hk.2) (.slice Ao29 t1071.length co29)) (fun _ hk => hk.2) (.slice Ao33 t1074.length co33)) (fun _ h_ => h_.1))))) (Kd.R_lt (by (with_reducible repeat (first | apply Kd.R_alloc | apply Kd.R_drewN | apply Kd.R_drew)); exact (Kd.R_mono (Kd.R_far (p := ⟨gb1077, 1, none⟩) (Kd.R_far (p := ⟨gb1077, 0, none⟩) (Kd.R_types HO1065.out BK1077.out (by decide)) (fun _ hk => hk.2) (.slice Ao29 t1071.length co29)) (fun _ hk => hk.2) (.slice Ao33 t1074.length co33)) (fun _ h_ => h_.1))))) (Kd.R_lt (by (with_reducible repeat (first | apply Kd.R_alloc | apply Kd.R_drewN | apply Kd.R_drew)); exact (Kd.R_mono (Kd.R_far (p := ⟨gb1077, 1, none⟩) (Kd.R_far (p := ⟨gb1077, 0, none⟩) (Kd.R_types HO1068.out BK1077.out (by decide)) (fun _ hk => hk.2) (.slice Ao29 t1071.length co29)) (fun _ hk => hk.2) (.slice Ao33 t1074.length co33)) (fun _ h_ => h_.1))))) (Kd.R_lt (by (with_reducible repeat (first | apply Kd.R_alloc | apply Kd.R_drewN | apply Kd.R_drew)); exact (Kd.R_mono (Kd.R_far (p := ⟨gb1077, 1, none⟩) (Kd.R_far (p := ⟨gb1077, 0, none⟩) (Kd.R_types HO1073.out BK1077.out (by decide)) (fun _ hk => hk.2) (.slice Ao29 t1071.length co29)) (fun _ hk => hk.2) (.slice Ao33 t1074.length co33)) (fun _ h_ => h_.1))))) (Kd.R_lt (by (with_reducible repeat (first | apply Kd.R_alloc | apply Kd.R_drewN | apply Kd.R_drew)); exact (Kd.R_mono (Kd.R_far (p := ⟨gb1077, 1, none⟩) (Kd.R_far (p := ⟨gb1077, 0, none⟩) (Kd.R_types HO1076.out BK1077.out (by decide)) (fun _ hk => hk.2) (.slice Ao29 t1071.length co29)) (fun _ hk => hk.2) (.slice Ao33 t1074.length co33)) (fun _ h_ => h_.1))))) (below_size (by repeat (first | (with_reducible first | exact HB.out | apply below_alloc | apply pw_below_drewN | apply below_drew1 | refine below_set ?_ GE1055.out | refine below_set ?_ GE1070.out | refine below_set ?_ GE1077.out) | exact HB.out)))); have n7_ := am_ (Kd.R_lower (Kd.R_new' (Kd.R_new' (Kd.R_new' (Kd.R_new' (Kd.R_new' (Kd.R_new' ho1 (Kd.R_lt (by (with_reducible repeat (first | apply Kd.R_alloc | apply Kd.R_drewN | apply Kd.R_drew)); exact (Kd.R_mono (Kd.R_far (p := ⟨gb1077, 1, none⟩) (Kd.R_far (p := ⟨gb1077, 0, none⟩) (Kd.R_types HO1059.out BK1077.out (by decide)) (fun _ hk => hk.2) (.slice Ao29 t1071.length co29)) (fun _ hk => hk.2) (.slice Ao33 t1074.length co33)) (fun _ h_ => h_.1))))) (Kd.R_lt (by (with_reducible repeat (first | apply Kd.R_alloc | apply Kd.R_drewN | apply Kd.R_drew)); exact (Kd.R_mono (Kd.R_far (p := ⟨gb1077, 1, none⟩) (Kd.R_far (p := ⟨gb1077, 0, none⟩) (Kd.R_types HO1062.out BK1077.out (by decide)) (fun _ hk => hk.2) (.slice Ao29 t1071.length co29)) (fun _ hk => hk.2) (.slice Ao33 t1074.length co33)) (fun _ h_ => h_.1))))) (Kd.R_lt (by (with_reducible repeat (first | apply Kd.R_alloc | apply Kd.R_drewN | apply Kd.R_drew)); exact (Kd.R_mono (Kd.R_far (p := ⟨gb1077, 1, none⟩) (Kd.R_far (p := ⟨gb1077, 0, none⟩) (Kd.R_types HO1065.out BK1077.out (by decide)) (fun _ hk => hk.2) (.slice Ao29 t1071.length co29)) (fun _ hk => hk.2) (.slice Ao33 t1074.length co33)) (fun _ h_ => h_.1))))) (Kd.R_lt (by (with_reducible repeat (first | apply Kd.R_alloc | apply Kd.R_drewN | apply Kd.R_drew)); exact (Kd.R_mono (Kd.R_far (p := ⟨gb1077, 1, none⟩) (Kd.R_far (p := ⟨gb1077, 0, none⟩) (Kd.R_types HO1068.out BK1077.out (by decide)) (fun _ hk => hk.2) (.slice Ao29 t1071.length co29)) (fun _ hk => hk.2) (.slice Ao33 t1074.length co33)) (fun _ h_ => h_.1))))) (Kd.R_lt (by (with_reducible repeat (first | apply Kd.R_alloc | apply Kd.R_drewN | apply Kd.R_drew)); exact (Kd.R_mono (Kd.R_far (p := ⟨gb1077, 1, none⟩) (Kd.R_far (p := ⟨gb1077, 0, none⟩) (Kd.R_types HO1073.out BK1077.out (by decide)) (fun _ hk => hk.2) (.slice Ao29 t1071.length co29)) (fun _ hk => hk.2) (.slice Ao33 t1074.length co33)) (fun _ h_ => h_.1))))) (Kd.R_lt (by (with_reducible repeat (first | apply Kd.R_alloc | apply Kd.R_drewN | apply Kd.R_drew)); exact (Kd.R_mono (Kd.R_far (p := ⟨gb1077, 1, none⟩) (Kd.R_far (p := ⟨gb1077, 0, none⟩) (Kd.R_types HO1076.out BK1077.out (by decide)) (fun _ hk => hk.2) (.slice Ao29 t1071.length co29)) (fun _ hk => hk.2) (.slice Ao33 t1074.length co33)) (fun _ h_ => h_.1))))) (below_size (by repeat (first | (with_reducible first | exact HB.out | apply below_alloc | apply pw_below_drewN | apply below_drew1 | refine below_set ?_ GE1055.out | refine below_set ?_ GE1070.out | refine below_set ?_ GE1077.out) | exact HB.out)))); have n8_ := am_ (blk_below (g := gb1055) (o := .cells #[.slice A0_0 l0_0.length c0_0, .slice A0_1 l0_1.length c0_1] 33 (0, 0)) (by (with_reducible repeat (first | refine blk_drewN ?_ _ | refine blk_drew ?_ | refine blk_alloc ?_ _)); refine blk_far ?_ NB1055_1077.out _; (with_reducible repeat (first | refine blk_drewN ?_ _ | refine blk_drew ?_ | refine blk_alloc ?_ _)); refine blk_far ?_ NB1055_1077.out _; (with_reducible repeat (first | refine blk_drewN ?_ _ | refine blk_drew ?_ | refine blk_alloc ?_ _)); exact BK1055.out) hb); have n9_ := am_ (blk_below (g := gb1070) (o := .cells #[.slice Ao22 t1063.length co22, .slice Ao25 t1066.length co25] 35 (0, 0)) (by (with_reducible repeat (first | refine blk_drewN ?_ _ | refine blk_drew ?_ | refine blk_alloc ?_ _)); refine blk_far ?_ NB1070_1077.out _; (with_reducible repeat (first | refine blk_drewN ?_ _ | refine blk_drew ?_ | refine blk_alloc ?_ _)); refine blk_far ?_ NB1070_1077.out _; (with_reducible repeat (first | refine blk_drewN ?_ _ | refine blk_drew ?_ | refine blk_alloc ?_ _)); exact BK1070.out) hb); have n10_ := am_ (blk_below (g := gb1077) (o := .cells #[.slice Ao29 t1071.length co29, .slice Ao33 t1074.length co33] 35 (0, 0)) (by (with_reducible repeat (first | refine blk_drewN ?_ _ | refine blk_drew ?_ | refine blk_alloc ?_ _)); refine blk_put (cs := #[.slice Ao29 t1071.length co29, .slice none 0 0]) ?_ 1 _ rfl; (with_reducible repeat (first | refine blk_drewN ?_ _ | refine blk_drew ?_ | refine blk_alloc ?_ _)); refine blk_put (cs := #[.slice none 0 0, .slice none 0 0]) ?_ 0 _ rfl; (with_reducible repeat (first | refine blk_drewN ?_ _ | refine blk_drew ?_ | refine blk_alloc ?_ _)); exact BK1077.out) hb); have n11_ := am_ (below_step (by repeat (first | (with_reducible first | exact HB.out | apply below_alloc | apply pw_below_drewN | apply below_drew1 | refine below_set ?_ GE1055.out | refine below_set ?_ GE1070.out | refine below_set ?_ GE1077.out) | exact HB.out)) hb); clear HO1059; clear HO1062; clear HO1065; clear HO1068; clear HO1073; clear HO1076; clear BK1055; clear BK1070; clear BK1077; clear HB; have HO1059 := n0_; have HO1062 := n1_; have HO1065 := n2_; have HO1068 := n3_; have HO1073 := n4_; have HO1076 := n5_; have HO1080 := n6_; have HO1083 := n7_; have BK1055 := n8_; have BK1070 := n9_; have BK1077 := n10_; have HB := n11_; clear n0_ n1_ n2_ n3_ n4_ n5_ n6_ n7_ n8_ n9_ n10_ n11_; (try clear hb); (try clear hb2); (try clear hk); (try clear hi); (try clear ho0); (try clear ho1)) | ((with_reducible refine gate_dst (N := 9) rfl ?_); refine box_event ?hg (N := 9) ?hd (cs := #[.slice none 0 0, .slice none 0 0]) (t := 35) ?hr ?_; (case hd => rfl); (case hg => rfl); (case hr => first | (go_simp; done) | (go_simp; rfl)); intro gb1085 hg w35 hbox hb; have n0_ := am_ (Kd.R_below (by (with_reducible repeat (first | apply Kd.R_alloc | apply Kd.R_drewN | apply Kd.R_drew)); exact HO1059.out) hb); have n1_ := am_ (Kd.R_below (by (with_reducible repeat (first | apply Kd.R_alloc | apply Kd.R_drewN | apply Kd.R_drew)); exact HO1062.out) hb); have n2_ := am_ (Kd.R_below (by (with_reducible repeat (first | apply Kd.R_alloc | apply Kd.R_drewN | apply Kd.R_drew)); exact HO1065.out) hb); have n3_ := am_ (Kd.R_below (by (with_reducible repeat (first | apply Kd.R_alloc | apply Kd.R_drewN | apply Kd.R_drew)); exact HO1068.out) hb); have n4_ := am_ (Kd.R_below (by (with_reducible repeat (first | apply Kd.R_alloc | apply Kd.R_drewN | apply Kd.R_drew)); exact HO1073.out) hb); have n5_ := am_ (Kd.R_below (by (with_reducible repeat (first | apply Kd.R_alloc | apply Kd.R_drewN | apply Kd.R_drew)); exact HO1076.out) hb); have n6_ := am_ (Kd.R_below (by (with_reducible repeat (first | apply Kd.R_alloc | apply Kd.R_drewN | apply Kd.R_drew)); exact HO1080.out) hb); have n7_ := am_ (Kd.R_below (by (with_reducible repeat (first | apply Kd.R_alloc | apply Kd.R_drewN | apply Kd.R_drew)); exact HO1083.out) hb); have n8_ := am_ (blk_below (g := gb1055) (o := .cells #[.slice A0_0 l0_0.length c0_0, .slice A0_1 l0_1.length c0_1] 33 (0, 0)) (by (with_reducible repeat (first | refine blk_drewN ?_ _ | refine blk_drew ?_ | refine blk_alloc ?_ _)); exact BK1055.out) hb); have n9_ := am_ (blk_below (g := gb1070) (o := .cells #[.slice Ao22 t1063.length co22, .slice Ao25 t1066.length co25] 35 (0, 0)) (by (with_reducible repeat (first | refine blk_drewN ?_ _ | refine blk_drew ?_ | refine blk_alloc ?_ _)); exact BK1070.out) hb); have n10_ := am_ (blk_below (g := gb1077) (o := .cells #[.slice Ao29 t1071.length co29, .slice Ao33 t1074.length co33] 35 (0, 0)) (by (with_reducible repeat (first | refine blk_drewN ?_ _ | refine blk_drew ?_ | refine blk_alloc ?_ _)); exact BK1077.out) hb); have n11_ := am_ (below_step (by repeat (first | (with_reducible first | exact HB.out | apply below_alloc | apply pw_below_drewN | apply below_drew1 | refine below_set ?_ GE1055.out | refine below_set ?_ GE1070.out | refine below_set ?_ GE1077.out) | exact HB.out)) hb); have n12_ := am_ (hbox); have n13_ := am_ ((by rw [hg]; exact (below_size (by repeat (first | (with_reducible first | exact HB.out | apply below_alloc | apply pw_below_drewN | apply below_drew1 | refine below_set ?_ GE1055.out | refine below_set ?_ GE1070.out | refine below_set ?_ GE1077.out) | exact HB.out))) : w.heap.size ≤ gb1085)); have n14_ := am_ ((by rw [hg]; exact (below_size (by repeat (first | (with_reducible first | exact HB.out | apply below_alloc | apply pw_below_drewN | apply below_drew1 | refine below_set ?_ GE1055.out | refine below_set ?_ GE1070.out | refine below_set ?_ GE1077.out) | exact HB.out))) : w.heap.size ≤ gb1085)); have n15_ := am_ ((by rw [hg]; exact Nat.ne_of_lt (blk_lt (g := gb1055) (o := .cells #[.slice A0_0 l0_0.length c0_0, .slice A0_1 l0_1.length c0_1] 33 (0, 0)) (by (with_reducible repeat (first | refine blk_drewN ?_ _ | refine blk_drew ?_ | refine blk_alloc ?_ _)); exact BK1055.out)) : gb1055 ≠ gb1085)); have n16_ := am_ ((by rw [hg]; exact Nat.ne_of_gt (blk_lt (g := gb1055) (o := .cells #[.slice A0_0 l0_0.length c0_0, .slice A0_1 l0_1.length c0_1] 33 (0, 0)) (by (with_reducible repeat (first | refine blk_drewN ?_ _ | refine blk_drew ?_ | refine blk_alloc ?_ _)); exact BK1055.out)) : gb1085 ≠ gb1055)); have n17_ := am_ ((by rw [hg]; exact Nat.ne_of_lt (blk_lt (g := gb1070) (o := .cells #[.slice Ao22 t1063.length co22, .slice Ao25 t1066.length co25] 35 (0, 0)) (by (with_reducible repeat (first | refine blk_drewN ?_ _ | refine blk_drew ?_ | refine blk_alloc ?_ _)); exact BK1070.out)) : gb1070 ≠ gb1085)); have n18_ := am_ ((by rw [hg]; exact Nat.ne_of_gt (blk_lt (g := gb1070) (o := .cells #[.slice Ao22 t1063.length co22, .slice Ao25 t1066.length co25] 35 (0, 0)) (by (with_reducible repeat (first | refine blk_drewN ?_ _ | refine blk_drew ?_ | refine blk_alloc ?_ _)); exact BK1070.out)) : gb1085 ≠ gb1070)); have n19_ := am_ ((by rw [hg]; exact Nat.ne_of_lt (blk_lt (g := gb1077) (o := .cells #[.slice Ao29 t1071.length co29, .slice Ao33 t1074.length co33] 35 (0, 0)) (by (with_reducible repeat (first | refine blk_drewN ?_ _ | refine blk_drew ?_ | refine blk_alloc ?_ _)); exact BK1077.out)) : gb1077 ≠ gb1085)); have n20_ := am_ ((by rw [hg]; exact Nat.ne_of_gt (blk_lt (g := gb1077) (o := .cells #[.slice Ao29 t1071.length co29, .slice Ao33 t1074.length co33] 35 (0, 0)) (by (with_reducible repeat (first | refine blk_drewN ?_ _ | refine blk_drew ?_ | refine blk_alloc ?_ _)); exact BK1077.out)) : gb1085 ≠ gb1077)); clear HO1059; clear HO1062; clear HO1065; clear HO1068; clear HO1073; clear HO1076; clear HO1080; clear HO1083; clear BK1055; clear BK1070; clear BK1077; clear HB; have HO1059 := n0_; have HO1062 := n1_; have HO1065 := n2_; have HO1068 := n3_; have HO1073 := n4_; have HO1076 := n5_; have HO1080 := n6_; have HO1083 := n7_; have BK1055 := n8_; have BK1070 := n9_; have BK1077 := n10_; have HB := n11_; have BK1085 := n12_; have GW1085 := n13_; have GE1085 := n14_; have NB1055_1085 := n15_; have NB1085_1055 := n16_; have NB1070_1085 := n17_; have NB1085_1070 := n18_; have NB1077_1085 := n19_; have NB1085_1077 := n20_; clear n0_ n1_ n2_ n3_ n4_ n5_ n6_ n7_ n8_ n9_ n10_ n11_ n12_ n13_ n14_ n15_ n16_ n17_ n18_ n19_ n20_; clear hb hbox hg; obtain ⟨Ao36, co36, eo36⟩ := Kd.R_slice HO1080.out; subst eo36; have hnb37 := NB1085_1055.out; have hnc37 := NB1055_1085.out; have hnb38 := NB1085_1070.out; have hnc38 := NB1070_1085.out; have hnb39 := NB1085_1077.out; have hnc39 := NB1077_1085.out; have hcz40_0 : w35.cell? ⟨gb1085, 0, none⟩ = some (.slice none 0 0) := (blk_cell BK1085.out 0).trans rfl; have hcz40_1 : w35.cell? ⟨gb1085, 1, none⟩ = some (.slice none 0 0) := (blk_cell BK1085.out 1).trans rfl; have hfz40_0 := blk_frozen BK1085.out 0; have hfz40_1 := blk_frozen BK1085.out 1; obtain ⟨Ao41, co41, eo41⟩ := Kd.R_slice HO1083.out; subst eo41))
  (try simp only [Act.put, List.setIfInBounds_toArray, List.set_cons_zero, List.set_cons_succ])
  go_cut [44] (fun v44 wc => ∃ (kq : Nat) (x44_11 : Bool), v44 = .bool x44_11 ∧ Aside0 (laws_FnExactSuffixOf.j0 kq a1 t1069 t1084 x44_11 l0_0 l0_1 t1063 t1066 t1071 t1074 t1078 t1081 = some r) ∧ Aside0 (kq ≤ k) ∧ Aside0 (Kd.R (Kd.int .i64) 3 wc w.heap.size (fun k_ => some k_ ≠ ((.slice Ao25 t1066.length co25) : Value).ownBlock ∧ some k_ ≠ ((.slice Ao29 t1071.length co29) : Value).ownBlock ∧ some k_ ≠ ((.slice Ao33 t1074.length co33) : Value).ownBlock ∧ some k_ ≠ ((.slice Ao36 t1078.length co36) : Value).ownBlock ∧ some k_ ≠ ((.slice Ao41 t1081.length co41) : Value).ownBlock) (.slice Ao22 t1063.length co22) t1063) ∧ Aside0 (Kd.R (Kd.int .i64) 3 wc w.heap.size (fun k_ => some k_ ≠ ((.slice Ao22 t1063.length co22) : Value).ownBlock ∧ some k_ ≠ ((.slice Ao29 t1071.length co29) : Value).ownBlock ∧ some k_ ≠ ((.slice Ao33 t1074.length co33) : Value).ownBlock ∧ some k_ ≠ ((.slice Ao36 t1078.length co36) : Value).ownBlock ∧ some k_ ≠ ((.slice Ao41 t1081.length co41) : Value).ownBlock) (.slice Ao25 t1066.length co25) t1066) ∧ Aside0 (Kd.R (Kd.int .i64) 3 wc w.heap.size (fun k_ => some k_ ≠ ((.slice Ao22 t1063.length co22) : Value).ownBlock ∧ some k_ ≠ ((.slice Ao25 t1066.length co25) : Value).ownBlock ∧ some k_ ≠ ((.slice Ao33 t1074.length co33) : Value).ownBlock ∧ some k_ ≠ ((.slice Ao36 t1078.length co36) : Value).ownBlock ∧ some k_ ≠ ((.slice Ao41 t1081.length co41) : Value).ownBlock) (.slice Ao29 t1071.length co29) t1071) ∧ Aside0 (Kd.R (Kd.int .i64) 3 wc w.heap.size (fun k_ => some k_ ≠ ((.slice Ao22 t1063.length co22) : Value).ownBlock ∧ some k_ ≠ ((.slice Ao25 t1066.length co25) : Value).ownBlock ∧ some k_ ≠ ((.slice Ao29 t1071.length co29) : Value).ownBlock ∧ some k_ ≠ ((.slice Ao36 t1078.length co36) : Value).ownBlock ∧ some k_ ≠ ((.slice Ao41 t1081.length co41) : Value).ownBlock) (.slice Ao33 t1074.length co33) t1074) ∧ Aside0 (Kd.R (Kd.int .i64) 3 wc w.heap.size (fun k_ => some k_ ≠ ((.slice Ao22 t1063.length co22) : Value).ownBlock ∧ some k_ ≠ ((.slice Ao25 t1066.length co25) : Value).ownBlock ∧ some k_ ≠ ((.slice Ao29 t1071.length co29) : Value).ownBlock ∧ some k_ ≠ ((.slice Ao33 t1074.length co33) : Value).ownBlock ∧ some k_ ≠ ((.slice Ao41 t1081.length co41) : Value).ownBlock) (.slice Ao36 t1078.length co36) t1078) ∧ Aside0 (Kd.R (Kd.int .i64) 3 wc w.heap.size (fun k_ => some k_ ≠ ((.slice Ao22 t1063.length co22) : Value).ownBlock ∧ some k_ ≠ ((.slice Ao25 t1066.length co25) : Value).ownBlock ∧ some k_ ≠ ((.slice Ao29 t1071.length co29) : Value).ownBlock ∧ some k_ ≠ ((.slice Ao33 t1074.length co33) : Value).ownBlock ∧ some k_ ≠ ((.slice Ao36 t1078.length co36) : Value).ownBlock) (.slice Ao41 t1081.length co41) t1081) ∧ Aside0 (wc.heap[gb1055]? = some (.cells #[(.slice A0_0 l0_0.length c0_0), (.slice A0_1 l0_1.length c0_1)] 33 (0, 0))) ∧ Aside0 (wc.heap[gb1070]? = some (.cells #[(.slice Ao22 t1063.length co22), (.slice Ao25 t1066.length co25)] 35 (0, 0))) ∧ Aside0 (wc.heap[gb1077]? = some (.cells #[(.slice Ao29 t1071.length co29), (.slice Ao33 t1074.length co33)] 35 (0, 0))) ∧ Aside0 (wc.heap[gb1085]? = some (.cells #[(.slice Ao36 t1078.length co36), (.slice Ao41 t1081.length co41)] 35 (0, 0))) ∧ Aside0 (Below w.heap.size w wc))
  case first =>
   have H := HC12.out
   clear HC12
   replace H := Option.bind_eq_some_iff.mp H
   obtain ⟨t1086, A420, H⟩ := H
   replace H : (if t1086 = true then (laws_FnExactSuffixOf.j0 k a1 t1069 t1084 (t1084 != t1069) l0_0 l0_1 t1063 t1066 t1071 t1074 t1078 t1081) else (laws_FnExactSuffixOf.j0 k a1 t1069 t1084 true l0_0 l0_1 t1063 t1066 t1071 t1074 t1078 t1081)) = some r := H
   have A42 := am_ A420
   clear A420
   by_cases c43 : t1086 = true
   ·subst c43
    have H1 : (laws_FnExactSuffixOf.j0 k a1 t1069 t1084 (t1084 != t1069) l0_0 l0_1 t1063 t1066 t1071 t1074 t1078 t1081) = some r := by rw [if_pos rfl] at H; exact H
    clear H
    have H := H1
    clear H1
    have H' := am_ H
    clear H
    have hnb44 := NB1085_1055.out
    have hnc44 := NB1055_1085.out
    have hnb45 := NB1085_1070.out
    have hnc45 := NB1070_1085.out
    have hnb46 := NB1085_1077.out
    have hnc46 := NB1077_1085.out
    have hcz47_0 : w35.cell? ⟨gb1085, 0, none⟩ = some (.slice none 0 0) := (blk_cell BK1085.out 0).trans rfl
    have hcz47_1 : w35.cell? ⟨gb1085, 1, none⟩ = some (.slice none 0 0) := (blk_cell BK1085.out 1).trans rfl
    have hfz47_0 := blk_frozen BK1085.out 0
    have hfz47_1 := blk_frozen BK1085.out 1
    have hnb48 := NB1070_1055.out
    have hnc48 := NB1055_1070.out
    have hnb49 := NB1070_1077.out
    have hnc49 := NB1077_1070.out
    have hcz50_0 : w35.cell? ⟨gb1070, 0, none⟩ = some (.slice Ao22 t1063.length co22) := (blk_cell BK1070.out 0).trans rfl
    have hcz50_1 : w35.cell? ⟨gb1070, 1, none⟩ = some (.slice Ao25 t1066.length co25) := (blk_cell BK1070.out 1).trans rfl
    have hfz50_0 := blk_frozen BK1070.out 0
    have hfz50_1 := blk_frozen BK1070.out 1
    go_wp2_with (first | ((with_reducible refine gate_callee (f := 26) rfl ?_); refine goesL_ (some 38) rfl rfl Try.func26 (by kernel_rfl) rfl #[.agg #[.slice Ao36 t1078.length co36, .slice Ao41 t1081.length co41], .agg #[.slice Ao22 t1063.length co22, .slice Ao25 t1066.length co25]] rfl (by (try simp only [List.map_toArray, List.map_cons, List.map_nil]); first | done | rfl | (simp only [List.length_drop, List.length_take]; rfl)) ?_; (with_reducible refine (laws_eqLasso.calls k _ _ t1078 _ _ t1081 _ _ t1063 _ _ t1066 true _ ?side1 ?side2 ?side3 ?side4 ?side5 ?side6 ?side7 ?side8 A42.out).mono ?_); (case side1 => refine (Kd.R_reads' (e := 3) (base := w.heap.size) (ok := fun k_ => ((((((some k_ ≠ (.slice Ao41 t1081.length co41 : Value).ownBlock ∧ some k_ ≠ (.slice Ao18 t1057.length co18 : Value).ownBlock) ∧ some k_ ≠ (.slice Ao19 t1060.length co19 : Value).ownBlock) ∧ some k_ ≠ (.slice Ao22 t1063.length co22 : Value).ownBlock) ∧ some k_ ≠ (.slice Ao25 t1066.length co25 : Value).ownBlock) ∧ some k_ ≠ (.slice Ao29 t1071.length co29 : Value).ownBlock) ∧ some k_ ≠ (.slice Ao33 t1074.length co33 : Value).ownBlock)) (n := t1078.length) (c := co36) ?_).2.2; exact (by (with_reducible repeat (first | apply Kd.R_alloc | apply Kd.R_drewN | apply Kd.R_drew)); exact (Kd.R_mono (Kd.R_far (p := ⟨gb1085, 1, none⟩) (Kd.R_far (p := ⟨gb1085, 0, none⟩) (Kd.R_types HO1080.out BK1085.out (by decide)) (fun _ hk => hk.2) (.slice Ao36 t1078.length co36)) (fun _ hk => hk.2) (.slice Ao41 t1081.length co41)) (fun _ h_ => h_.1)))); (case side2 => exact (Kd.R_reads' HO1080.out).2.1); (case side3 => refine (Kd.R_reads' (e := 3) (base := w.heap.size) (ok := fun k_ => ((((((some k_ ≠ (.slice Ao36 t1078.length co36 : Value).ownBlock ∧ some k_ ≠ (.slice Ao18 t1057.length co18 : Value).ownBlock) ∧ some k_ ≠ (.slice Ao19 t1060.length co19 : Value).ownBlock) ∧ some k_ ≠ (.slice Ao22 t1063.length co22 : Value).ownBlock) ∧ some k_ ≠ (.slice Ao25 t1066.length co25 : Value).ownBlock) ∧ some k_ ≠ (.slice Ao29 t1071.length co29 : Value).ownBlock) ∧ some k_ ≠ (.slice Ao33 t1074.length co33 : Value).ownBlock)) (n := t1081.length) (c := co41) ?_).2.2; exact (by (with_reducible repeat (first | apply Kd.R_alloc | apply Kd.R_drewN | apply Kd.R_drew)); exact (Kd.R_mono (Kd.R_far (p := ⟨gb1085, 1, none⟩) (Kd.R_far (p := ⟨gb1085, 0, none⟩) (Kd.R_types HO1083.out BK1085.out (by decide)) (fun _ hk => hk.2) (.slice Ao36 t1078.length co36)) (fun _ hk => hk.2) (.slice Ao41 t1081.length co41)) (fun _ h_ => h_.1)))); (case side4 => exact (Kd.R_reads' HO1083.out).2.1); (case side5 => refine (Kd.R_reads' (e := 3) (base := w.heap.size) (ok := fun k_ => ((((((some k_ ≠ (.slice Ao25 t1066.length co25 : Value).ownBlock ∧ some k_ ≠ (.slice Ao18 t1057.length co18 : Value).ownBlock) ∧ some k_ ≠ (.slice Ao19 t1060.length co19 : Value).ownBlock) ∧ some k_ ≠ (.slice Ao29 t1071.length co29 : Value).ownBlock) ∧ some k_ ≠ (.slice Ao33 t1074.length co33 : Value).ownBlock) ∧ some k_ ≠ (.slice Ao36 t1078.length co36 : Value).ownBlock) ∧ some k_ ≠ (.slice Ao41 t1081.length co41 : Value).ownBlock)) (n := t1063.length) (c := co22) ?_).2.2; exact (by (with_reducible repeat (first | apply Kd.R_alloc | apply Kd.R_drewN | apply Kd.R_drew)); exact (Kd.R_mono (Kd.R_far (p := ⟨gb1085, 1, none⟩) (Kd.R_far (p := ⟨gb1085, 0, none⟩) (Kd.R_types HO1065.out BK1085.out (by decide)) (fun _ hk => hk.2) (.slice Ao36 t1078.length co36)) (fun _ hk => hk.2) (.slice Ao41 t1081.length co41)) (fun _ h_ => h_.1)))); (case side6 => exact (Kd.R_reads' HO1065.out).2.1); (case side7 => refine (Kd.R_reads' (e := 3) (base := w.heap.size) (ok := fun k_ => ((((((some k_ ≠ (.slice Ao22 t1063.length co22 : Value).ownBlock ∧ some k_ ≠ (.slice Ao18 t1057.length co18 : Value).ownBlock) ∧ some k_ ≠ (.slice Ao19 t1060.length co19 : Value).ownBlock) ∧ some k_ ≠ (.slice Ao29 t1071.length co29 : Value).ownBlock) ∧ some k_ ≠ (.slice Ao33 t1074.length co33 : Value).ownBlock) ∧ some k_ ≠ (.slice Ao36 t1078.length co36 : Value).ownBlock) ∧ some k_ ≠ (.slice Ao41 t1081.length co41 : Value).ownBlock)) (n := t1066.length) (c := co25) ?_).2.2; exact (by (with_reducible repeat (first | apply Kd.R_alloc | apply Kd.R_drewN | apply Kd.R_drew)); exact (Kd.R_mono (Kd.R_far (p := ⟨gb1085, 1, none⟩) (Kd.R_far (p := ⟨gb1085, 0, none⟩) (Kd.R_types HO1068.out BK1085.out (by decide)) (fun _ hk => hk.2) (.slice Ao36 t1078.length co36)) (fun _ hk => hk.2) (.slice Ao41 t1081.length co41)) (fun _ h_ => h_.1)))); (case side8 => exact (Kd.R_reads' HO1068.out).2.1); rintro e w51 ⟨rfl, hb⟩; refine ⟨_, rfl, ?_⟩; have n0_ := am_ (Kd.R_below (by (with_reducible repeat (first | apply Kd.R_alloc | apply Kd.R_drewN | apply Kd.R_drew)); exact (Kd.R_mono (Kd.R_far (p := ⟨gb1085, 1, none⟩) (Kd.R_far (p := ⟨gb1085, 0, none⟩) (Kd.R_types HO1059.out BK1085.out (by decide)) (fun _ hk => hk.2) (.slice Ao36 t1078.length co36)) (fun _ hk => hk.2) (.slice Ao41 t1081.length co41)) (fun _ h_ => h_.1))) hb); have n1_ := am_ (Kd.R_below (by (with_reducible repeat (first | apply Kd.R_alloc | apply Kd.R_drewN | apply Kd.R_drew)); exact (Kd.R_mono (Kd.R_far (p := ⟨gb1085, 1, none⟩) (Kd.R_far (p := ⟨gb1085, 0, none⟩) (Kd.R_types HO1062.out BK1085.out (by decide)) (fun _ hk => hk.2) (.slice Ao36 t1078.length co36)) (fun _ hk => hk.2) (.slice Ao41 t1081.length co41)) (fun _ h_ => h_.1))) hb); have n2_ := am_ (Kd.R_below (by (with_reducible repeat (first | apply Kd.R_alloc | apply Kd.R_drewN | apply Kd.R_drew)); exact (Kd.R_mono (Kd.R_far (p := ⟨gb1085, 1, none⟩) (Kd.R_far (p := ⟨gb1085, 0, none⟩) (Kd.R_types HO1065.out BK1085.out (by decide)) (fun _ hk => hk.2) (.slice Ao36 t1078.length co36)) (fun _ hk => hk.2) (.slice Ao41 t1081.length co41)) (fun _ h_ => h_.1))) hb); have n3_ := am_ (Kd.R_below (by (with_reducible repeat (first | apply Kd.R_alloc | apply Kd.R_drewN | apply Kd.R_drew)); exact (Kd.R_mono (Kd.R_far (p := ⟨gb1085, 1, none⟩) (Kd.R_far (p := ⟨gb1085, 0, none⟩) (Kd.R_types HO1068.out BK1085.out (by decide)) (fun _ hk => hk.2) (.slice Ao36 t1078.length co36)) (fun _ hk => hk.2) (.slice Ao41 t1081.length co41)) (fun _ h_ => h_.1))) hb); have n4_ := am_ (Kd.R_below (by (with_reducible repeat (first | apply Kd.R_alloc | apply Kd.R_drewN | apply Kd.R_drew)); exact (Kd.R_mono (Kd.R_far (p := ⟨gb1085, 1, none⟩) (Kd.R_far (p := ⟨gb1085, 0, none⟩) (Kd.R_types HO1073.out BK1085.out (by decide)) (fun _ hk => hk.2) (.slice Ao36 t1078.length co36)) (fun _ hk => hk.2) (.slice Ao41 t1081.length co41)) (fun _ h_ => h_.1))) hb); have n5_ := am_ (Kd.R_below (by (with_reducible repeat (first | apply Kd.R_alloc | apply Kd.R_drewN | apply Kd.R_drew)); exact (Kd.R_mono (Kd.R_far (p := ⟨gb1085, 1, none⟩) (Kd.R_far (p := ⟨gb1085, 0, none⟩) (Kd.R_types HO1076.out BK1085.out (by decide)) (fun _ hk => hk.2) (.slice Ao36 t1078.length co36)) (fun _ hk => hk.2) (.slice Ao41 t1081.length co41)) (fun _ h_ => h_.1))) hb); have n6_ := am_ (Kd.R_below (by (with_reducible repeat (first | apply Kd.R_alloc | apply Kd.R_drewN | apply Kd.R_drew)); exact (Kd.R_mono (Kd.R_far (p := ⟨gb1085, 1, none⟩) (Kd.R_far (p := ⟨gb1085, 0, none⟩) (Kd.R_types HO1080.out BK1085.out (by decide)) (fun _ hk => hk.2) (.slice Ao36 t1078.length co36)) (fun _ hk => hk.2) (.slice Ao41 t1081.length co41)) (fun _ h_ => h_.1))) hb); have n7_ := am_ (Kd.R_below (by (with_reducible repeat (first | apply Kd.R_alloc | apply Kd.R_drewN | apply Kd.R_drew)); exact (Kd.R_mono (Kd.R_far (p := ⟨gb1085, 1, none⟩) (Kd.R_far (p := ⟨gb1085, 0, none⟩) (Kd.R_types HO1083.out BK1085.out (by decide)) (fun _ hk => hk.2) (.slice Ao36 t1078.length co36)) (fun _ hk => hk.2) (.slice Ao41 t1081.length co41)) (fun _ h_ => h_.1))) hb); have n8_ := am_ (blk_below (g := gb1055) (o := .cells #[.slice A0_0 l0_0.length c0_0, .slice A0_1 l0_1.length c0_1] 33 (0, 0)) (by (with_reducible repeat (first | refine blk_drewN ?_ _ | refine blk_drew ?_ | refine blk_alloc ?_ _)); refine blk_far ?_ NB1055_1085.out _; (with_reducible repeat (first | refine blk_drewN ?_ _ | refine blk_drew ?_ | refine blk_alloc ?_ _)); refine blk_far ?_ NB1055_1085.out _; (with_reducible repeat (first | refine blk_drewN ?_ _ | refine blk_drew ?_ | refine blk_alloc ?_ _)); exact BK1055.out) hb); have n9_ := am_ (blk_below (g := gb1070) (o := .cells #[.slice Ao22 t1063.length co22, .slice Ao25 t1066.length co25] 35 (0, 0)) (by (with_reducible repeat (first | refine blk_drewN ?_ _ | refine blk_drew ?_ | refine blk_alloc ?_ _)); refine blk_far ?_ NB1070_1085.out _; (with_reducible repeat (first | refine blk_drewN ?_ _ | refine blk_drew ?_ | refine blk_alloc ?_ _)); refine blk_far ?_ NB1070_1085.out _; (with_reducible repeat (first | refine blk_drewN ?_ _ | refine blk_drew ?_ | refine blk_alloc ?_ _)); exact BK1070.out) hb); have n10_ := am_ (blk_below (g := gb1077) (o := .cells #[.slice Ao29 t1071.length co29, .slice Ao33 t1074.length co33] 35 (0, 0)) (by (with_reducible repeat (first | refine blk_drewN ?_ _ | refine blk_drew ?_ | refine blk_alloc ?_ _)); refine blk_far ?_ NB1077_1085.out _; (with_reducible repeat (first | refine blk_drewN ?_ _ | refine blk_drew ?_ | refine blk_alloc ?_ _)); refine blk_far ?_ NB1077_1085.out _; (with_reducible repeat (first | refine blk_drewN ?_ _ | refine blk_drew ?_ | refine blk_alloc ?_ _)); exact BK1077.out) hb); have n11_ := am_ (blk_below (g := gb1085) (o := .cells #[.slice Ao36 t1078.length co36, .slice Ao41 t1081.length co41] 35 (0, 0)) (by (with_reducible repeat (first | refine blk_drewN ?_ _ | refine blk_drew ?_ | refine blk_alloc ?_ _)); refine blk_put (cs := #[.slice Ao36 t1078.length co36, .slice none 0 0]) ?_ 1 _ rfl; (with_reducible repeat (first | refine blk_drewN ?_ _ | refine blk_drew ?_ | refine blk_alloc ?_ _)); refine blk_put (cs := #[.slice none 0 0, .slice none 0 0]) ?_ 0 _ rfl; (with_reducible repeat (first | refine blk_drewN ?_ _ | refine blk_drew ?_ | refine blk_alloc ?_ _)); exact BK1085.out) hb); have n12_ := am_ (below_step (by repeat (first | (with_reducible first | exact HB.out | apply below_alloc | apply pw_below_drewN | apply below_drew1 | refine below_set ?_ GE1055.out | refine below_set ?_ GE1070.out | refine below_set ?_ GE1077.out | refine below_set ?_ GE1085.out) | exact HB.out)) hb); clear HO1059; clear HO1062; clear HO1065; clear HO1068; clear HO1073; clear HO1076; clear HO1080; clear HO1083; clear BK1055; clear BK1070; clear BK1077; clear BK1085; clear HB; have HO1059 := n0_; have HO1062 := n1_; have HO1065 := n2_; have HO1068 := n3_; have HO1073 := n4_; have HO1076 := n5_; have HO1080 := n6_; have HO1083 := n7_; have BK1055 := n8_; have BK1070 := n9_; have BK1077 := n10_; have BK1085 := n11_; have HB := n12_; clear n0_ n1_ n2_ n3_ n4_ n5_ n6_ n7_ n8_ n9_ n10_ n11_ n12_; (try clear hb); (try clear hb2); (try clear hk); (try clear hi)))
    go_meet
    case rel => exact ⟨_, ((t1084 != t1069)), (by first | rfl | (simp; done) | (simp [*]; done)), H', ⟨by first | omega | exact Nat.le_refl _⟩, ⟨by (with_reducible repeat (first | apply Kd.R_alloc | apply Kd.R_drewN | apply Kd.R_drew)); exact Kd.R_mono HO1065.out (fun _ h => ⟨h.1.1.1.1.1.1, h.1.1.1.2, h.1.1.2, h.1.2, h.2⟩)⟩, ⟨by (with_reducible repeat (first | apply Kd.R_alloc | apply Kd.R_drewN | apply Kd.R_drew)); exact Kd.R_mono HO1068.out (fun _ h => ⟨h.1.1.1.1.1.1, h.1.1.1.2, h.1.1.2, h.1.2, h.2⟩)⟩, ⟨by (with_reducible repeat (first | apply Kd.R_alloc | apply Kd.R_drewN | apply Kd.R_drew)); exact Kd.R_mono HO1073.out (fun _ h => ⟨h.1.1.1.2, h.1.1.2, h.1.1.1.1.1.1, h.1.2, h.2⟩)⟩, ⟨by (with_reducible repeat (first | apply Kd.R_alloc | apply Kd.R_drewN | apply Kd.R_drew)); exact Kd.R_mono HO1076.out (fun _ h => ⟨h.1.1.1.2, h.1.1.2, h.1.1.1.1.1.1, h.1.2, h.2⟩)⟩, ⟨by (with_reducible repeat (first | apply Kd.R_alloc | apply Kd.R_drewN | apply Kd.R_drew)); exact Kd.R_mono HO1080.out (fun _ h => ⟨h.1.1.1.2, h.1.1.2, h.1.2, h.2, h.1.1.1.1.1.1⟩)⟩, ⟨by (with_reducible repeat (first | apply Kd.R_alloc | apply Kd.R_drewN | apply Kd.R_drew)); exact Kd.R_mono HO1083.out (fun _ h => ⟨h.1.1.1.2, h.1.1.2, h.1.2, h.2, h.1.1.1.1.1.1⟩)⟩, ⟨by (with_reducible repeat (first | refine blk_drewN ?_ _ | refine blk_drew ?_ | refine blk_alloc ?_ _)); exact BK1055.out⟩, ⟨by (with_reducible repeat (first | refine blk_drewN ?_ _ | refine blk_drew ?_ | refine blk_alloc ?_ _)); exact BK1070.out⟩, ⟨by (with_reducible repeat (first | refine blk_drewN ?_ _ | refine blk_drew ?_ | refine blk_alloc ?_ _)); exact BK1077.out⟩, ⟨by (with_reducible repeat (first | refine blk_drewN ?_ _ | refine blk_drew ?_ | refine blk_alloc ?_ _)); exact BK1085.out⟩, ⟨by repeat (first | (with_reducible first | exact HB.out | apply below_alloc | apply pw_below_drewN | apply below_drew1 | refine below_set ?_ GE1055.out | refine below_set ?_ GE1070.out | refine below_set ?_ GE1077.out | refine below_set ?_ GE1085.out) | exact HB.out)⟩⟩
   ·replace c43 := Bool.eq_false_iff.mpr c43
    subst c43
    have H1 : (laws_FnExactSuffixOf.j0 k a1 t1069 t1084 true l0_0 l0_1 t1063 t1066 t1071 t1074 t1078 t1081) = some r := by rw [if_neg (show ¬ (false = true) by decide)] at H; exact H
    clear H
    have H := H1
    clear H1
    have H' := am_ H
    clear H
    have hnb52 := NB1085_1055.out
    have hnc52 := NB1055_1085.out
    have hnb53 := NB1085_1070.out
    have hnc53 := NB1070_1085.out
    have hnb54 := NB1085_1077.out
    have hnc54 := NB1077_1085.out
    have hcz55_0 : w35.cell? ⟨gb1085, 0, none⟩ = some (.slice none 0 0) := (blk_cell BK1085.out 0).trans rfl
    have hcz55_1 : w35.cell? ⟨gb1085, 1, none⟩ = some (.slice none 0 0) := (blk_cell BK1085.out 1).trans rfl
    have hfz55_0 := blk_frozen BK1085.out 0
    have hfz55_1 := blk_frozen BK1085.out 1
    have hnb56 := NB1070_1055.out
    have hnc56 := NB1055_1070.out
    have hnb57 := NB1070_1077.out
    have hnc57 := NB1077_1070.out
    have hcz58_0 : w35.cell? ⟨gb1070, 0, none⟩ = some (.slice Ao22 t1063.length co22) := (blk_cell BK1070.out 0).trans rfl
    have hcz58_1 : w35.cell? ⟨gb1070, 1, none⟩ = some (.slice Ao25 t1066.length co25) := (blk_cell BK1070.out 1).trans rfl
    have hfz58_0 := blk_frozen BK1070.out 0
    have hfz58_1 := blk_frozen BK1070.out 1
    go_wp2_with (first | ((with_reducible refine gate_callee (f := 26) rfl ?_); refine goesL_ (some 38) rfl rfl Try.func26 (by kernel_rfl) rfl #[.agg #[.slice Ao36 t1078.length co36, .slice Ao41 t1081.length co41], .agg #[.slice Ao22 t1063.length co22, .slice Ao25 t1066.length co25]] rfl (by (try simp only [List.map_toArray, List.map_cons, List.map_nil]); first | done | rfl | (simp only [List.length_drop, List.length_take]; rfl)) ?_; (with_reducible refine (laws_eqLasso.calls k _ _ t1078 _ _ t1081 _ _ t1063 _ _ t1066 false _ ?side1 ?side2 ?side3 ?side4 ?side5 ?side6 ?side7 ?side8 A42.out).mono ?_); (case side1 => refine (Kd.R_reads' (e := 3) (base := w.heap.size) (ok := fun k_ => ((((((some k_ ≠ (.slice Ao41 t1081.length co41 : Value).ownBlock ∧ some k_ ≠ (.slice Ao18 t1057.length co18 : Value).ownBlock) ∧ some k_ ≠ (.slice Ao19 t1060.length co19 : Value).ownBlock) ∧ some k_ ≠ (.slice Ao22 t1063.length co22 : Value).ownBlock) ∧ some k_ ≠ (.slice Ao25 t1066.length co25 : Value).ownBlock) ∧ some k_ ≠ (.slice Ao29 t1071.length co29 : Value).ownBlock) ∧ some k_ ≠ (.slice Ao33 t1074.length co33 : Value).ownBlock)) (n := t1078.length) (c := co36) ?_).2.2; exact (by (with_reducible repeat (first | apply Kd.R_alloc | apply Kd.R_drewN | apply Kd.R_drew)); exact (Kd.R_mono (Kd.R_far (p := ⟨gb1085, 1, none⟩) (Kd.R_far (p := ⟨gb1085, 0, none⟩) (Kd.R_types HO1080.out BK1085.out (by decide)) (fun _ hk => hk.2) (.slice Ao36 t1078.length co36)) (fun _ hk => hk.2) (.slice Ao41 t1081.length co41)) (fun _ h_ => h_.1)))); (case side2 => exact (Kd.R_reads' HO1080.out).2.1); (case side3 => refine (Kd.R_reads' (e := 3) (base := w.heap.size) (ok := fun k_ => ((((((some k_ ≠ (.slice Ao36 t1078.length co36 : Value).ownBlock ∧ some k_ ≠ (.slice Ao18 t1057.length co18 : Value).ownBlock) ∧ some k_ ≠ (.slice Ao19 t1060.length co19 : Value).ownBlock) ∧ some k_ ≠ (.slice Ao22 t1063.length co22 : Value).ownBlock) ∧ some k_ ≠ (.slice Ao25 t1066.length co25 : Value).ownBlock) ∧ some k_ ≠ (.slice Ao29 t1071.length co29 : Value).ownBlock) ∧ some k_ ≠ (.slice Ao33 t1074.length co33 : Value).ownBlock)) (n := t1081.length) (c := co41) ?_).2.2; exact (by (with_reducible repeat (first | apply Kd.R_alloc | apply Kd.R_drewN | apply Kd.R_drew)); exact (Kd.R_mono (Kd.R_far (p := ⟨gb1085, 1, none⟩) (Kd.R_far (p := ⟨gb1085, 0, none⟩) (Kd.R_types HO1083.out BK1085.out (by decide)) (fun _ hk => hk.2) (.slice Ao36 t1078.length co36)) (fun _ hk => hk.2) (.slice Ao41 t1081.length co41)) (fun _ h_ => h_.1)))); (case side4 => exact (Kd.R_reads' HO1083.out).2.1); (case side5 => refine (Kd.R_reads' (e := 3) (base := w.heap.size) (ok := fun k_ => ((((((some k_ ≠ (.slice Ao25 t1066.length co25 : Value).ownBlock ∧ some k_ ≠ (.slice Ao18 t1057.length co18 : Value).ownBlock) ∧ some k_ ≠ (.slice Ao19 t1060.length co19 : Value).ownBlock) ∧ some k_ ≠ (.slice Ao29 t1071.length co29 : Value).ownBlock) ∧ some k_ ≠ (.slice Ao33 t1074.length co33 : Value).ownBlock) ∧ some k_ ≠ (.slice Ao36 t1078.length co36 : Value).ownBlock) ∧ some k_ ≠ (.slice Ao41 t1081.length co41 : Value).ownBlock)) (n := t1063.length) (c := co22) ?_).2.2; exact (by (with_reducible repeat (first | apply Kd.R_alloc | apply Kd.R_drewN | apply Kd.R_drew)); exact (Kd.R_mono (Kd.R_far (p := ⟨gb1085, 1, none⟩) (Kd.R_far (p := ⟨gb1085, 0, none⟩) (Kd.R_types HO1065.out BK1085.out (by decide)) (fun _ hk => hk.2) (.slice Ao36 t1078.length co36)) (fun _ hk => hk.2) (.slice Ao41 t1081.length co41)) (fun _ h_ => h_.1)))); (case side6 => exact (Kd.R_reads' HO1065.out).2.1); (case side7 => refine (Kd.R_reads' (e := 3) (base := w.heap.size) (ok := fun k_ => ((((((some k_ ≠ (.slice Ao22 t1063.length co22 : Value).ownBlock ∧ some k_ ≠ (.slice Ao18 t1057.length co18 : Value).ownBlock) ∧ some k_ ≠ (.slice Ao19 t1060.length co19 : Value).ownBlock) ∧ some k_ ≠ (.slice Ao29 t1071.length co29 : Value).ownBlock) ∧ some k_ ≠ (.slice Ao33 t1074.length co33 : Value).ownBlock) ∧ some k_ ≠ (.slice Ao36 t1078.length co36 : Value).ownBlock) ∧ some k_ ≠ (.slice Ao41 t1081.length co41 : Value).ownBlock)) (n := t1066.length) (c := co25) ?_).2.2; exact (by (with_reducible repeat (first | apply Kd.R_alloc | apply Kd.R_drewN | apply Kd.R_drew)); exact (Kd.R_mono (Kd.R_far (p := ⟨gb1085, 1, none⟩) (Kd.R_far (p := ⟨gb1085, 0, none⟩) (Kd.R_types HO1068.out BK1085.out (by decide)) (fun _ hk => hk.2) (.slice Ao36 t1078.length co36)) (fun _ hk => hk.2) (.slice Ao41 t1081.length co41)) (fun _ h_ => h_.1)))); (case side8 => exact (Kd.R_reads' HO1068.out).2.1); rintro e w59 ⟨rfl, hb⟩; refine ⟨_, rfl, ?_⟩; have n0_ := am_ (Kd.R_below (by (with_reducible repeat (first | apply Kd.R_alloc | apply Kd.R_drewN | apply Kd.R_drew)); exact (Kd.R_mono (Kd.R_far (p := ⟨gb1085, 1, none⟩) (Kd.R_far (p := ⟨gb1085, 0, none⟩) (Kd.R_types HO1059.out BK1085.out (by decide)) (fun _ hk => hk.2) (.slice Ao36 t1078.length co36)) (fun _ hk => hk.2) (.slice Ao41 t1081.length co41)) (fun _ h_ => h_.1))) hb); have n1_ := am_ (Kd.R_below (by (with_reducible repeat (first | apply Kd.R_alloc | apply Kd.R_drewN | apply Kd.R_drew)); exact (Kd.R_mono (Kd.R_far (p := ⟨gb1085, 1, none⟩) (Kd.R_far (p := ⟨gb1085, 0, none⟩) (Kd.R_types HO1062.out BK1085.out (by decide)) (fun _ hk => hk.2) (.slice Ao36 t1078.length co36)) (fun _ hk => hk.2) (.slice Ao41 t1081.length co41)) (fun _ h_ => h_.1))) hb); have n2_ := am_ (Kd.R_below (by (with_reducible repeat (first | apply Kd.R_alloc | apply Kd.R_drewN | apply Kd.R_drew)); exact (Kd.R_mono (Kd.R_far (p := ⟨gb1085, 1, none⟩) (Kd.R_far (p := ⟨gb1085, 0, none⟩) (Kd.R_types HO1065.out BK1085.out (by decide)) (fun _ hk => hk.2) (.slice Ao36 t1078.length co36)) (fun _ hk => hk.2) (.slice Ao41 t1081.length co41)) (fun _ h_ => h_.1))) hb); have n3_ := am_ (Kd.R_below (by (with_reducible repeat (first | apply Kd.R_alloc | apply Kd.R_drewN | apply Kd.R_drew)); exact (Kd.R_mono (Kd.R_far (p := ⟨gb1085, 1, none⟩) (Kd.R_far (p := ⟨gb1085, 0, none⟩) (Kd.R_types HO1068.out BK1085.out (by decide)) (fun _ hk => hk.2) (.slice Ao36 t1078.length co36)) (fun _ hk => hk.2) (.slice Ao41 t1081.length co41)) (fun _ h_ => h_.1))) hb); have n4_ := am_ (Kd.R_below (by (with_reducible repeat (first | apply Kd.R_alloc | apply Kd.R_drewN | apply Kd.R_drew)); exact (Kd.R_mono (Kd.R_far (p := ⟨gb1085, 1, none⟩) (Kd.R_far (p := ⟨gb1085, 0, none⟩) (Kd.R_types HO1073.out BK1085.out (by decide)) (fun _ hk => hk.2) (.slice Ao36 t1078.length co36)) (fun _ hk => hk.2) (.slice Ao41 t1081.length co41)) (fun _ h_ => h_.1))) hb); have n5_ := am_ (Kd.R_below (by (with_reducible repeat (first | apply Kd.R_alloc | apply Kd.R_drewN | apply Kd.R_drew)); exact (Kd.R_mono (Kd.R_far (p := ⟨gb1085, 1, none⟩) (Kd.R_far (p := ⟨gb1085, 0, none⟩) (Kd.R_types HO1076.out BK1085.out (by decide)) (fun _ hk => hk.2) (.slice Ao36 t1078.length co36)) (fun _ hk => hk.2) (.slice Ao41 t1081.length co41)) (fun _ h_ => h_.1))) hb); have n6_ := am_ (Kd.R_below (by (with_reducible repeat (first | apply Kd.R_alloc | apply Kd.R_drewN | apply Kd.R_drew)); exact (Kd.R_mono (Kd.R_far (p := ⟨gb1085, 1, none⟩) (Kd.R_far (p := ⟨gb1085, 0, none⟩) (Kd.R_types HO1080.out BK1085.out (by decide)) (fun _ hk => hk.2) (.slice Ao36 t1078.length co36)) (fun _ hk => hk.2) (.slice Ao41 t1081.length co41)) (fun _ h_ => h_.1))) hb); have n7_ := am_ (Kd.R_below (by (with_reducible repeat (first | apply Kd.R_alloc | apply Kd.R_drewN | apply Kd.R_drew)); exact (Kd.R_mono (Kd.R_far (p := ⟨gb1085, 1, none⟩) (Kd.R_far (p := ⟨gb1085, 0, none⟩) (Kd.R_types HO1083.out BK1085.out (by decide)) (fun _ hk => hk.2) (.slice Ao36 t1078.length co36)) (fun _ hk => hk.2) (.slice Ao41 t1081.length co41)) (fun _ h_ => h_.1))) hb); have n8_ := am_ (blk_below (g := gb1055) (o := .cells #[.slice A0_0 l0_0.length c0_0, .slice A0_1 l0_1.length c0_1] 33 (0, 0)) (by (with_reducible repeat (first | refine blk_drewN ?_ _ | refine blk_drew ?_ | refine blk_alloc ?_ _)); refine blk_far ?_ NB1055_1085.out _; (with_reducible repeat (first | refine blk_drewN ?_ _ | refine blk_drew ?_ | refine blk_alloc ?_ _)); refine blk_far ?_ NB1055_1085.out _; (with_reducible repeat (first | refine blk_drewN ?_ _ | refine blk_drew ?_ | refine blk_alloc ?_ _)); exact BK1055.out) hb); have n9_ := am_ (blk_below (g := gb1070) (o := .cells #[.slice Ao22 t1063.length co22, .slice Ao25 t1066.length co25] 35 (0, 0)) (by (with_reducible repeat (first | refine blk_drewN ?_ _ | refine blk_drew ?_ | refine blk_alloc ?_ _)); refine blk_far ?_ NB1070_1085.out _; (with_reducible repeat (first | refine blk_drewN ?_ _ | refine blk_drew ?_ | refine blk_alloc ?_ _)); refine blk_far ?_ NB1070_1085.out _; (with_reducible repeat (first | refine blk_drewN ?_ _ | refine blk_drew ?_ | refine blk_alloc ?_ _)); exact BK1070.out) hb); have n10_ := am_ (blk_below (g := gb1077) (o := .cells #[.slice Ao29 t1071.length co29, .slice Ao33 t1074.length co33] 35 (0, 0)) (by (with_reducible repeat (first | refine blk_drewN ?_ _ | refine blk_drew ?_ | refine blk_alloc ?_ _)); refine blk_far ?_ NB1077_1085.out _; (with_reducible repeat (first | refine blk_drewN ?_ _ | refine blk_drew ?_ | refine blk_alloc ?_ _)); refine blk_far ?_ NB1077_1085.out _; (with_reducible repeat (first | refine blk_drewN ?_ _ | refine blk_drew ?_ | refine blk_alloc ?_ _)); exact BK1077.out) hb); have n11_ := am_ (blk_below (g := gb1085) (o := .cells #[.slice Ao36 t1078.length co36, .slice Ao41 t1081.length co41] 35 (0, 0)) (by (with_reducible repeat (first | refine blk_drewN ?_ _ | refine blk_drew ?_ | refine blk_alloc ?_ _)); refine blk_put (cs := #[.slice Ao36 t1078.length co36, .slice none 0 0]) ?_ 1 _ rfl; (with_reducible repeat (first | refine blk_drewN ?_ _ | refine blk_drew ?_ | refine blk_alloc ?_ _)); refine blk_put (cs := #[.slice none 0 0, .slice none 0 0]) ?_ 0 _ rfl; (with_reducible repeat (first | refine blk_drewN ?_ _ | refine blk_drew ?_ | refine blk_alloc ?_ _)); exact BK1085.out) hb); have n12_ := am_ (below_step (by repeat (first | (with_reducible first | exact HB.out | apply below_alloc | apply pw_below_drewN | apply below_drew1 | refine below_set ?_ GE1055.out | refine below_set ?_ GE1070.out | refine below_set ?_ GE1077.out | refine below_set ?_ GE1085.out) | exact HB.out)) hb); clear HO1059; clear HO1062; clear HO1065; clear HO1068; clear HO1073; clear HO1076; clear HO1080; clear HO1083; clear BK1055; clear BK1070; clear BK1077; clear BK1085; clear HB; have HO1059 := n0_; have HO1062 := n1_; have HO1065 := n2_; have HO1068 := n3_; have HO1073 := n4_; have HO1076 := n5_; have HO1080 := n6_; have HO1083 := n7_; have BK1055 := n8_; have BK1070 := n9_; have BK1077 := n10_; have BK1085 := n11_; have HB := n12_; clear n0_ n1_ n2_ n3_ n4_ n5_ n6_ n7_ n8_ n9_ n10_ n11_ n12_; (try clear hb); (try clear hb2); (try clear hk); (try clear hi)))
    go_meet
    case rel => exact ⟨_, (true), (by first | rfl | (simp; done) | (simp [*]; done)), H', ⟨by first | omega | exact Nat.le_refl _⟩, ⟨by (with_reducible repeat (first | apply Kd.R_alloc | apply Kd.R_drewN | apply Kd.R_drew)); exact Kd.R_mono HO1065.out (fun _ h => ⟨h.1.1.1.1.1.1, h.1.1.1.2, h.1.1.2, h.1.2, h.2⟩)⟩, ⟨by (with_reducible repeat (first | apply Kd.R_alloc | apply Kd.R_drewN | apply Kd.R_drew)); exact Kd.R_mono HO1068.out (fun _ h => ⟨h.1.1.1.1.1.1, h.1.1.1.2, h.1.1.2, h.1.2, h.2⟩)⟩, ⟨by (with_reducible repeat (first | apply Kd.R_alloc | apply Kd.R_drewN | apply Kd.R_drew)); exact Kd.R_mono HO1073.out (fun _ h => ⟨h.1.1.1.2, h.1.1.2, h.1.1.1.1.1.1, h.1.2, h.2⟩)⟩, ⟨by (with_reducible repeat (first | apply Kd.R_alloc | apply Kd.R_drewN | apply Kd.R_drew)); exact Kd.R_mono HO1076.out (fun _ h => ⟨h.1.1.1.2, h.1.1.2, h.1.1.1.1.1.1, h.1.2, h.2⟩)⟩, ⟨by (with_reducible repeat (first | apply Kd.R_alloc | apply Kd.R_drewN | apply Kd.R_drew)); exact Kd.R_mono HO1080.out (fun _ h => ⟨h.1.1.1.2, h.1.1.2, h.1.2, h.2, h.1.1.1.1.1.1⟩)⟩, ⟨by (with_reducible repeat (first | apply Kd.R_alloc | apply Kd.R_drewN | apply Kd.R_drew)); exact Kd.R_mono HO1083.out (fun _ h => ⟨h.1.1.1.2, h.1.1.2, h.1.2, h.2, h.1.1.1.1.1.1⟩)⟩, ⟨by (with_reducible repeat (first | refine blk_drewN ?_ _ | refine blk_drew ?_ | refine blk_alloc ?_ _)); exact BK1055.out⟩, ⟨by (with_reducible repeat (first | refine blk_drewN ?_ _ | refine blk_drew ?_ | refine blk_alloc ?_ _)); exact BK1070.out⟩, ⟨by (with_reducible repeat (first | refine blk_drewN ?_ _ | refine blk_drew ?_ | refine blk_alloc ?_ _)); exact BK1077.out⟩, ⟨by (with_reducible repeat (first | refine blk_drewN ?_ _ | refine blk_drew ?_ | refine blk_alloc ?_ _)); exact BK1085.out⟩, ⟨by repeat (first | (with_reducible first | exact HB.out | apply below_alloc | apply pw_below_drewN | apply below_drew1 | refine below_set ?_ GE1055.out | refine below_set ?_ GE1070.out | refine below_set ?_ GE1077.out | refine below_set ?_ GE1085.out) | exact HB.out)⟩⟩
  case rest =>
   clear HC12
   try clear c2
   try clear p2
   try clear c3
   try clear c4
   try clear c4b0
   try clear c5
   try clear c22
   try clear c23
   try clear c24
   try clear c25
   try clear c26
   try clear c30
   try clear c31
   try clear c37
   try clear c38
   try clear c39
   try clear c43
   try clear c44
   try clear c45
   try clear c46
   try clear c48
   try clear c49
   try clear c52
   try clear c53
   try clear c54
   try clear c56
   try clear c57
   try clear hcz14_0
   try clear hcz14_1
   try clear hcz16_0
   try clear hcz16_1
   try clear hcz24_0
   try clear hcz24_1
   try clear hcz26_0
   try clear hcz26_1
   try clear hcz32_0
   try clear hcz32_1
   try clear hcz40_0
   try clear hcz40_1
   try clear hcz47_0
   try clear hcz47_1
   try clear hcz50_0
   try clear hcz50_1
   try clear hcz55_0
   try clear hcz55_1
   try clear hcz58_0
   try clear hcz58_1
   try clear hcz6_0
   try clear hcz6_1
   try clear hfz14_0
   try clear hfz14_1
   try clear hfz16_0
   try clear hfz16_1
   try clear hfz24_0
   try clear hfz24_1
   try clear hfz26_0
   try clear hfz26_1
   try clear hfz32_0
   try clear hfz32_1
   try clear hfz40_0
   try clear hfz40_1
   try clear hfz47_0
   try clear hfz47_1
   try clear hfz50_0
   try clear hfz50_1
   try clear hfz55_0
   try clear hfz55_1
   try clear hfz58_0
   try clear hfz58_1
   try clear hfz6_0
   try clear hfz6_1
   obtain ⟨kq, x44_11, rfl, HA, HJ11, HO_1071000, HO_1071001, HO_1078000, HO_1078001, HO_1086000, HO_1086001, BK1055, BK1070, BK1077, BK1085, HB⟩ := hcut
   cases kq with
   | zero => exact absurd HA.out (by simp [laws_FnExactSuffixOf.j0])
   | succ kj11 =>
    have H := HA.out
    clear HA
    simp only [laws_FnExactSuffixOf.j0] at H
    by_cases c60 : x44_11 = true
    ·subst c60
     have H1 : (some false) = some r := by rw [if_pos rfl] at H; exact H
     clear H
     have H := H1
     clear H1
     obtain rfl := Option.some.inj H
     go_wp2
     go_ret
     exact ⟨by first | rfl | (simp [errW_none, errW_some] <;> rfl) | (simp [*, errW_none, errW_some] <;> rfl), by repeat (first | (with_reducible first | exact HB.out | apply below_alloc | apply pw_below_drewN | apply below_drew1 | refine below_set ?_ GE1055.out | refine below_set ?_ GE1070.out | refine below_set ?_ GE1077.out | refine below_set ?_ GE1085.out) | exact HB.out)⟩
    ·replace c60 := Bool.eq_false_iff.mpr c60
     subst c60
     have H1 : ((laws_toLasso.f kj11 l0_0 l0_1).bind fun bt1087 => ((laws_eqLasso.f kj11 t1071 t1074 bt1087.1 bt1087.2).bind fun t1093 => (if t1093 = true then ((laws_markLasso.f kj11 t1071 t1074 1).bind fun bt1094 => (if bt1094.1 < 0 then (laws_FnExactSuffixOf.j1 kj11 a1 t1069 true l0_0 l0_1 t1063 t1066 t1078 t1081) else ((laws_eqLasso.f kj11 t1078 t1081 t1063 t1066).bind fun t1097 => (if t1097 = true then (laws_FnExactSuffixOf.j1 kj11 a1 t1069 (t1084 != t1069) l0_0 l0_1 t1063 t1066 t1078 t1081) else (laws_FnExactSuffixOf.j1 kj11 a1 t1069 true l0_0 l0_1 t1063 t1066 t1078 t1081))))) else (some false)))) = some r := by rw [if_neg (show ¬ (false = true) by decide)] at H; exact H
     clear H
     have H := H1
     clear H1
     replace H := Option.bind_eq_some_iff.mp H
     obtain ⟨⟨t1087, t1090⟩, A610, H⟩ := H
     replace H : ((laws_eqLasso.f kj11 t1071 t1074 t1087 t1090).bind fun t1093 => (if t1093 = true then ((laws_markLasso.f kj11 t1071 t1074 1).bind fun bt1094 => (if bt1094.1 < 0 then (laws_FnExactSuffixOf.j1 kj11 a1 t1069 true l0_0 l0_1 t1063 t1066 t1078 t1081) else ((laws_eqLasso.f kj11 t1078 t1081 t1063 t1066).bind fun t1097 => (if t1097 = true then (laws_FnExactSuffixOf.j1 kj11 a1 t1069 (t1084 != t1069) l0_0 l0_1 t1063 t1066 t1078 t1081) else (laws_FnExactSuffixOf.j1 kj11 a1 t1069 true l0_0 l0_1 t1063 t1066 t1078 t1081))))) else (some false))) = some r := H
     have A61 := am_ A610
     clear A610
     replace H := Option.bind_eq_some_iff.mp H
     obtain ⟨t1093, A620, H⟩ := H
     replace H : (if t1093 = true then ((laws_markLasso.f kj11 t1071 t1074 1).bind fun bt1094 => (if bt1094.1 < 0 then (laws_FnExactSuffixOf.j1 kj11 a1 t1069 true l0_0 l0_1 t1063 t1066 t1078 t1081) else ((laws_eqLasso.f kj11 t1078 t1081 t1063 t1066).bind fun t1097 => (if t1097 = true then (laws_FnExactSuffixOf.j1 kj11 a1 t1069 (t1084 != t1069) l0_0 l0_1 t1063 t1066 t1078 t1081) else (laws_FnExactSuffixOf.j1 kj11 a1 t1069 true l0_0 l0_1 t1063 t1066 t1078 t1081))))) else (some false)) = some r := H
     have A62 := am_ A620
     clear A620
     by_cases c63 : t1093 = true
     ·subst c63
      have H1 : ((laws_markLasso.f kj11 t1071 t1074 1).bind fun bt1094 => (if bt1094.1 < 0 then (laws_FnExactSuffixOf.j1 kj11 a1 t1069 true l0_0 l0_1 t1063 t1066 t1078 t1081) else ((laws_eqLasso.f kj11 t1078 t1081 t1063 t1066).bind fun t1097 => (if t1097 = true then (laws_FnExactSuffixOf.j1 kj11 a1 t1069 (t1084 != t1069) l0_0 l0_1 t1063 t1066 t1078 t1081) else (laws_FnExactSuffixOf.j1 kj11 a1 t1069 true l0_0 l0_1 t1063 t1066 t1078 t1081))))) = some r := by rw [if_pos rfl] at H; exact H
      clear H
      have H := H1
      clear H1
      replace H := Option.bind_eq_some_iff.mp H
      obtain ⟨⟨t1094, t1095, t1096⟩, A640, H⟩ := H
      replace H : (if t1094 < 0 then (laws_FnExactSuffixOf.j1 kj11 a1 t1069 true l0_0 l0_1 t1063 t1066 t1078 t1081) else ((laws_eqLasso.f kj11 t1078 t1081 t1063 t1066).bind fun t1097 => (if t1097 = true then (laws_FnExactSuffixOf.j1 kj11 a1 t1069 (t1084 != t1069) l0_0 l0_1 t1063 t1066 t1078 t1081) else (laws_FnExactSuffixOf.j1 kj11 a1 t1069 true l0_0 l0_1 t1063 t1066 t1078 t1081)))) = some r := H
      have A64 := am_ A640
      clear A640
      have HC65 := am_ H
      clear H
      try go_wp2
      have n0_ := am_ (Kd.R_drew HO_1071000.out)
      have n1_ := am_ (Kd.R_drew HO_1071001.out)
      have n2_ := am_ (Kd.R_drew HO_1078000.out)
      have n3_ := am_ (Kd.R_drew HO_1078001.out)
      have n4_ := am_ (Kd.R_drew HO_1086000.out)
      have n5_ := am_ (Kd.R_drew HO_1086001.out)
      have n6_ := am_ (blk_drew BK1055.out)
      have n7_ := am_ (blk_drew BK1070.out)
      have n8_ := am_ (blk_drew BK1077.out)
      have n9_ := am_ (blk_drew BK1085.out)
      have n10_ := am_ (below_drew1 HB.out)
      clear HO_1071000
      clear HO_1071001
      clear HO_1078000
      clear HO_1078001
      clear HO_1086000
      clear HO_1086001
      clear BK1055
      clear BK1070
      clear BK1077
      clear BK1085
      clear HB
      have HO_1071000 := n0_
      have HO_1071001 := n1_
      have HO_1078000 := n2_
      have HO_1078001 := n3_
      have HO_1086000 := n4_
      have HO_1086001 := n5_
      have BK1055 := n6_
      have BK1070 := n7_
      have BK1077 := n8_
      have BK1085 := n9_
      have HB := n10_
      clear n0_ n1_ n2_ n3_ n4_ n5_ n6_ n7_ n8_ n9_ n10_
      refine start_ (n := 5) (S := fun w' => w'.cell? ⟨gb1077, 0, none⟩ = some (.slice Ao29 t1071.length co29) ∧ w'.cell? ⟨gb1077, 1, none⟩ = some (.slice Ao33 t1074.length co33) ∧ w'.cell? ⟨gb1055, 0, none⟩ = some (.slice A0_0 l0_0.length c0_0) ∧ w'.cell? ⟨gb1055, 1, none⟩ = some (.slice A0_1 l0_1.length c0_1)) (ds := []) #[false, false, false, false, false] (by kernel_rfl) rfl rfl ⟨(blk_cell BK1077.out 0).trans rfl, (blk_cell BK1077.out 1).trans rfl, (blk_cell BK1055.out 0).trans rfl, (blk_cell BK1055.out 1).trans rfl⟩ (fun hHeld => ?_)
      generalize wc.drew = w66 at HO_1071000 HO_1071001 HO_1078000 HO_1078001 HO_1086000 HO_1086001 BK1055 BK1070 BK1077 BK1085 HB hHeld ⊢
      refine take_ (i := 0) (N := some 45) (v := ?_) (a' := ?_) #[true, false, false, false, false] rfl rfl (by kernel_rfl) (fun _ _ _ h => h) (Or.inl ⟨by rfl, ?_⟩) hHeld ?_ ?_
      rotate_left
      ·rintro w' ⟨s0, s1, s2, s3⟩
       go_simp
       with_reducible rfl
      rotate_left
      ·simp only [Act.put, List.setIfInBounds_toArray, List.set_cons_zero, List.set_cons_succ, i64_w, i32_w]
       rfl
      refine take_ (i := 1) (N := some 46) (v := ?_) (a' := ?_) #[true, true, false, false, false] rfl rfl (by kernel_rfl) (fun _ _ _ h => h) (Or.inl ⟨by rfl, ?_⟩) hHeld ?_ ?_
      rotate_left
      ·rintro w' ⟨s0, s1, s2, s3⟩
       go_simp
       with_reducible rfl
      rotate_left
      ·simp only [Act.put, List.setIfInBounds_toArray, List.set_cons_zero, List.set_cons_succ, i64_w, i32_w]
       rfl
      refine one_ (i := 2) (N := some 47) #[true, true, true, false, false] rfl rfl (by kernel_rfl) (by decide) (fun K hK => ?_)
      refine goes_ Try.func24 (by kernel_rfl) rfl #[.agg #[.slice A0_0 l0_0.length c0_0, .slice A0_1 l0_1.length c0_1]] (by rfl) rfl rfl (by (try simp only [List.map_toArray, List.map_cons, List.map_nil]); first | done | rfl | (simp only [List.length_drop, List.length_take]; rfl)) ?_
      with_reducible refine (laws_toLasso.calls kj11 _ _ l0_0 _ _ l0_1 t1087 t1090 _ ?side1 ?side2 ?side3 ?side4 A61.out).mono ?_
      (case side1 => repeat (first | exact (Kd.C_below HR0_0.out HB.out) | (with_reducible first | refine Kd.C_alloc ?_ _ | refine Kd.C_drewN ?_ _ | refine Kd.C_drew ?_)))
      (case side2 => exact HC0_0.out)
      (case side3 => repeat (first | exact (Kd.C_below HR0_1.out HB.out) | (with_reducible first | refine Kd.C_alloc ?_ _ | refine Kd.C_drewN ?_ _ | refine Kd.C_drew ?_)))
      (case side4 => exact HC0_1.out)
      rintro e w67 ⟨v1088, v1091, rfl, ho0, ho1, hb⟩
      refine ⟨_, rfl, ?_⟩
      have n0_ := am_ (Kd.R_mono (Kd.R_told (Kd.R_told (Kd.R_old (by (with_reducible repeat (first | apply Kd.R_alloc | apply Kd.R_drewN | apply Kd.R_drew)); exact HO_1071000.out) hb) (Kd.R_base ho0)) (Kd.R_base ho1)) (fun _ h_ => h_.1))
      have n1_ := am_ (Kd.R_mono (Kd.R_told (Kd.R_told (Kd.R_old (by (with_reducible repeat (first | apply Kd.R_alloc | apply Kd.R_drewN | apply Kd.R_drew)); exact HO_1071001.out) hb) (Kd.R_base ho0)) (Kd.R_base ho1)) (fun _ h_ => h_.1))
      have n2_ := am_ (Kd.R_mono (Kd.R_told (Kd.R_told (Kd.R_old (by (with_reducible repeat (first | apply Kd.R_alloc | apply Kd.R_drewN | apply Kd.R_drew)); exact HO_1078000.out) hb) (Kd.R_base ho0)) (Kd.R_base ho1)) (fun _ h_ => h_.1))
      have n3_ := am_ (Kd.R_mono (Kd.R_told (Kd.R_told (Kd.R_old (by (with_reducible repeat (first | apply Kd.R_alloc | apply Kd.R_drewN | apply Kd.R_drew)); exact HO_1078001.out) hb) (Kd.R_base ho0)) (Kd.R_base ho1)) (fun _ h_ => h_.1))
      have n4_ := am_ (Kd.R_mono (Kd.R_told (Kd.R_told (Kd.R_old (by (with_reducible repeat (first | apply Kd.R_alloc | apply Kd.R_drewN | apply Kd.R_drew)); exact HO_1086000.out) hb) (Kd.R_base ho0)) (Kd.R_base ho1)) (fun _ h_ => h_.1))
      have n5_ := am_ (Kd.R_mono (Kd.R_told (Kd.R_told (Kd.R_old (by (with_reducible repeat (first | apply Kd.R_alloc | apply Kd.R_drewN | apply Kd.R_drew)); exact HO_1086001.out) hb) (Kd.R_base ho0)) (Kd.R_base ho1)) (fun _ h_ => h_.1))
      have n6_ := am_ (Kd.R_lower (Kd.R_new' (Kd.R_new' (Kd.R_new' (Kd.R_new' (Kd.R_new' (Kd.R_new' ho0 (Kd.R_lt (by (with_reducible repeat (first | apply Kd.R_alloc | apply Kd.R_drewN | apply Kd.R_drew)); exact HO_1071000.out))) (Kd.R_lt (by (with_reducible repeat (first | apply Kd.R_alloc | apply Kd.R_drewN | apply Kd.R_drew)); exact HO_1071001.out))) (Kd.R_lt (by (with_reducible repeat (first | apply Kd.R_alloc | apply Kd.R_drewN | apply Kd.R_drew)); exact HO_1078000.out))) (Kd.R_lt (by (with_reducible repeat (first | apply Kd.R_alloc | apply Kd.R_drewN | apply Kd.R_drew)); exact HO_1078001.out))) (Kd.R_lt (by (with_reducible repeat (first | apply Kd.R_alloc | apply Kd.R_drewN | apply Kd.R_drew)); exact HO_1086000.out))) (Kd.R_lt (by (with_reducible repeat (first | apply Kd.R_alloc | apply Kd.R_drewN | apply Kd.R_drew)); exact HO_1086001.out))) (below_size (by repeat (first | (with_reducible first | exact HB.out | apply below_alloc | apply pw_below_drewN | apply below_drew1 | refine below_set ?_ GE1055.out | refine below_set ?_ GE1070.out | refine below_set ?_ GE1077.out | refine below_set ?_ GE1085.out) | exact HB.out))))
      have n7_ := am_ (Kd.R_lower (Kd.R_new' (Kd.R_new' (Kd.R_new' (Kd.R_new' (Kd.R_new' (Kd.R_new' ho1 (Kd.R_lt (by (with_reducible repeat (first | apply Kd.R_alloc | apply Kd.R_drewN | apply Kd.R_drew)); exact HO_1071000.out))) (Kd.R_lt (by (with_reducible repeat (first | apply Kd.R_alloc | apply Kd.R_drewN | apply Kd.R_drew)); exact HO_1071001.out))) (Kd.R_lt (by (with_reducible repeat (first | apply Kd.R_alloc | apply Kd.R_drewN | apply Kd.R_drew)); exact HO_1078000.out))) (Kd.R_lt (by (with_reducible repeat (first | apply Kd.R_alloc | apply Kd.R_drewN | apply Kd.R_drew)); exact HO_1078001.out))) (Kd.R_lt (by (with_reducible repeat (first | apply Kd.R_alloc | apply Kd.R_drewN | apply Kd.R_drew)); exact HO_1086000.out))) (Kd.R_lt (by (with_reducible repeat (first | apply Kd.R_alloc | apply Kd.R_drewN | apply Kd.R_drew)); exact HO_1086001.out))) (below_size (by repeat (first | (with_reducible first | exact HB.out | apply below_alloc | apply pw_below_drewN | apply below_drew1 | refine below_set ?_ GE1055.out | refine below_set ?_ GE1070.out | refine below_set ?_ GE1077.out | refine below_set ?_ GE1085.out) | exact HB.out))))
      have n8_ := am_ (blk_below (g := gb1055) (o := .cells #[.slice A0_0 l0_0.length c0_0, .slice A0_1 l0_1.length c0_1] 33 (0, 0)) (by (with_reducible repeat (first | refine blk_drewN ?_ _ | refine blk_drew ?_ | refine blk_alloc ?_ _)); exact BK1055.out) hb)
      have n9_ := am_ (blk_below (g := gb1070) (o := .cells #[.slice Ao22 t1063.length co22, .slice Ao25 t1066.length co25] 35 (0, 0)) (by (with_reducible repeat (first | refine blk_drewN ?_ _ | refine blk_drew ?_ | refine blk_alloc ?_ _)); exact BK1070.out) hb)
      have n10_ := am_ (blk_below (g := gb1077) (o := .cells #[.slice Ao29 t1071.length co29, .slice Ao33 t1074.length co33] 35 (0, 0)) (by (with_reducible repeat (first | refine blk_drewN ?_ _ | refine blk_drew ?_ | refine blk_alloc ?_ _)); exact BK1077.out) hb)
      have n11_ := am_ (blk_below (g := gb1085) (o := .cells #[.slice Ao36 t1078.length co36, .slice Ao41 t1081.length co41] 35 (0, 0)) (by (with_reducible repeat (first | refine blk_drewN ?_ _ | refine blk_drew ?_ | refine blk_alloc ?_ _)); exact BK1085.out) hb)
      have n12_ := am_ (below_step (by repeat (first | (with_reducible first | exact HB.out | apply below_alloc | apply pw_below_drewN | apply below_drew1 | refine below_set ?_ GE1055.out | refine below_set ?_ GE1070.out | refine below_set ?_ GE1077.out | refine below_set ?_ GE1085.out) | exact HB.out)) hb)
      clear HO_1071000
      clear HO_1071001
      clear HO_1078000
      clear HO_1078001
      clear HO_1086000
      clear HO_1086001
      clear BK1055
      clear BK1070
      clear BK1077
      clear BK1085
      clear HB
      have HO_1071000 := n0_
      have HO_1071001 := n1_
      have HO_1078000 := n2_
      have HO_1078001 := n3_
      have HO_1086000 := n4_
      have HO_1086001 := n5_
      have HO1089 := n6_
      have HO1092 := n7_
      have BK1055 := n8_
      have BK1070 := n9_
      have BK1077 := n10_
      have BK1085 := n11_
      have HB := n12_
      clear n0_ n1_ n2_ n3_ n4_ n5_ n6_ n7_ n8_ n9_ n10_ n11_ n12_
      (try clear hb)
      (try clear hb2)
      (try clear hk)
      (try clear hi)
      (try clear ho0)
      (try clear ho1)
      obtain ⟨Ao68, co68, eo68⟩ := Kd.R_slice HO1089.out
      (first | subst eo68 | (injection eo68 with f1_ f2_ f3_; have f4_ := f1_.symm; have f5_ := f3_.symm; clear f1_ f2_ f3_; subst f4_; subst f5_))
      obtain ⟨Ao69, co69, eo69⟩ := Kd.R_slice HO1092.out
      (first | subst eo69 | (injection eo69 with f1_ f2_ f3_; have f4_ := f1_.symm; have f5_ := f3_.symm; clear f1_ f2_ f3_; subst f4_; subst f5_))
      refine hK.out _ _ ⟨(blk_cell BK1077.out 0).trans rfl, (blk_cell BK1077.out 1).trans rfl, (blk_cell BK1055.out 0).trans rfl, (blk_cell BK1055.out 1).trans rfl⟩ (fun hHeld => ?_)
      clear hK K
      refine norm_ (a' := ?_) ?_ ?_
      rotate_left
      ·show Act.put _ (some 47) _ = _
       simp only [Act.put, List.setIfInBounds_toArray, List.set_cons_zero, List.set_cons_succ, i64_w, i32_w]
       rfl
      refine one_ (i := 3) (N := some 48) #[true, true, true, true, false] rfl rfl (by kernel_rfl) (by decide) (fun K hK => ?_)
      refine goes_ Try.func26 (by kernel_rfl) rfl #[.agg #[.slice Ao29 t1071.length co29, .slice Ao33 t1074.length co33], .agg #[.slice Ao68 t1087.length co68, .slice Ao69 t1090.length co69]] (by rfl) rfl rfl (by (try simp only [List.map_toArray, List.map_cons, List.map_nil]); first | done | rfl | (simp only [List.length_drop, List.length_take]; rfl)) ?_
      with_reducible refine (laws_eqLasso.calls kj11 _ _ t1071 _ _ t1074 _ _ t1087 _ _ t1090 true _ ?side1 ?side2 ?side3 ?side4 ?side5 ?side6 ?side7 ?side8 A62.out).mono ?_
      (case side1 => repeat (first | exact (Kd.R_reads' HO_1078000.out).2.2 | (with_reducible first | refine Kd.C_alloc ?_ _ | refine Kd.C_drewN ?_ _ | refine Kd.C_drew ?_)))
      (case side2 => exact (Kd.R_reads' HO_1078000.out).2.1)
      (case side3 => repeat (first | exact (Kd.R_reads' HO_1078001.out).2.2 | (with_reducible first | refine Kd.C_alloc ?_ _ | refine Kd.C_drewN ?_ _ | refine Kd.C_drew ?_)))
      (case side4 => exact (Kd.R_reads' HO_1078001.out).2.1)
      (case side5 => repeat (first | exact (Kd.R_reads' HO1089.out).2.2 | (with_reducible first | refine Kd.C_alloc ?_ _ | refine Kd.C_drewN ?_ _ | refine Kd.C_drew ?_)))
      (case side6 => exact (Kd.R_reads' HO1089.out).2.1)
      (case side7 => repeat (first | exact (Kd.R_reads' HO1092.out).2.2 | (with_reducible first | refine Kd.C_alloc ?_ _ | refine Kd.C_drewN ?_ _ | refine Kd.C_drew ?_)))
      (case side8 => exact (Kd.R_reads' HO1092.out).2.1)
      rintro e w70 ⟨rfl, hb⟩
      refine ⟨_, rfl, ?_⟩
      have n0_ := am_ (Kd.R_below (by (with_reducible repeat (first | apply Kd.R_alloc | apply Kd.R_drewN | apply Kd.R_drew)); exact HO_1071000.out) hb)
      have n1_ := am_ (Kd.R_below (by (with_reducible repeat (first | apply Kd.R_alloc | apply Kd.R_drewN | apply Kd.R_drew)); exact HO_1071001.out) hb)
      have n2_ := am_ (Kd.R_below (by (with_reducible repeat (first | apply Kd.R_alloc | apply Kd.R_drewN | apply Kd.R_drew)); exact HO_1078000.out) hb)
      have n3_ := am_ (Kd.R_below (by (with_reducible repeat (first | apply Kd.R_alloc | apply Kd.R_drewN | apply Kd.R_drew)); exact HO_1078001.out) hb)
      have n4_ := am_ (Kd.R_below (by (with_reducible repeat (first | apply Kd.R_alloc | apply Kd.R_drewN | apply Kd.R_drew)); exact HO_1086000.out) hb)
      have n5_ := am_ (Kd.R_below (by (with_reducible repeat (first | apply Kd.R_alloc | apply Kd.R_drewN | apply Kd.R_drew)); exact HO_1086001.out) hb)
      have n6_ := am_ (Kd.R_below (by (with_reducible repeat (first | apply Kd.R_alloc | apply Kd.R_drewN | apply Kd.R_drew)); exact HO1089.out) hb)
      have n7_ := am_ (Kd.R_below (by (with_reducible repeat (first | apply Kd.R_alloc | apply Kd.R_drewN | apply Kd.R_drew)); exact HO1092.out) hb)
      have n8_ := am_ (blk_below (g := gb1055) (o := .cells #[.slice A0_0 l0_0.length c0_0, .slice A0_1 l0_1.length c0_1] 33 (0, 0)) (by (with_reducible repeat (first | refine blk_drewN ?_ _ | refine blk_drew ?_ | refine blk_alloc ?_ _)); exact BK1055.out) hb)
      have n9_ := am_ (blk_below (g := gb1070) (o := .cells #[.slice Ao22 t1063.length co22, .slice Ao25 t1066.length co25] 35 (0, 0)) (by (with_reducible repeat (first | refine blk_drewN ?_ _ | refine blk_drew ?_ | refine blk_alloc ?_ _)); exact BK1070.out) hb)
      have n10_ := am_ (blk_below (g := gb1077) (o := .cells #[.slice Ao29 t1071.length co29, .slice Ao33 t1074.length co33] 35 (0, 0)) (by (with_reducible repeat (first | refine blk_drewN ?_ _ | refine blk_drew ?_ | refine blk_alloc ?_ _)); exact BK1077.out) hb)
      have n11_ := am_ (blk_below (g := gb1085) (o := .cells #[.slice Ao36 t1078.length co36, .slice Ao41 t1081.length co41] 35 (0, 0)) (by (with_reducible repeat (first | refine blk_drewN ?_ _ | refine blk_drew ?_ | refine blk_alloc ?_ _)); exact BK1085.out) hb)
      have n12_ := am_ (below_step (by repeat (first | (with_reducible first | exact HB.out | apply below_alloc | apply pw_below_drewN | apply below_drew1 | refine below_set ?_ GE1055.out | refine below_set ?_ GE1070.out | refine below_set ?_ GE1077.out | refine below_set ?_ GE1085.out) | exact HB.out)) hb)
      clear HO_1071000
      clear HO_1071001
      clear HO_1078000
      clear HO_1078001
      clear HO_1086000
      clear HO_1086001
      clear HO1089
      clear HO1092
      clear BK1055
      clear BK1070
      clear BK1077
      clear BK1085
      clear HB
      have HO_1071000 := n0_
      have HO_1071001 := n1_
      have HO_1078000 := n2_
      have HO_1078001 := n3_
      have HO_1086000 := n4_
      have HO_1086001 := n5_
      have HO1089 := n6_
      have HO1092 := n7_
      have BK1055 := n8_
      have BK1070 := n9_
      have BK1077 := n10_
      have BK1085 := n11_
      have HB := n12_
      clear n0_ n1_ n2_ n3_ n4_ n5_ n6_ n7_ n8_ n9_ n10_ n11_ n12_
      (try clear hb)
      (try clear hb2)
      (try clear hk)
      (try clear hi)
      refine hK.out _ _ ⟨(blk_cell BK1077.out 0).trans rfl, (blk_cell BK1077.out 1).trans rfl, (blk_cell BK1055.out 0).trans rfl, (blk_cell BK1055.out 1).trans rfl⟩ (fun hHeld => ?_)
      clear hK K
      refine norm_ (a' := ?_) ?_ ?_
      rotate_left
      ·show Act.put _ (some 48) _ = _
       simp only [Act.put, List.setIfInBounds_toArray, List.set_cons_zero, List.set_cons_succ, i64_w, i32_w]
       rfl
      refine pure_ (i := 4) (N := some 49) (v := ?_) (a' := ?_) #[true, true, true, true, true] rfl rfl (by kernel_rfl) (fun _ _ _ h => h) (Or.inl ⟨by rfl, ?_⟩) ?_ ?_
      rotate_left
      ·intro w'
       go_simp
       with_reducible rfl
      rotate_left
      ·simp only [Act.put, List.setIfInBounds_toArray, List.set_cons_zero, List.set_cons_succ, i64_w, i32_w]
       rfl
      refine done_ (by kernel_rfl) ?_
      have hnb71 := NB1077_1055.out
      have hnc71 := NB1055_1077.out
      have hnb72 := NB1077_1070.out
      have hnc72 := NB1070_1077.out
      have hnb73 := NB1077_1085.out
      have hnc73 := NB1085_1077.out
      have hcz74_0 : w70.cell? ⟨gb1077, 0, none⟩ = some (.slice Ao29 t1071.length co29) := (blk_cell BK1077.out 0).trans rfl
      have hcz74_1 : w70.cell? ⟨gb1077, 1, none⟩ = some (.slice Ao33 t1074.length co33) := (blk_cell BK1077.out 1).trans rfl
      have hfz74_0 := blk_frozen BK1077.out 0
      have hfz74_1 := blk_frozen BK1077.out 1
      go_upto_region 14 with (first | ((with_reducible refine gate_callee (f := 27) rfl ?_); refine goesL_ (some 52) rfl rfl Try.func27 (by kernel_rfl) rfl #[.agg #[.slice Ao29 t1071.length co29, .slice Ao33 t1074.length co33], .int .i64 1] rfl (by (try simp only [List.map_toArray, List.map_cons, List.map_nil]); first | done | rfl | (simp only [List.length_drop, List.length_take]; rfl)) ?_; (with_reducible refine (laws_markLasso.calls kj11 (fun k_ => some k_ = (.slice Ao29 t1071.length co29 : Value).ownBlock) (.slice Ao29 t1071.length co29) t1071 (fun k_ => some k_ = (.slice Ao33 t1074.length co33 : Value).ownBlock) (.slice Ao33 t1074.length co33) t1074 1 t1094 t1095 t1096 w _ ?side1 ?side2 ?side3 ?side4 ?side5 A64.out).mono ?_); (case side1 => repeat (first | (with_reducible first | exact HB.out | apply below_alloc | apply pw_below_drewN | apply below_drew1 | refine below_set ?_ GE1055.out | refine below_set ?_ GE1070.out | refine below_set ?_ GE1077.out | refine below_set ?_ GE1085.out) | exact HB.out)); (case side2 => exact Kd.R_tight rfl HO_1078000.out); (case side3 => exact fun k_ e_ => (HO_1078000.out.1 k_ e_.symm).1.1.2.2.1); (case side4 => exact Kd.R_tight rfl HO_1078001.out); (case side5 => exact fun k_ e_ => (HO_1078001.out.1 k_ e_.symm).1.1.2.2.1); rintro e w75 ⟨rfl, hy0, hy1, hb, hkp⟩; refine ⟨_, rfl, ?_⟩; have n0_ := am_ (Kd.R_mono (ok' := fun k_ => some k_ ≠ (.slice Ao25 t1066.length co25 : Value).ownBlock ∧ some k_ ≠ (.slice Ao29 t1071.length co29 : Value).ownBlock ∧ some k_ ≠ (.slice Ao33 t1074.length co33 : Value).ownBlock ∧ some k_ ≠ (.slice Ao36 t1078.length co36 : Value).ownBlock ∧ some k_ ≠ (.slice Ao41 t1081.length co41 : Value).ownBlock ∧ some k_ ≠ (.slice Ao68 t1087.length co68 : Value).ownBlock ∧ some k_ ≠ (.slice Ao69 t1090.length co69 : Value).ownBlock) (Kd.R_keptB (HO_1071000.out) hkp (fun k_ hk_ hs_ => Or.elim hs_ (fun e_ => (hk_.1.1.2.1) e_) (fun e_ => (hk_.1.1.2.2.1) e_))) (fun k_ h => ⟨h.1.1.1.1, h.1.1.1.2.1, h.1.1.1.2.2.1, h.1.1.1.2.2.2.1, h.1.1.1.2.2.2.2, h.1.1.2, h.1.2⟩)); have n1_ := am_ (Kd.R_mono (ok' := fun k_ => some k_ ≠ (.slice Ao22 t1063.length co22 : Value).ownBlock ∧ some k_ ≠ (.slice Ao29 t1071.length co29 : Value).ownBlock ∧ some k_ ≠ (.slice Ao33 t1074.length co33 : Value).ownBlock ∧ some k_ ≠ (.slice Ao36 t1078.length co36 : Value).ownBlock ∧ some k_ ≠ (.slice Ao41 t1081.length co41 : Value).ownBlock ∧ some k_ ≠ (.slice Ao68 t1087.length co68 : Value).ownBlock ∧ some k_ ≠ (.slice Ao69 t1090.length co69 : Value).ownBlock) (Kd.R_keptB (HO_1071001.out) hkp (fun k_ hk_ hs_ => Or.elim hs_ (fun e_ => (hk_.1.1.2.1) e_) (fun e_ => (hk_.1.1.2.2.1) e_))) (fun k_ h => ⟨h.1.1.1.1, h.1.1.1.2.1, h.1.1.1.2.2.1, h.1.1.1.2.2.2.1, h.1.1.1.2.2.2.2, h.1.1.2, h.1.2⟩)); have n2_ := am_ (Kd.R_reok rfl hy0 (fun k_ e_ => HO_1078000.out.1 k_ e_)); have n3_ := am_ (Kd.R_reok rfl hy1 (fun k_ e_ => HO_1078001.out.1 k_ e_)); have n4_ := am_ (Kd.R_mono (ok' := fun k_ => some k_ ≠ (.slice Ao22 t1063.length co22 : Value).ownBlock ∧ some k_ ≠ (.slice Ao25 t1066.length co25 : Value).ownBlock ∧ some k_ ≠ (.slice Ao29 t1071.length co29 : Value).ownBlock ∧ some k_ ≠ (.slice Ao33 t1074.length co33 : Value).ownBlock ∧ some k_ ≠ (.slice Ao41 t1081.length co41 : Value).ownBlock ∧ some k_ ≠ (.slice Ao68 t1087.length co68 : Value).ownBlock ∧ some k_ ≠ (.slice Ao69 t1090.length co69 : Value).ownBlock) (Kd.R_keptB (HO_1086000.out) hkp (fun k_ hk_ hs_ => Or.elim hs_ (fun e_ => (hk_.1.1.2.2.1) e_) (fun e_ => (hk_.1.1.2.2.2.1) e_))) (fun k_ h => ⟨h.1.1.1.1, h.1.1.1.2.1, h.1.1.1.2.2.1, h.1.1.1.2.2.2.1, h.1.1.1.2.2.2.2, h.1.1.2, h.1.2⟩)); have n5_ := am_ (Kd.R_mono (ok' := fun k_ => some k_ ≠ (.slice Ao22 t1063.length co22 : Value).ownBlock ∧ some k_ ≠ (.slice Ao25 t1066.length co25 : Value).ownBlock ∧ some k_ ≠ (.slice Ao29 t1071.length co29 : Value).ownBlock ∧ some k_ ≠ (.slice Ao33 t1074.length co33 : Value).ownBlock ∧ some k_ ≠ (.slice Ao36 t1078.length co36 : Value).ownBlock ∧ some k_ ≠ (.slice Ao68 t1087.length co68 : Value).ownBlock ∧ some k_ ≠ (.slice Ao69 t1090.length co69 : Value).ownBlock) (Kd.R_keptB (HO_1086001.out) hkp (fun k_ hk_ hs_ => Or.elim hs_ (fun e_ => (hk_.1.1.2.2.1) e_) (fun e_ => (hk_.1.1.2.2.2.1) e_))) (fun k_ h => ⟨h.1.1.1.1, h.1.1.1.2.1, h.1.1.1.2.2.1, h.1.1.1.2.2.2.1, h.1.1.1.2.2.2.2, h.1.1.2, h.1.2⟩)); have n6_ := am_ (blk_kept (by (with_reducible repeat (first | refine blk_drewN ?_ _ | refine blk_drew ?_ | refine blk_alloc ?_ _)); exact BK1055.out) hkp (fun hs_ => Or.elim hs_ (fun e_ => (fun e_ => (Kd.R_ne HO_1078000.out BK1055.out (by decide)) e_) e_) (fun e_ => (fun e_ => (Kd.R_ne HO_1078001.out BK1055.out (by decide)) e_) e_))); have n7_ := am_ (blk_kept (by (with_reducible repeat (first | refine blk_drewN ?_ _ | refine blk_drew ?_ | refine blk_alloc ?_ _)); exact BK1070.out) hkp (fun hs_ => Or.elim hs_ (fun e_ => (fun e_ => (Kd.R_ne HO_1078000.out BK1070.out (by decide)) e_) e_) (fun e_ => (fun e_ => (Kd.R_ne HO_1078001.out BK1070.out (by decide)) e_) e_))); have n8_ := am_ (blk_kept (by (with_reducible repeat (first | refine blk_drewN ?_ _ | refine blk_drew ?_ | refine blk_alloc ?_ _)); exact BK1077.out) hkp (fun hs_ => Or.elim hs_ (fun e_ => (fun e_ => (Kd.R_ne HO_1078000.out BK1077.out (by decide)) e_) e_) (fun e_ => (fun e_ => (Kd.R_ne HO_1078001.out BK1077.out (by decide)) e_) e_))); have n9_ := am_ (blk_kept (by (with_reducible repeat (first | refine blk_drewN ?_ _ | refine blk_drew ?_ | refine blk_alloc ?_ _)); exact BK1085.out) hkp (fun hs_ => Or.elim hs_ (fun e_ => (fun e_ => (Kd.R_ne HO_1078000.out BK1085.out (by decide)) e_) e_) (fun e_ => (fun e_ => (Kd.R_ne HO_1078001.out BK1085.out (by decide)) e_) e_))); have n10_ := am_ (Kd.R_mono (ok' := fun k_ => some k_ ≠ (.slice Ao22 t1063.length co22 : Value).ownBlock ∧ some k_ ≠ (.slice Ao25 t1066.length co25 : Value).ownBlock ∧ some k_ ≠ (.slice Ao29 t1071.length co29 : Value).ownBlock ∧ some k_ ≠ (.slice Ao33 t1074.length co33 : Value).ownBlock ∧ some k_ ≠ (.slice Ao36 t1078.length co36 : Value).ownBlock ∧ some k_ ≠ (.slice Ao41 t1081.length co41 : Value).ownBlock ∧ some k_ ≠ (.slice Ao69 t1090.length co69 : Value).ownBlock) (Kd.R_keptB (HO1089.out) hkp (fun k_ hk_ hs_ => Or.elim hs_ (fun e_ => (hk_.1.1.1.2) e_) (fun e_ => (hk_.1.1.2) e_))) (fun k_ h => ⟨h.1.1.1.1.1.1.2, h.1.1.1.1.1.2, h.1.1.1.1.2, h.1.1.1.2, h.1.1.2, h.1.2, h.1.1.1.1.1.1.1⟩)); have n11_ := am_ (Kd.R_mono (ok' := fun k_ => some k_ ≠ (.slice Ao22 t1063.length co22 : Value).ownBlock ∧ some k_ ≠ (.slice Ao25 t1066.length co25 : Value).ownBlock ∧ some k_ ≠ (.slice Ao29 t1071.length co29 : Value).ownBlock ∧ some k_ ≠ (.slice Ao33 t1074.length co33 : Value).ownBlock ∧ some k_ ≠ (.slice Ao36 t1078.length co36 : Value).ownBlock ∧ some k_ ≠ (.slice Ao41 t1081.length co41 : Value).ownBlock ∧ some k_ ≠ (.slice Ao68 t1087.length co68 : Value).ownBlock) (Kd.R_keptB (HO1092.out) hkp (fun k_ hk_ hs_ => Or.elim hs_ (fun e_ => (hk_.1.1.1.2) e_) (fun e_ => (hk_.1.1.2) e_))) (fun k_ h => ⟨h.1.1.1.1.1.1.2, h.1.1.1.1.1.2, h.1.1.1.1.2, h.1.1.1.2, h.1.1.2, h.1.2, h.1.1.1.1.1.1.1⟩)); have n12_ := am_ (hb); clear HO_1071000; clear HO_1071001; clear HO_1078000; clear HO_1078001; clear HO_1086000; clear HO_1086001; clear BK1055; clear BK1070; clear BK1077; clear BK1085; clear HO1089; clear HO1092; clear HB; have HO_1071000 := n0_; have HO_1071001 := n1_; have HO_1078000 := n2_; have HO_1078001 := n3_; have HO_1086000 := n4_; have HO_1086001 := n5_; have BK1055 := n6_; have BK1070 := n7_; have BK1077 := n8_; have BK1085 := n9_; have HO1089 := n10_; have HO1092 := n11_; have HB := n12_; clear n0_ n1_ n2_ n3_ n4_ n5_ n6_ n7_ n8_ n9_ n10_ n11_ n12_; (try clear hb); (try clear hkp); (try clear hy0); (try clear hy1)))
      (try simp only [Act.put, List.setIfInBounds_toArray, List.set_cons_zero, List.set_cons_succ])
      go_cut [65] (fun v65 wc => ∃ (kq : Nat) (x65_64 : Bool), v65 = .bool x65_64 ∧ Aside0 (laws_FnExactSuffixOf.j1 kq a1 t1069 x65_64 l0_0 l0_1 t1063 t1066 t1078 t1081 = some r) ∧ Aside0 (kq ≤ kj11) ∧ Aside0 (Kd.R (Kd.int .i64) 3 wc w.heap.size (fun k_ => some k_ ≠ ((.slice Ao25 t1066.length co25) : Value).ownBlock ∧ some k_ ≠ ((.slice Ao29 t1071.length co29) : Value).ownBlock ∧ some k_ ≠ ((.slice Ao33 t1074.length co33) : Value).ownBlock ∧ some k_ ≠ ((.slice Ao36 t1078.length co36) : Value).ownBlock ∧ some k_ ≠ ((.slice Ao41 t1081.length co41) : Value).ownBlock) (.slice Ao22 t1063.length co22) t1063) ∧ Aside0 (Kd.R (Kd.int .i64) 3 wc w.heap.size (fun k_ => some k_ ≠ ((.slice Ao22 t1063.length co22) : Value).ownBlock ∧ some k_ ≠ ((.slice Ao29 t1071.length co29) : Value).ownBlock ∧ some k_ ≠ ((.slice Ao33 t1074.length co33) : Value).ownBlock ∧ some k_ ≠ ((.slice Ao36 t1078.length co36) : Value).ownBlock ∧ some k_ ≠ ((.slice Ao41 t1081.length co41) : Value).ownBlock) (.slice Ao25 t1066.length co25) t1066) ∧ Aside0 (Kd.R (Kd.int .i64) 3 wc w.heap.size (fun k_ => some k_ ≠ ((.slice Ao22 t1063.length co22) : Value).ownBlock ∧ some k_ ≠ ((.slice Ao25 t1066.length co25) : Value).ownBlock ∧ some k_ ≠ ((.slice Ao33 t1074.length co33) : Value).ownBlock ∧ some k_ ≠ ((.slice Ao36 t1078.length co36) : Value).ownBlock ∧ some k_ ≠ ((.slice Ao41 t1081.length co41) : Value).ownBlock) (.slice Ao29 t1071.length co29) t1095) ∧ Aside0 (Kd.R (Kd.int .i64) 3 wc w.heap.size (fun k_ => some k_ ≠ ((.slice Ao22 t1063.length co22) : Value).ownBlock ∧ some k_ ≠ ((.slice Ao25 t1066.length co25) : Value).ownBlock ∧ some k_ ≠ ((.slice Ao29 t1071.length co29) : Value).ownBlock ∧ some k_ ≠ ((.slice Ao36 t1078.length co36) : Value).ownBlock ∧ some k_ ≠ ((.slice Ao41 t1081.length co41) : Value).ownBlock) (.slice Ao33 t1074.length co33) t1096) ∧ Aside0 (Kd.R (Kd.int .i64) 3 wc w.heap.size (fun k_ => some k_ ≠ ((.slice Ao22 t1063.length co22) : Value).ownBlock ∧ some k_ ≠ ((.slice Ao25 t1066.length co25) : Value).ownBlock ∧ some k_ ≠ ((.slice Ao29 t1071.length co29) : Value).ownBlock ∧ some k_ ≠ ((.slice Ao33 t1074.length co33) : Value).ownBlock ∧ some k_ ≠ ((.slice Ao41 t1081.length co41) : Value).ownBlock) (.slice Ao36 t1078.length co36) t1078) ∧ Aside0 (Kd.R (Kd.int .i64) 3 wc w.heap.size (fun k_ => some k_ ≠ ((.slice Ao22 t1063.length co22) : Value).ownBlock ∧ some k_ ≠ ((.slice Ao25 t1066.length co25) : Value).ownBlock ∧ some k_ ≠ ((.slice Ao29 t1071.length co29) : Value).ownBlock ∧ some k_ ≠ ((.slice Ao33 t1074.length co33) : Value).ownBlock ∧ some k_ ≠ ((.slice Ao36 t1078.length co36) : Value).ownBlock) (.slice Ao41 t1081.length co41) t1081) ∧ Aside0 (wc.heap[gb1055]? = some (.cells #[(.slice A0_0 l0_0.length c0_0), (.slice A0_1 l0_1.length c0_1)] 33 (0, 0))) ∧ Aside0 (wc.heap[gb1070]? = some (.cells #[(.slice Ao22 t1063.length co22), (.slice Ao25 t1066.length co25)] 35 (0, 0))) ∧ Aside0 (wc.heap[gb1077]? = some (.cells #[(.slice Ao29 t1071.length co29), (.slice Ao33 t1074.length co33)] 35 (0, 0))) ∧ Aside0 (wc.heap[gb1085]? = some (.cells #[(.slice Ao36 t1078.length co36), (.slice Ao41 t1081.length co41)] 35 (0, 0))) ∧ Aside0 (Below w.heap.size w wc))
      case first =>
       have H := HC65.out
       clear HC65
       by_cases c76 : t1094 < 0
       ·rw [if_pos c76] at H
        have c76b0 : decide (t1094 < 0) = true := decide_eq_true c76
        clear c76
        (first | rw [c76b0] | (simp only [i64_w, i32_w]; rw [c76b0]) | skip)
        have H' := am_ H
        clear H
        go_wp2
        go_meet
        case rel => exact ⟨_, (true), (by first | rfl | (simp; done) | (simp [*]; done)), H', ⟨by have := HJ11.out; first | omega | exact Nat.le_refl _⟩, ⟨by (with_reducible repeat (first | apply Kd.R_alloc | apply Kd.R_drewN | apply Kd.R_drew)); exact Kd.R_mono HO_1071000.out (fun _ h => ⟨h.1, h.2.1, h.2.2.1, h.2.2.2.1, h.2.2.2.2.1⟩)⟩, ⟨by (with_reducible repeat (first | apply Kd.R_alloc | apply Kd.R_drewN | apply Kd.R_drew)); exact Kd.R_mono HO_1071001.out (fun _ h => ⟨h.1, h.2.1, h.2.2.1, h.2.2.2.1, h.2.2.2.2.1⟩)⟩, ⟨by (with_reducible repeat (first | apply Kd.R_alloc | apply Kd.R_drewN | apply Kd.R_drew)); exact Kd.R_mono HO_1078000.out (fun _ h => ⟨h.1.1.1, h.1.1.2.1, h.1.1.2.2.1, h.1.1.2.2.2.1, h.1.1.2.2.2.2⟩)⟩, ⟨by (with_reducible repeat (first | apply Kd.R_alloc | apply Kd.R_drewN | apply Kd.R_drew)); exact Kd.R_mono HO_1078001.out (fun _ h => ⟨h.1.1.1, h.1.1.2.1, h.1.1.2.2.1, h.1.1.2.2.2.1, h.1.1.2.2.2.2⟩)⟩, ⟨by (with_reducible repeat (first | apply Kd.R_alloc | apply Kd.R_drewN | apply Kd.R_drew)); exact Kd.R_mono HO_1086000.out (fun _ h => ⟨h.1, h.2.1, h.2.2.1, h.2.2.2.1, h.2.2.2.2.1⟩)⟩, ⟨by (with_reducible repeat (first | apply Kd.R_alloc | apply Kd.R_drewN | apply Kd.R_drew)); exact Kd.R_mono HO_1086001.out (fun _ h => ⟨h.1, h.2.1, h.2.2.1, h.2.2.2.1, h.2.2.2.2.1⟩)⟩, ⟨by (with_reducible repeat (first | refine blk_drewN ?_ _ | refine blk_drew ?_ | refine blk_alloc ?_ _)); exact BK1055.out⟩, ⟨by (with_reducible repeat (first | refine blk_drewN ?_ _ | refine blk_drew ?_ | refine blk_alloc ?_ _)); exact BK1070.out⟩, ⟨by (with_reducible repeat (first | refine blk_drewN ?_ _ | refine blk_drew ?_ | refine blk_alloc ?_ _)); exact BK1077.out⟩, ⟨by (with_reducible repeat (first | refine blk_drewN ?_ _ | refine blk_drew ?_ | refine blk_alloc ?_ _)); exact BK1085.out⟩, ⟨by repeat (first | (with_reducible first | exact HB.out | apply below_alloc | apply pw_below_drewN | apply below_drew1 | refine below_set ?_ GE1055.out | refine below_set ?_ GE1070.out | refine below_set ?_ GE1077.out | refine below_set ?_ GE1085.out) | exact HB.out)⟩⟩
       ·rw [if_neg c76] at H
        have c76b0 : decide (t1094 < 0) = false := decide_eq_false c76
        clear c76
        (first | rw [c76b0] | (simp only [i64_w, i32_w]; rw [c76b0]) | skip)
        replace H := Option.bind_eq_some_iff.mp H
        obtain ⟨t1097, A770, H⟩ := H
        replace H : (if t1097 = true then (laws_FnExactSuffixOf.j1 kj11 a1 t1069 (t1084 != t1069) l0_0 l0_1 t1063 t1066 t1078 t1081) else (laws_FnExactSuffixOf.j1 kj11 a1 t1069 true l0_0 l0_1 t1063 t1066 t1078 t1081)) = some r := H
        have A77 := am_ A770
        clear A770
        by_cases c78 : t1097 = true
        ·subst c78
         have H1 : (laws_FnExactSuffixOf.j1 kj11 a1 t1069 (t1084 != t1069) l0_0 l0_1 t1063 t1066 t1078 t1081) = some r := by rw [if_pos rfl] at H; exact H
         clear H
         have H := H1
         clear H1
         have H' := am_ H
         clear H
         have hnb79 := NB1085_1055.out
         have hnc79 := NB1055_1085.out
         have hnb80 := NB1085_1070.out
         have hnc80 := NB1070_1085.out
         have hnb81 := NB1085_1077.out
         have hnc81 := NB1077_1085.out
         have hcz82_0 : w75.cell? ⟨gb1085, 0, none⟩ = some (.slice Ao36 t1078.length co36) := (blk_cell BK1085.out 0).trans rfl
         have hcz82_1 : w75.cell? ⟨gb1085, 1, none⟩ = some (.slice Ao41 t1081.length co41) := (blk_cell BK1085.out 1).trans rfl
         have hfz82_0 := blk_frozen BK1085.out 0
         have hfz82_1 := blk_frozen BK1085.out 1
         have hnb83 := NB1070_1055.out
         have hnc83 := NB1055_1070.out
         have hnb84 := NB1070_1077.out
         have hnc84 := NB1077_1070.out
         have hcz85_0 : w75.cell? ⟨gb1070, 0, none⟩ = some (.slice Ao22 t1063.length co22) := (blk_cell BK1070.out 0).trans rfl
         have hcz85_1 : w75.cell? ⟨gb1070, 1, none⟩ = some (.slice Ao25 t1066.length co25) := (blk_cell BK1070.out 1).trans rfl
         have hfz85_0 := blk_frozen BK1070.out 0
         have hfz85_1 := blk_frozen BK1070.out 1
         go_wp2_with (first | (go_at_call 26; (with_reducible refine (laws_eqLasso.calls kj11 _ _ t1078 _ _ t1081 _ _ t1063 _ _ t1066 true _ ?side1 ?side2 ?side3 ?side4 ?side5 ?side6 ?side7 ?side8 A77.out).mono ?_); (case side1 => repeat (first | exact (Kd.R_reads' HO_1086000.out).2.2 | (with_reducible first | refine Kd.C_alloc ?_ _ | refine Kd.C_drewN ?_ _ | refine Kd.C_drew ?_))); (case side2 => exact (Kd.R_reads' HO_1086000.out).2.1); (case side3 => repeat (first | exact (Kd.R_reads' HO_1086001.out).2.2 | (with_reducible first | refine Kd.C_alloc ?_ _ | refine Kd.C_drewN ?_ _ | refine Kd.C_drew ?_))); (case side4 => exact (Kd.R_reads' HO_1086001.out).2.1); (case side5 => repeat (first | exact (Kd.R_reads' HO_1071000.out).2.2 | (with_reducible first | refine Kd.C_alloc ?_ _ | refine Kd.C_drewN ?_ _ | refine Kd.C_drew ?_))); (case side6 => exact (Kd.R_reads' HO_1071000.out).2.1); (case side7 => repeat (first | exact (Kd.R_reads' HO_1071001.out).2.2 | (with_reducible first | refine Kd.C_alloc ?_ _ | refine Kd.C_drewN ?_ _ | refine Kd.C_drew ?_))); (case side8 => exact (Kd.R_reads' HO_1071001.out).2.1); rintro e w86 ⟨rfl, hb⟩; have n0_ := am_ (Kd.R_below (by (with_reducible repeat (first | apply Kd.R_alloc | apply Kd.R_drewN | apply Kd.R_drew)); exact HO_1071000.out) hb); have n1_ := am_ (Kd.R_below (by (with_reducible repeat (first | apply Kd.R_alloc | apply Kd.R_drewN | apply Kd.R_drew)); exact HO_1071001.out) hb); have n2_ := am_ (Kd.R_below (by (with_reducible repeat (first | apply Kd.R_alloc | apply Kd.R_drewN | apply Kd.R_drew)); exact HO_1078000.out) hb); have n3_ := am_ (Kd.R_below (by (with_reducible repeat (first | apply Kd.R_alloc | apply Kd.R_drewN | apply Kd.R_drew)); exact HO_1078001.out) hb); have n4_ := am_ (Kd.R_below (by (with_reducible repeat (first | apply Kd.R_alloc | apply Kd.R_drewN | apply Kd.R_drew)); exact HO_1086000.out) hb); have n5_ := am_ (Kd.R_below (by (with_reducible repeat (first | apply Kd.R_alloc | apply Kd.R_drewN | apply Kd.R_drew)); exact HO_1086001.out) hb); have n6_ := am_ (Kd.R_below (by (with_reducible repeat (first | apply Kd.R_alloc | apply Kd.R_drewN | apply Kd.R_drew)); exact HO1089.out) hb); have n7_ := am_ (Kd.R_below (by (with_reducible repeat (first | apply Kd.R_alloc | apply Kd.R_drewN | apply Kd.R_drew)); exact HO1092.out) hb); have n8_ := am_ (blk_below (g := gb1055) (o := .cells #[.slice A0_0 l0_0.length c0_0, .slice A0_1 l0_1.length c0_1] 33 (0, 0)) (by (with_reducible repeat (first | refine blk_drewN ?_ _ | refine blk_drew ?_ | refine blk_alloc ?_ _)); exact BK1055.out) hb); have n9_ := am_ (blk_below (g := gb1070) (o := .cells #[.slice Ao22 t1063.length co22, .slice Ao25 t1066.length co25] 35 (0, 0)) (by (with_reducible repeat (first | refine blk_drewN ?_ _ | refine blk_drew ?_ | refine blk_alloc ?_ _)); exact BK1070.out) hb); have n10_ := am_ (blk_below (g := gb1077) (o := .cells #[.slice Ao29 t1071.length co29, .slice Ao33 t1074.length co33] 35 (0, 0)) (by (with_reducible repeat (first | refine blk_drewN ?_ _ | refine blk_drew ?_ | refine blk_alloc ?_ _)); exact BK1077.out) hb); have n11_ := am_ (blk_below (g := gb1085) (o := .cells #[.slice Ao36 t1078.length co36, .slice Ao41 t1081.length co41] 35 (0, 0)) (by (with_reducible repeat (first | refine blk_drewN ?_ _ | refine blk_drew ?_ | refine blk_alloc ?_ _)); exact BK1085.out) hb); have n12_ := am_ (below_step (by repeat (first | (with_reducible first | exact HB.out | apply below_alloc | apply pw_below_drewN | apply below_drew1 | refine below_set ?_ GE1055.out | refine below_set ?_ GE1070.out | refine below_set ?_ GE1077.out | refine below_set ?_ GE1085.out) | exact HB.out)) hb); clear HO_1071000; clear HO_1071001; clear HO_1078000; clear HO_1078001; clear HO_1086000; clear HO_1086001; clear HO1089; clear HO1092; clear BK1055; clear BK1070; clear BK1077; clear BK1085; clear HB; have HO_1071000 := n0_; have HO_1071001 := n1_; have HO_1078000 := n2_; have HO_1078001 := n3_; have HO_1086000 := n4_; have HO_1086001 := n5_; have HO1089 := n6_; have HO1092 := n7_; have BK1055 := n8_; have BK1070 := n9_; have BK1077 := n10_; have BK1085 := n11_; have HB := n12_; clear n0_ n1_ n2_ n3_ n4_ n5_ n6_ n7_ n8_ n9_ n10_ n11_ n12_; (try clear hb); (try clear hb2); (try clear hk); (try clear hi)))
         go_meet
         case rel => exact ⟨_, ((t1084 != t1069)), (by first | rfl | (simp; done) | (simp [*]; done)), H', ⟨by have := HJ11.out; first | omega | exact Nat.le_refl _⟩, ⟨by (with_reducible repeat (first | apply Kd.R_alloc | apply Kd.R_drewN | apply Kd.R_drew)); exact Kd.R_mono HO_1071000.out (fun _ h => ⟨h.1, h.2.1, h.2.2.1, h.2.2.2.1, h.2.2.2.2.1⟩)⟩, ⟨by (with_reducible repeat (first | apply Kd.R_alloc | apply Kd.R_drewN | apply Kd.R_drew)); exact Kd.R_mono HO_1071001.out (fun _ h => ⟨h.1, h.2.1, h.2.2.1, h.2.2.2.1, h.2.2.2.2.1⟩)⟩, ⟨by (with_reducible repeat (first | apply Kd.R_alloc | apply Kd.R_drewN | apply Kd.R_drew)); exact Kd.R_mono HO_1078000.out (fun _ h => ⟨h.1.1.1, h.1.1.2.1, h.1.1.2.2.1, h.1.1.2.2.2.1, h.1.1.2.2.2.2⟩)⟩, ⟨by (with_reducible repeat (first | apply Kd.R_alloc | apply Kd.R_drewN | apply Kd.R_drew)); exact Kd.R_mono HO_1078001.out (fun _ h => ⟨h.1.1.1, h.1.1.2.1, h.1.1.2.2.1, h.1.1.2.2.2.1, h.1.1.2.2.2.2⟩)⟩, ⟨by (with_reducible repeat (first | apply Kd.R_alloc | apply Kd.R_drewN | apply Kd.R_drew)); exact Kd.R_mono HO_1086000.out (fun _ h => ⟨h.1, h.2.1, h.2.2.1, h.2.2.2.1, h.2.2.2.2.1⟩)⟩, ⟨by (with_reducible repeat (first | apply Kd.R_alloc | apply Kd.R_drewN | apply Kd.R_drew)); exact Kd.R_mono HO_1086001.out (fun _ h => ⟨h.1, h.2.1, h.2.2.1, h.2.2.2.1, h.2.2.2.2.1⟩)⟩, ⟨by (with_reducible repeat (first | refine blk_drewN ?_ _ | refine blk_drew ?_ | refine blk_alloc ?_ _)); exact BK1055.out⟩, ⟨by (with_reducible repeat (first | refine blk_drewN ?_ _ | refine blk_drew ?_ | refine blk_alloc ?_ _)); exact BK1070.out⟩, ⟨by (with_reducible repeat (first | refine blk_drewN ?_ _ | refine blk_drew ?_ | refine blk_alloc ?_ _)); exact BK1077.out⟩, ⟨by (with_reducible repeat (first | refine blk_drewN ?_ _ | refine blk_drew ?_ | refine blk_alloc ?_ _)); exact BK1085.out⟩, ⟨by repeat (first | (with_reducible first | exact HB.out | apply below_alloc | apply pw_below_drewN | apply below_drew1 | refine below_set ?_ GE1055.out | refine below_set ?_ GE1070.out | refine below_set ?_ GE1077.out | refine below_set ?_ GE1085.out) | exact HB.out)⟩⟩
        ·replace c78 := Bool.eq_false_iff.mpr c78
         subst c78
         have H1 : (laws_FnExactSuffixOf.j1 kj11 a1 t1069 true l0_0 l0_1 t1063 t1066 t1078 t1081) = some r := by rw [if_neg (show ¬ (false = true) by decide)] at H; exact H
         clear H
         have H := H1
         clear H1
         have H' := am_ H
         clear H
         have hnb87 := NB1085_1055.out
         have hnc87 := NB1055_1085.out
         have hnb88 := NB1085_1070.out
         have hnc88 := NB1070_1085.out
         have hnb89 := NB1085_1077.out
         have hnc89 := NB1077_1085.out
         have hcz90_0 : w75.cell? ⟨gb1085, 0, none⟩ = some (.slice Ao36 t1078.length co36) := (blk_cell BK1085.out 0).trans rfl
         have hcz90_1 : w75.cell? ⟨gb1085, 1, none⟩ = some (.slice Ao41 t1081.length co41) := (blk_cell BK1085.out 1).trans rfl
         have hfz90_0 := blk_frozen BK1085.out 0
         have hfz90_1 := blk_frozen BK1085.out 1
         have hnb91 := NB1070_1055.out
         have hnc91 := NB1055_1070.out
         have hnb92 := NB1070_1077.out
         have hnc92 := NB1077_1070.out
         have hcz93_0 : w75.cell? ⟨gb1070, 0, none⟩ = some (.slice Ao22 t1063.length co22) := (blk_cell BK1070.out 0).trans rfl
         have hcz93_1 : w75.cell? ⟨gb1070, 1, none⟩ = some (.slice Ao25 t1066.length co25) := (blk_cell BK1070.out 1).trans rfl
         have hfz93_0 := blk_frozen BK1070.out 0
         have hfz93_1 := blk_frozen BK1070.out 1
         go_wp2_with (first | (go_at_call 26; (with_reducible refine (laws_eqLasso.calls kj11 _ _ t1078 _ _ t1081 _ _ t1063 _ _ t1066 false _ ?side1 ?side2 ?side3 ?side4 ?side5 ?side6 ?side7 ?side8 A77.out).mono ?_); (case side1 => repeat (first | exact (Kd.R_reads' HO_1086000.out).2.2 | (with_reducible first | refine Kd.C_alloc ?_ _ | refine Kd.C_drewN ?_ _ | refine Kd.C_drew ?_))); (case side2 => exact (Kd.R_reads' HO_1086000.out).2.1); (case side3 => repeat (first | exact (Kd.R_reads' HO_1086001.out).2.2 | (with_reducible first | refine Kd.C_alloc ?_ _ | refine Kd.C_drewN ?_ _ | refine Kd.C_drew ?_))); (case side4 => exact (Kd.R_reads' HO_1086001.out).2.1); (case side5 => repeat (first | exact (Kd.R_reads' HO_1071000.out).2.2 | (with_reducible first | refine Kd.C_alloc ?_ _ | refine Kd.C_drewN ?_ _ | refine Kd.C_drew ?_))); (case side6 => exact (Kd.R_reads' HO_1071000.out).2.1); (case side7 => repeat (first | exact (Kd.R_reads' HO_1071001.out).2.2 | (with_reducible first | refine Kd.C_alloc ?_ _ | refine Kd.C_drewN ?_ _ | refine Kd.C_drew ?_))); (case side8 => exact (Kd.R_reads' HO_1071001.out).2.1); rintro e w94 ⟨rfl, hb⟩; have n0_ := am_ (Kd.R_below (by (with_reducible repeat (first | apply Kd.R_alloc | apply Kd.R_drewN | apply Kd.R_drew)); exact HO_1071000.out) hb); have n1_ := am_ (Kd.R_below (by (with_reducible repeat (first | apply Kd.R_alloc | apply Kd.R_drewN | apply Kd.R_drew)); exact HO_1071001.out) hb); have n2_ := am_ (Kd.R_below (by (with_reducible repeat (first | apply Kd.R_alloc | apply Kd.R_drewN | apply Kd.R_drew)); exact HO_1078000.out) hb); have n3_ := am_ (Kd.R_below (by (with_reducible repeat (first | apply Kd.R_alloc | apply Kd.R_drewN | apply Kd.R_drew)); exact HO_1078001.out) hb); have n4_ := am_ (Kd.R_below (by (with_reducible repeat (first | apply Kd.R_alloc | apply Kd.R_drewN | apply Kd.R_drew)); exact HO_1086000.out) hb); have n5_ := am_ (Kd.R_below (by (with_reducible repeat (first | apply Kd.R_alloc | apply Kd.R_drewN | apply Kd.R_drew)); exact HO_1086001.out) hb); have n6_ := am_ (Kd.R_below (by (with_reducible repeat (first | apply Kd.R_alloc | apply Kd.R_drewN | apply Kd.R_drew)); exact HO1089.out) hb); have n7_ := am_ (Kd.R_below (by (with_reducible repeat (first | apply Kd.R_alloc | apply Kd.R_drewN | apply Kd.R_drew)); exact HO1092.out) hb); have n8_ := am_ (blk_below (g := gb1055) (o := .cells #[.slice A0_0 l0_0.length c0_0, .slice A0_1 l0_1.length c0_1] 33 (0, 0)) (by (with_reducible repeat (first | refine blk_drewN ?_ _ | refine blk_drew ?_ | refine blk_alloc ?_ _)); exact BK1055.out) hb); have n9_ := am_ (blk_below (g := gb1070) (o := .cells #[.slice Ao22 t1063.length co22, .slice Ao25 t1066.length co25] 35 (0, 0)) (by (with_reducible repeat (first | refine blk_drewN ?_ _ | refine blk_drew ?_ | refine blk_alloc ?_ _)); exact BK1070.out) hb); have n10_ := am_ (blk_below (g := gb1077) (o := .cells #[.slice Ao29 t1071.length co29, .slice Ao33 t1074.length co33] 35 (0, 0)) (by (with_reducible repeat (first | refine blk_drewN ?_ _ | refine blk_drew ?_ | refine blk_alloc ?_ _)); exact BK1077.out) hb); have n11_ := am_ (blk_below (g := gb1085) (o := .cells #[.slice Ao36 t1078.length co36, .slice Ao41 t1081.length co41] 35 (0, 0)) (by (with_reducible repeat (first | refine blk_drewN ?_ _ | refine blk_drew ?_ | refine blk_alloc ?_ _)); exact BK1085.out) hb); have n12_ := am_ (below_step (by repeat (first | (with_reducible first | exact HB.out | apply below_alloc | apply pw_below_drewN | apply below_drew1 | refine below_set ?_ GE1055.out | refine below_set ?_ GE1070.out | refine below_set ?_ GE1077.out | refine below_set ?_ GE1085.out) | exact HB.out)) hb); clear HO_1071000; clear HO_1071001; clear HO_1078000; clear HO_1078001; clear HO_1086000; clear HO_1086001; clear HO1089; clear HO1092; clear BK1055; clear BK1070; clear BK1077; clear BK1085; clear HB; have HO_1071000 := n0_; have HO_1071001 := n1_; have HO_1078000 := n2_; have HO_1078001 := n3_; have HO_1086000 := n4_; have HO_1086001 := n5_; have HO1089 := n6_; have HO1092 := n7_; have BK1055 := n8_; have BK1070 := n9_; have BK1077 := n10_; have BK1085 := n11_; have HB := n12_; clear n0_ n1_ n2_ n3_ n4_ n5_ n6_ n7_ n8_ n9_ n10_ n11_ n12_; (try clear hb); (try clear hb2); (try clear hk); (try clear hi)))
         go_meet
         case rel => exact ⟨_, (true), (by first | rfl | (simp; done) | (simp [*]; done)), H', ⟨by have := HJ11.out; first | omega | exact Nat.le_refl _⟩, ⟨by (with_reducible repeat (first | apply Kd.R_alloc | apply Kd.R_drewN | apply Kd.R_drew)); exact Kd.R_mono HO_1071000.out (fun _ h => ⟨h.1, h.2.1, h.2.2.1, h.2.2.2.1, h.2.2.2.2.1⟩)⟩, ⟨by (with_reducible repeat (first | apply Kd.R_alloc | apply Kd.R_drewN | apply Kd.R_drew)); exact Kd.R_mono HO_1071001.out (fun _ h => ⟨h.1, h.2.1, h.2.2.1, h.2.2.2.1, h.2.2.2.2.1⟩)⟩, ⟨by (with_reducible repeat (first | apply Kd.R_alloc | apply Kd.R_drewN | apply Kd.R_drew)); exact Kd.R_mono HO_1078000.out (fun _ h => ⟨h.1.1.1, h.1.1.2.1, h.1.1.2.2.1, h.1.1.2.2.2.1, h.1.1.2.2.2.2⟩)⟩, ⟨by (with_reducible repeat (first | apply Kd.R_alloc | apply Kd.R_drewN | apply Kd.R_drew)); exact Kd.R_mono HO_1078001.out (fun _ h => ⟨h.1.1.1, h.1.1.2.1, h.1.1.2.2.1, h.1.1.2.2.2.1, h.1.1.2.2.2.2⟩)⟩, ⟨by (with_reducible repeat (first | apply Kd.R_alloc | apply Kd.R_drewN | apply Kd.R_drew)); exact Kd.R_mono HO_1086000.out (fun _ h => ⟨h.1, h.2.1, h.2.2.1, h.2.2.2.1, h.2.2.2.2.1⟩)⟩, ⟨by (with_reducible repeat (first | apply Kd.R_alloc | apply Kd.R_drewN | apply Kd.R_drew)); exact Kd.R_mono HO_1086001.out (fun _ h => ⟨h.1, h.2.1, h.2.2.1, h.2.2.2.1, h.2.2.2.2.1⟩)⟩, ⟨by (with_reducible repeat (first | refine blk_drewN ?_ _ | refine blk_drew ?_ | refine blk_alloc ?_ _)); exact BK1055.out⟩, ⟨by (with_reducible repeat (first | refine blk_drewN ?_ _ | refine blk_drew ?_ | refine blk_alloc ?_ _)); exact BK1070.out⟩, ⟨by (with_reducible repeat (first | refine blk_drewN ?_ _ | refine blk_drew ?_ | refine blk_alloc ?_ _)); exact BK1077.out⟩, ⟨by (with_reducible repeat (first | refine blk_drewN ?_ _ | refine blk_drew ?_ | refine blk_alloc ?_ _)); exact BK1085.out⟩, ⟨by repeat (first | (with_reducible first | exact HB.out | apply below_alloc | apply pw_below_drewN | apply below_drew1 | refine below_set ?_ GE1055.out | refine below_set ?_ GE1070.out | refine below_set ?_ GE1077.out | refine below_set ?_ GE1085.out) | exact HB.out)⟩⟩
      case rest =>
       clear HC65
       try clear c2
       try clear p2
       try clear c3
       try clear c4
       try clear c4b0
       try clear c5
       try clear c6
       try clear c7
       try clear c8
       try clear c9
       try clear c22
       try clear c23
       try clear c24
       try clear c25
       try clear c26
       try clear c27
       try clear c30
       try clear c31
       try clear c37
       try clear c38
       try clear c39
       try clear c43
       try clear c44
       try clear c45
       try clear c46
       try clear c48
       try clear c49
       try clear c52
       try clear c53
       try clear c54
       try clear c56
       try clear c57
       try clear c60
       try clear c63
       try clear c71
       try clear c72
       try clear c73
       try clear c76
       try clear c76b0
       try clear c78
       try clear c79
       try clear c80
       try clear c81
       try clear c83
       try clear c84
       try clear c87
       try clear c88
       try clear c89
       try clear c91
       try clear c92
       try clear hcz14_0
       try clear hcz14_1
       try clear hcz16_0
       try clear hcz16_1
       try clear hcz24_0
       try clear hcz24_1
       try clear hcz26_0
       try clear hcz26_1
       try clear hcz32_0
       try clear hcz32_1
       try clear hcz40_0
       try clear hcz40_1
       try clear hcz47_0
       try clear hcz47_1
       try clear hcz50_0
       try clear hcz50_1
       try clear hcz55_0
       try clear hcz55_1
       try clear hcz58_0
       try clear hcz58_1
       try clear hcz6_0
       try clear hcz6_1
       try clear hcz74_0
       try clear hcz74_1
       try clear hcz82_0
       try clear hcz82_1
       try clear hcz85_0
       try clear hcz85_1
       try clear hcz90_0
       try clear hcz90_1
       try clear hcz93_0
       try clear hcz93_1
       try clear hfz14_0
       try clear hfz14_1
       try clear hfz16_0
       try clear hfz16_1
       try clear hfz24_0
       try clear hfz24_1
       try clear hfz26_0
       try clear hfz26_1
       try clear hfz32_0
       try clear hfz32_1
       try clear hfz40_0
       try clear hfz40_1
       try clear hfz47_0
       try clear hfz47_1
       try clear hfz50_0
       try clear hfz50_1
       try clear hfz55_0
       try clear hfz55_1
       try clear hfz58_0
       try clear hfz58_1
       try clear hfz6_0
       try clear hfz6_1
       try clear hfz74_0
       try clear hfz74_1
       try clear hfz82_0
       try clear hfz82_1
       try clear hfz85_0
       try clear hfz85_1
       try clear hfz90_0
       try clear hfz90_1
       try clear hfz93_0
       try clear hfz93_1
       try clear p2
       obtain ⟨kq, x65_64, rfl, HA, HJ64, HO_1071000, HO_1071001, HO_1078000, HO_1078001, HO_1086000, HO_1086001, BK1055, BK1070, BK1077, BK1085, HB⟩ := hcut
       have hl1078000_64 := (Kd.R_reads' HO_1078000.out).1
       rw [hl1078000_64] at HO_1078000
       (try simp only [hl1078000_64])
       (try simp only [hl1078000_64] at BK1055)
       (try simp only [hl1078000_64] at BK1070)
       (try simp only [hl1078000_64] at BK1077)
       (try simp only [hl1078000_64] at BK1085)
       (try simp only [hl1078000_64] at HO_1071000)
       (try simp only [hl1078000_64] at HO_1071001)
       (try simp only [hl1078000_64] at HO_1078001)
       (try simp only [hl1078000_64] at HO_1086000)
       (try simp only [hl1078000_64] at HO_1086001)
       have hl1078001_64 := (Kd.R_reads' HO_1078001.out).1
       rw [hl1078001_64] at HO_1078001
       (try simp only [hl1078001_64])
       (try simp only [hl1078001_64] at BK1055)
       (try simp only [hl1078001_64] at BK1070)
       (try simp only [hl1078001_64] at BK1077)
       (try simp only [hl1078001_64] at BK1085)
       (try simp only [hl1078001_64] at HO_1071000)
       (try simp only [hl1078001_64] at HO_1071001)
       (try simp only [hl1078001_64] at HO_1078000)
       (try simp only [hl1078001_64] at HO_1086000)
       (try simp only [hl1078001_64] at HO_1086001)
       cases kq with
       | zero => exact absurd HA.out (by simp [laws_FnExactSuffixOf.j1])
       | succ kj64 =>
        have H := HA.out
        clear HA
        simp only [laws_FnExactSuffixOf.j1] at H
        by_cases c95 : x65_64 = true
        ·subst c95
         have H1 : (some false) = some r := by rw [if_pos rfl] at H; exact H
         clear H
         have H := H1
         clear H1
         obtain rfl := Option.some.inj H
         go_wp2
         go_ret
         exact ⟨by first | rfl | (simp [errW_none, errW_some] <;> rfl) | (simp [*, errW_none, errW_some] <;> rfl), by repeat (first | (with_reducible first | exact HB.out | apply below_alloc | apply pw_below_drewN | apply below_drew1 | refine below_set ?_ GE1055.out | refine below_set ?_ GE1070.out | refine below_set ?_ GE1077.out | refine below_set ?_ GE1085.out) | exact HB.out)⟩
        ·replace c95 := Bool.eq_false_iff.mpr c95
         subst c95
         have H1 : ((laws_markLasso.f kj64 t1078 t1081 1).bind fun bt1098 => ((laws_heldLasso.f kj64 bt1098.2.1 bt1098.2.2 1).bind fun t1101 => (if t1101 < 0 then (some false) else (if t1101 = bt1098.1 then ((laws_toLasso.f kj64 l0_0 l0_1).bind fun bt1102 => ((impl_SuffixOf.f kj64 bt1102.1 bt1102.2 a1).bind fun bt1108 => ((laws_eqLasso.f kj64 bt1108.1 bt1108.2.1 t1063 t1066).bind fun t1116 => (if t1116 = true then (laws_FnExactSuffixOf.j2 kj64 bt1098.1 (bt1108.2.2 != t1069) bt1098.2.1 bt1098.2.2) else (laws_FnExactSuffixOf.j2 kj64 bt1098.1 true bt1098.2.1 bt1098.2.2))))) else (some false))))) = some r := by rw [if_neg (show ¬ (false = true) by decide)] at H; exact H
         clear H
         have H := H1
         clear H1
         replace H := Option.bind_eq_some_iff.mp H
         obtain ⟨⟨t1098, t1099, t1100⟩, A960, H⟩ := H
         replace H : ((laws_heldLasso.f kj64 t1099 t1100 1).bind fun t1101 => (if t1101 < 0 then (some false) else (if t1101 = t1098 then ((laws_toLasso.f kj64 l0_0 l0_1).bind fun bt1102 => ((impl_SuffixOf.f kj64 bt1102.1 bt1102.2 a1).bind fun bt1108 => ((laws_eqLasso.f kj64 bt1108.1 bt1108.2.1 t1063 t1066).bind fun t1116 => (if t1116 = true then (laws_FnExactSuffixOf.j2 kj64 t1098 (bt1108.2.2 != t1069) t1099 t1100) else (laws_FnExactSuffixOf.j2 kj64 t1098 true t1099 t1100))))) else (some false)))) = some r := H
         have A96 := am_ A960
         clear A960
         replace H := Option.bind_eq_some_iff.mp H
         obtain ⟨t1101, A970, H⟩ := H
         replace H : (if t1101 < 0 then (some false) else (if t1101 = t1098 then ((laws_toLasso.f kj64 l0_0 l0_1).bind fun bt1102 => ((impl_SuffixOf.f kj64 bt1102.1 bt1102.2 a1).bind fun bt1108 => ((laws_eqLasso.f kj64 bt1108.1 bt1108.2.1 t1063 t1066).bind fun t1116 => (if t1116 = true then (laws_FnExactSuffixOf.j2 kj64 t1098 (bt1108.2.2 != t1069) t1099 t1100) else (laws_FnExactSuffixOf.j2 kj64 t1098 true t1099 t1100))))) else (some false))) = some r := H
         have A97 := am_ A970
         clear A970
         by_cases c98 : t1101 < 0
         ·rw [if_pos c98] at H
          have c98b0 : decide (t1101 < 0) = true := decide_eq_true c98
          clear c98
          obtain rfl := Option.some.inj H
          have hnb99 := NB1085_1055.out
          have hnc99 := NB1055_1085.out
          have hnb100 := NB1085_1070.out
          have hnc100 := NB1070_1085.out
          have hnb101 := NB1085_1077.out
          have hnc101 := NB1077_1085.out
          have hcz102_0 : wc.cell? ⟨gb1085, 0, none⟩ = some (.slice Ao36 t1078.length co36) := (blk_cell BK1085.out 0).trans rfl
          have hcz102_1 : wc.cell? ⟨gb1085, 1, none⟩ = some (.slice Ao41 t1081.length co41) := (blk_cell BK1085.out 1).trans rfl
          have hfz102_0 := blk_frozen BK1085.out 0
          have hfz102_1 := blk_frozen BK1085.out 1
          go_wp2_with (first | ((with_reducible refine gate_callee (f := 27) rfl ?_); refine goesL_ (some 68) rfl rfl Try.func27 (by kernel_rfl) rfl #[.agg #[.slice Ao36 t1078.length co36, .slice Ao41 t1081.length co41], .int .i64 1] rfl (by (try simp only [List.map_toArray, List.map_cons, List.map_nil]); first | done | rfl | (simp only [List.length_drop, List.length_take]; rfl)) ?_; (with_reducible refine (laws_markLasso.calls kj64 (fun k_ => some k_ = (.slice Ao36 t1078.length co36 : Value).ownBlock) (.slice Ao36 t1078.length co36) t1078 (fun k_ => some k_ = (.slice Ao41 t1081.length co41 : Value).ownBlock) (.slice Ao41 t1081.length co41) t1081 1 t1098 t1099 t1100 w _ ?side1 ?side2 ?side3 ?side4 ?side5 A96.out).mono ?_); (case side1 => repeat (first | (with_reducible first | exact HB.out | apply below_alloc | apply pw_below_drewN | apply below_drew1 | refine below_set ?_ GE1055.out | refine below_set ?_ GE1070.out | refine below_set ?_ GE1077.out | refine below_set ?_ GE1085.out) | exact HB.out)); (case side2 => exact Kd.R_tight rfl HO_1086000.out); (case side3 => exact fun k_ e_ => (HO_1086000.out.1 k_ e_.symm).2.2.2.2); (case side4 => exact Kd.R_tight rfl HO_1086001.out); (case side5 => exact fun k_ e_ => (HO_1086001.out.1 k_ e_.symm).2.2.2.2); rintro e w103 ⟨rfl, hy0, hy1, hb, hkp⟩; refine ⟨_, rfl, ?_⟩; have n0_ := am_ (Kd.R_mono (ok' := fun k_ => some k_ ≠ (.slice Ao25 t1066.length co25 : Value).ownBlock ∧ some k_ ≠ (.slice Ao29 t1095.length co29 : Value).ownBlock ∧ some k_ ≠ (.slice Ao33 t1096.length co33 : Value).ownBlock ∧ some k_ ≠ (.slice Ao36 t1078.length co36 : Value).ownBlock ∧ some k_ ≠ (.slice Ao41 t1081.length co41 : Value).ownBlock) (Kd.R_keptB (HO_1071000.out) hkp (fun k_ hk_ hs_ => Or.elim hs_ (fun e_ => (hk_.2.2.2.1) e_) (fun e_ => (hk_.2.2.2.2) e_))) (fun k_ h => ⟨h.1.1, h.1.2.1, h.1.2.2.1, h.1.2.2.2.1, h.1.2.2.2.2⟩)); have n1_ := am_ (Kd.R_mono (ok' := fun k_ => some k_ ≠ (.slice Ao22 t1063.length co22 : Value).ownBlock ∧ some k_ ≠ (.slice Ao29 t1095.length co29 : Value).ownBlock ∧ some k_ ≠ (.slice Ao33 t1096.length co33 : Value).ownBlock ∧ some k_ ≠ (.slice Ao36 t1078.length co36 : Value).ownBlock ∧ some k_ ≠ (.slice Ao41 t1081.length co41 : Value).ownBlock) (Kd.R_keptB (HO_1071001.out) hkp (fun k_ hk_ hs_ => Or.elim hs_ (fun e_ => (hk_.2.2.2.1) e_) (fun e_ => (hk_.2.2.2.2) e_))) (fun k_ h => ⟨h.1.1, h.1.2.1, h.1.2.2.1, h.1.2.2.2.1, h.1.2.2.2.2⟩)); have n2_ := am_ (Kd.R_mono (ok' := fun k_ => some k_ ≠ (.slice Ao22 t1063.length co22 : Value).ownBlock ∧ some k_ ≠ (.slice Ao25 t1066.length co25 : Value).ownBlock ∧ some k_ ≠ (.slice Ao33 t1096.length co33 : Value).ownBlock ∧ some k_ ≠ (.slice Ao36 t1078.length co36 : Value).ownBlock ∧ some k_ ≠ (.slice Ao41 t1081.length co41 : Value).ownBlock) (Kd.R_keptB (HO_1078000.out) hkp (fun k_ hk_ hs_ => Or.elim hs_ (fun e_ => (hk_.2.2.2.1) e_) (fun e_ => (hk_.2.2.2.2) e_))) (fun k_ h => ⟨h.1.1, h.1.2.1, h.1.2.2.1, h.1.2.2.2.1, h.1.2.2.2.2⟩)); have n3_ := am_ (Kd.R_mono (ok' := fun k_ => some k_ ≠ (.slice Ao22 t1063.length co22 : Value).ownBlock ∧ some k_ ≠ (.slice Ao25 t1066.length co25 : Value).ownBlock ∧ some k_ ≠ (.slice Ao29 t1095.length co29 : Value).ownBlock ∧ some k_ ≠ (.slice Ao36 t1078.length co36 : Value).ownBlock ∧ some k_ ≠ (.slice Ao41 t1081.length co41 : Value).ownBlock) (Kd.R_keptB (HO_1078001.out) hkp (fun k_ hk_ hs_ => Or.elim hs_ (fun e_ => (hk_.2.2.2.1) e_) (fun e_ => (hk_.2.2.2.2) e_))) (fun k_ h => ⟨h.1.1, h.1.2.1, h.1.2.2.1, h.1.2.2.2.1, h.1.2.2.2.2⟩)); have n4_ := am_ (Kd.R_reok rfl hy0 (fun k_ e_ => HO_1086000.out.1 k_ e_)); have n5_ := am_ (Kd.R_reok rfl hy1 (fun k_ e_ => HO_1086001.out.1 k_ e_)); have n6_ := am_ (blk_kept (by (with_reducible repeat (first | refine blk_drewN ?_ _ | refine blk_drew ?_ | refine blk_alloc ?_ _)); exact BK1055.out) hkp (fun hs_ => Or.elim hs_ (fun e_ => (fun e_ => (Kd.R_ne HO_1086000.out BK1055.out (by decide)) e_) e_) (fun e_ => (fun e_ => (Kd.R_ne HO_1086001.out BK1055.out (by decide)) e_) e_))); have n7_ := am_ (blk_kept (by (with_reducible repeat (first | refine blk_drewN ?_ _ | refine blk_drew ?_ | refine blk_alloc ?_ _)); exact BK1070.out) hkp (fun hs_ => Or.elim hs_ (fun e_ => (fun e_ => (Kd.R_ne HO_1086000.out BK1070.out (by decide)) e_) e_) (fun e_ => (fun e_ => (Kd.R_ne HO_1086001.out BK1070.out (by decide)) e_) e_))); have n8_ := am_ (blk_kept (by (with_reducible repeat (first | refine blk_drewN ?_ _ | refine blk_drew ?_ | refine blk_alloc ?_ _)); exact BK1077.out) hkp (fun hs_ => Or.elim hs_ (fun e_ => (fun e_ => (Kd.R_ne HO_1086000.out BK1077.out (by decide)) e_) e_) (fun e_ => (fun e_ => (Kd.R_ne HO_1086001.out BK1077.out (by decide)) e_) e_))); have n9_ := am_ (blk_kept (by (with_reducible repeat (first | refine blk_drewN ?_ _ | refine blk_drew ?_ | refine blk_alloc ?_ _)); exact BK1085.out) hkp (fun hs_ => Or.elim hs_ (fun e_ => (fun e_ => (Kd.R_ne HO_1086000.out BK1085.out (by decide)) e_) e_) (fun e_ => (fun e_ => (Kd.R_ne HO_1086001.out BK1085.out (by decide)) e_) e_))); have n10_ := am_ (hb); clear HO_1071000; clear HO_1071001; clear HO_1078000; clear HO_1078001; clear HO_1086000; clear HO_1086001; clear BK1055; clear BK1070; clear BK1077; clear BK1085; clear HB; have HO_1071000 := n0_; have HO_1071001 := n1_; have HO_1078000 := n2_; have HO_1078001 := n3_; have HO_1086000 := n4_; have HO_1086001 := n5_; have BK1055 := n6_; have BK1070 := n7_; have BK1077 := n8_; have BK1085 := n9_; have HB := n10_; clear n0_ n1_ n2_ n3_ n4_ n5_ n6_ n7_ n8_ n9_ n10_; (try clear hb); (try clear hkp); (try clear hy0); (try clear hy1); have hcz104_0 : w103.cell? ⟨gb1085, 0, none⟩ = some (.slice Ao36 t1078.length co36) := (blk_cell BK1085.out 0).trans rfl; have hcz104_1 : w103.cell? ⟨gb1085, 1, none⟩ = some (.slice Ao41 t1081.length co41) := (blk_cell BK1085.out 1).trans rfl; have hfz104_0 := blk_frozen BK1085.out 0; have hfz104_1 := blk_frozen BK1085.out 1) | ((with_reducible refine gate_callee (f := 28) rfl ?_); refine goesL_ (some 71) rfl rfl Try.func28 (by kernel_rfl) rfl #[.agg #[.slice Ao36 t1099.length co36, .slice Ao41 t1100.length co41], .int .i64 1] rfl (by (try simp only [List.map_toArray, List.map_cons, List.map_nil]); first | done | (rw [show t1099.length = t1078.length from (Kd.R_reads' HO_1086000.out).1.symm, show t1100.length = t1081.length from (Kd.R_reads' HO_1086001.out).1.symm] <;> rfl) | rfl | (simp only [List.length_drop, List.length_take]; rfl)) ?_; (with_reducible refine (laws_heldLasso.calls kj64 _ _ t1099 _ _ t1100 1 t1101 _ ?side1 ?side2 ?side3 ?side4 A97.out).mono ?_); (case side1 => repeat (first | exact (Kd.R_reads' HO_1086000.out).2.2 | (with_reducible first | refine Kd.C_alloc ?_ _ | refine Kd.C_drewN ?_ _ | refine Kd.C_drew ?_))); (case side2 => rw [show t1099.length = t1078.length from (Kd.R_reads' HO_1086000.out).1.symm]; exact (Kd.R_reads' HO_1086000.out).2.1); (case side3 => repeat (first | exact (Kd.R_reads' HO_1086001.out).2.2 | (with_reducible first | refine Kd.C_alloc ?_ _ | refine Kd.C_drewN ?_ _ | refine Kd.C_drew ?_))); (case side4 => rw [show t1100.length = t1081.length from (Kd.R_reads' HO_1086001.out).1.symm]; exact (Kd.R_reads' HO_1086001.out).2.1); rintro e w105 ⟨rfl, hb⟩; refine ⟨_, rfl, ?_⟩; have n0_ := am_ (Kd.R_below (by (with_reducible repeat (first | apply Kd.R_alloc | apply Kd.R_drewN | apply Kd.R_drew)); exact HO_1071000.out) hb); have n1_ := am_ (Kd.R_below (by (with_reducible repeat (first | apply Kd.R_alloc | apply Kd.R_drewN | apply Kd.R_drew)); exact HO_1071001.out) hb); have n2_ := am_ (Kd.R_below (by (with_reducible repeat (first | apply Kd.R_alloc | apply Kd.R_drewN | apply Kd.R_drew)); exact HO_1078000.out) hb); have n3_ := am_ (Kd.R_below (by (with_reducible repeat (first | apply Kd.R_alloc | apply Kd.R_drewN | apply Kd.R_drew)); exact HO_1078001.out) hb); have n4_ := am_ (Kd.R_below (by (with_reducible repeat (first | apply Kd.R_alloc | apply Kd.R_drewN | apply Kd.R_drew)); exact HO_1086000.out) hb); have n5_ := am_ (Kd.R_below (by (with_reducible repeat (first | apply Kd.R_alloc | apply Kd.R_drewN | apply Kd.R_drew)); exact HO_1086001.out) hb); have n6_ := am_ (blk_below (g := gb1055) (o := .cells #[.slice A0_0 l0_0.length c0_0, .slice A0_1 l0_1.length c0_1] 33 (0, 0)) (by (with_reducible repeat (first | refine blk_drewN ?_ _ | refine blk_drew ?_ | refine blk_alloc ?_ _)); exact BK1055.out) hb); have n7_ := am_ (blk_below (g := gb1070) (o := .cells #[.slice Ao22 t1063.length co22, .slice Ao25 t1066.length co25] 35 (0, 0)) (by (with_reducible repeat (first | refine blk_drewN ?_ _ | refine blk_drew ?_ | refine blk_alloc ?_ _)); exact BK1070.out) hb); have n8_ := am_ (blk_below (g := gb1077) (o := .cells #[.slice Ao29 t1095.length co29, .slice Ao33 t1096.length co33] 35 (0, 0)) (by (with_reducible repeat (first | refine blk_drewN ?_ _ | refine blk_drew ?_ | refine blk_alloc ?_ _)); exact BK1077.out) hb); have n9_ := am_ (blk_below (g := gb1085) (o := .cells #[.slice Ao36 t1078.length co36, .slice Ao41 t1081.length co41] 35 (0, 0)) (by (with_reducible repeat (first | refine blk_drewN ?_ _ | refine blk_drew ?_ | refine blk_alloc ?_ _)); exact BK1085.out) hb); have n10_ := am_ (below_step (by repeat (first | (with_reducible first | exact HB.out | apply below_alloc | apply pw_below_drewN | apply below_drew1 | refine below_set ?_ GE1055.out | refine below_set ?_ GE1070.out | refine below_set ?_ GE1077.out | refine below_set ?_ GE1085.out) | exact HB.out)) hb); clear HO_1071000; clear HO_1071001; clear HO_1078000; clear HO_1078001; clear HO_1086000; clear HO_1086001; clear BK1055; clear BK1070; clear BK1077; clear BK1085; clear HB; have HO_1071000 := n0_; have HO_1071001 := n1_; have HO_1078000 := n2_; have HO_1078001 := n3_; have HO_1086000 := n4_; have HO_1086001 := n5_; have BK1055 := n6_; have BK1070 := n7_; have BK1077 := n8_; have BK1085 := n9_; have HB := n10_; clear n0_ n1_ n2_ n3_ n4_ n5_ n6_ n7_ n8_ n9_ n10_; (try clear hb); (try clear hb2); (try clear hk); (try clear hi)))
          go_ret
          exact ⟨by first | rfl | (simp [errW_none, errW_some] <;> rfl) | (simp [*, errW_none, errW_some] <;> rfl), by repeat (first | (with_reducible first | exact HB.out | apply below_alloc | apply pw_below_drewN | apply below_drew1 | refine below_set ?_ GE1055.out | refine below_set ?_ GE1070.out | refine below_set ?_ GE1077.out | refine below_set ?_ GE1085.out) | exact HB.out)⟩
         ·rw [if_neg c98] at H
          have c98b0 : decide (t1101 < 0) = false := decide_eq_false c98
          clear c98
          by_cases c106 : t1101 = t1098
          ·rw [if_pos c106] at H
           have c106b0 : (t1101 == t1098) = true := beq_iff_eq.mpr c106
           have c106b1 : (t1101 != t1098) = false := bne_eq_false_iff_eq.mpr c106
           clear c106
           replace H := Option.bind_eq_some_iff.mp H
           obtain ⟨⟨t1102, t1105⟩, A1070, H⟩ := H
           replace H : ((impl_SuffixOf.f kj64 t1102 t1105 a1).bind fun bt1108 => ((laws_eqLasso.f kj64 bt1108.1 bt1108.2.1 t1063 t1066).bind fun t1116 => (if t1116 = true then (laws_FnExactSuffixOf.j2 kj64 t1098 (bt1108.2.2 != t1069) t1099 t1100) else (laws_FnExactSuffixOf.j2 kj64 t1098 true t1099 t1100)))) = some r := H
           have A107 := am_ A1070
           clear A1070
           replace H := Option.bind_eq_some_iff.mp H
           obtain ⟨⟨t1108, t1111, t1114⟩, A1080, H⟩ := H
           replace H : ((laws_eqLasso.f kj64 t1108 t1111 t1063 t1066).bind fun t1116 => (if t1116 = true then (laws_FnExactSuffixOf.j2 kj64 t1098 (t1114 != t1069) t1099 t1100) else (laws_FnExactSuffixOf.j2 kj64 t1098 true t1099 t1100))) = some r := H
           have A108 := am_ A1080
           clear A1080
           have HC109 := am_ H
           clear H
           have hnb110 := NB1085_1055.out
           have hnc110 := NB1055_1085.out
           have hnb111 := NB1085_1070.out
           have hnc111 := NB1070_1085.out
           have hnb112 := NB1085_1077.out
           have hnc112 := NB1077_1085.out
           have hcz113_0 : wc.cell? ⟨gb1085, 0, none⟩ = some (.slice Ao36 t1078.length co36) := (blk_cell BK1085.out 0).trans rfl
           have hcz113_1 : wc.cell? ⟨gb1085, 1, none⟩ = some (.slice Ao41 t1081.length co41) := (blk_cell BK1085.out 1).trans rfl
           have hfz113_0 := blk_frozen BK1085.out 0
           have hfz113_1 := blk_frozen BK1085.out 1
           go_upto_region 25 with (first | ((with_reducible refine gate_callee (f := 27) rfl ?_); refine goesL_ (some 68) rfl rfl Try.func27 (by kernel_rfl) rfl #[.agg #[.slice Ao36 t1078.length co36, .slice Ao41 t1081.length co41], .int .i64 1] rfl (by (try simp only [List.map_toArray, List.map_cons, List.map_nil]); first | done | rfl | (simp only [List.length_drop, List.length_take]; rfl)) ?_; (with_reducible refine (laws_markLasso.calls kj64 (fun k_ => some k_ = (.slice Ao36 t1078.length co36 : Value).ownBlock) (.slice Ao36 t1078.length co36) t1078 (fun k_ => some k_ = (.slice Ao41 t1081.length co41 : Value).ownBlock) (.slice Ao41 t1081.length co41) t1081 1 t1098 t1099 t1100 w _ ?side1 ?side2 ?side3 ?side4 ?side5 A96.out).mono ?_); (case side1 => repeat (first | (with_reducible first | exact HB.out | apply below_alloc | apply pw_below_drewN | apply below_drew1 | refine below_set ?_ GE1055.out | refine below_set ?_ GE1070.out | refine below_set ?_ GE1077.out | refine below_set ?_ GE1085.out) | exact HB.out)); (case side2 => exact Kd.R_tight rfl HO_1086000.out); (case side3 => exact fun k_ e_ => (HO_1086000.out.1 k_ e_.symm).2.2.2.2); (case side4 => exact Kd.R_tight rfl HO_1086001.out); (case side5 => exact fun k_ e_ => (HO_1086001.out.1 k_ e_.symm).2.2.2.2); rintro e w114 ⟨rfl, hy0, hy1, hb, hkp⟩; refine ⟨_, rfl, ?_⟩; have n0_ := am_ (Kd.R_mono (ok' := fun k_ => some k_ ≠ (.slice Ao25 t1066.length co25 : Value).ownBlock ∧ some k_ ≠ (.slice Ao29 t1095.length co29 : Value).ownBlock ∧ some k_ ≠ (.slice Ao33 t1096.length co33 : Value).ownBlock ∧ some k_ ≠ (.slice Ao36 t1078.length co36 : Value).ownBlock ∧ some k_ ≠ (.slice Ao41 t1081.length co41 : Value).ownBlock) (Kd.R_keptB (HO_1071000.out) hkp (fun k_ hk_ hs_ => Or.elim hs_ (fun e_ => (hk_.2.2.2.1) e_) (fun e_ => (hk_.2.2.2.2) e_))) (fun k_ h => ⟨h.1.1, h.1.2.1, h.1.2.2.1, h.1.2.2.2.1, h.1.2.2.2.2⟩)); have n1_ := am_ (Kd.R_mono (ok' := fun k_ => some k_ ≠ (.slice Ao22 t1063.length co22 : Value).ownBlock ∧ some k_ ≠ (.slice Ao29 t1095.length co29 : Value).ownBlock ∧ some k_ ≠ (.slice Ao33 t1096.length co33 : Value).ownBlock ∧ some k_ ≠ (.slice Ao36 t1078.length co36 : Value).ownBlock ∧ some k_ ≠ (.slice Ao41 t1081.length co41 : Value).ownBlock) (Kd.R_keptB (HO_1071001.out) hkp (fun k_ hk_ hs_ => Or.elim hs_ (fun e_ => (hk_.2.2.2.1) e_) (fun e_ => (hk_.2.2.2.2) e_))) (fun k_ h => ⟨h.1.1, h.1.2.1, h.1.2.2.1, h.1.2.2.2.1, h.1.2.2.2.2⟩)); have n2_ := am_ (Kd.R_mono (ok' := fun k_ => some k_ ≠ (.slice Ao22 t1063.length co22 : Value).ownBlock ∧ some k_ ≠ (.slice Ao25 t1066.length co25 : Value).ownBlock ∧ some k_ ≠ (.slice Ao33 t1096.length co33 : Value).ownBlock ∧ some k_ ≠ (.slice Ao36 t1078.length co36 : Value).ownBlock ∧ some k_ ≠ (.slice Ao41 t1081.length co41 : Value).ownBlock) (Kd.R_keptB (HO_1078000.out) hkp (fun k_ hk_ hs_ => Or.elim hs_ (fun e_ => (hk_.2.2.2.1) e_) (fun e_ => (hk_.2.2.2.2) e_))) (fun k_ h => ⟨h.1.1, h.1.2.1, h.1.2.2.1, h.1.2.2.2.1, h.1.2.2.2.2⟩)); have n3_ := am_ (Kd.R_mono (ok' := fun k_ => some k_ ≠ (.slice Ao22 t1063.length co22 : Value).ownBlock ∧ some k_ ≠ (.slice Ao25 t1066.length co25 : Value).ownBlock ∧ some k_ ≠ (.slice Ao29 t1095.length co29 : Value).ownBlock ∧ some k_ ≠ (.slice Ao36 t1078.length co36 : Value).ownBlock ∧ some k_ ≠ (.slice Ao41 t1081.length co41 : Value).ownBlock) (Kd.R_keptB (HO_1078001.out) hkp (fun k_ hk_ hs_ => Or.elim hs_ (fun e_ => (hk_.2.2.2.1) e_) (fun e_ => (hk_.2.2.2.2) e_))) (fun k_ h => ⟨h.1.1, h.1.2.1, h.1.2.2.1, h.1.2.2.2.1, h.1.2.2.2.2⟩)); have n4_ := am_ (Kd.R_reok rfl hy0 (fun k_ e_ => HO_1086000.out.1 k_ e_)); have n5_ := am_ (Kd.R_reok rfl hy1 (fun k_ e_ => HO_1086001.out.1 k_ e_)); have n6_ := am_ (blk_kept (by (with_reducible repeat (first | refine blk_drewN ?_ _ | refine blk_drew ?_ | refine blk_alloc ?_ _)); exact BK1055.out) hkp (fun hs_ => Or.elim hs_ (fun e_ => (fun e_ => (Kd.R_ne HO_1086000.out BK1055.out (by decide)) e_) e_) (fun e_ => (fun e_ => (Kd.R_ne HO_1086001.out BK1055.out (by decide)) e_) e_))); have n7_ := am_ (blk_kept (by (with_reducible repeat (first | refine blk_drewN ?_ _ | refine blk_drew ?_ | refine blk_alloc ?_ _)); exact BK1070.out) hkp (fun hs_ => Or.elim hs_ (fun e_ => (fun e_ => (Kd.R_ne HO_1086000.out BK1070.out (by decide)) e_) e_) (fun e_ => (fun e_ => (Kd.R_ne HO_1086001.out BK1070.out (by decide)) e_) e_))); have n8_ := am_ (blk_kept (by (with_reducible repeat (first | refine blk_drewN ?_ _ | refine blk_drew ?_ | refine blk_alloc ?_ _)); exact BK1077.out) hkp (fun hs_ => Or.elim hs_ (fun e_ => (fun e_ => (Kd.R_ne HO_1086000.out BK1077.out (by decide)) e_) e_) (fun e_ => (fun e_ => (Kd.R_ne HO_1086001.out BK1077.out (by decide)) e_) e_))); have n9_ := am_ (blk_kept (by (with_reducible repeat (first | refine blk_drewN ?_ _ | refine blk_drew ?_ | refine blk_alloc ?_ _)); exact BK1085.out) hkp (fun hs_ => Or.elim hs_ (fun e_ => (fun e_ => (Kd.R_ne HO_1086000.out BK1085.out (by decide)) e_) e_) (fun e_ => (fun e_ => (Kd.R_ne HO_1086001.out BK1085.out (by decide)) e_) e_))); have n10_ := am_ (hb); clear HO_1071000; clear HO_1071001; clear HO_1078000; clear HO_1078001; clear HO_1086000; clear HO_1086001; clear BK1055; clear BK1070; clear BK1077; clear BK1085; clear HB; have HO_1071000 := n0_; have HO_1071001 := n1_; have HO_1078000 := n2_; have HO_1078001 := n3_; have HO_1086000 := n4_; have HO_1086001 := n5_; have BK1055 := n6_; have BK1070 := n7_; have BK1077 := n8_; have BK1085 := n9_; have HB := n10_; clear n0_ n1_ n2_ n3_ n4_ n5_ n6_ n7_ n8_ n9_ n10_; (try clear hb); (try clear hkp); (try clear hy0); (try clear hy1); have hcz115_0 : w114.cell? ⟨gb1085, 0, none⟩ = some (.slice Ao36 t1078.length co36) := (blk_cell BK1085.out 0).trans rfl; have hcz115_1 : w114.cell? ⟨gb1085, 1, none⟩ = some (.slice Ao41 t1081.length co41) := (blk_cell BK1085.out 1).trans rfl; have hfz115_0 := blk_frozen BK1085.out 0; have hfz115_1 := blk_frozen BK1085.out 1) | ((with_reducible refine gate_callee (f := 28) rfl ?_); refine goesL_ (some 71) rfl rfl Try.func28 (by kernel_rfl) rfl #[.agg #[.slice Ao36 t1099.length co36, .slice Ao41 t1100.length co41], .int .i64 1] rfl (by (try simp only [List.map_toArray, List.map_cons, List.map_nil]); first | done | (rw [show t1099.length = t1078.length from (Kd.R_reads' HO_1086000.out).1.symm, show t1100.length = t1081.length from (Kd.R_reads' HO_1086001.out).1.symm] <;> rfl) | rfl | (simp only [List.length_drop, List.length_take]; rfl)) ?_; (with_reducible refine (laws_heldLasso.calls kj64 _ _ t1099 _ _ t1100 1 t1101 _ ?side1 ?side2 ?side3 ?side4 A97.out).mono ?_); (case side1 => repeat (first | exact (Kd.R_reads' HO_1086000.out).2.2 | (with_reducible first | refine Kd.C_alloc ?_ _ | refine Kd.C_drewN ?_ _ | refine Kd.C_drew ?_))); (case side2 => rw [show t1099.length = t1078.length from (Kd.R_reads' HO_1086000.out).1.symm]; exact (Kd.R_reads' HO_1086000.out).2.1); (case side3 => repeat (first | exact (Kd.R_reads' HO_1086001.out).2.2 | (with_reducible first | refine Kd.C_alloc ?_ _ | refine Kd.C_drewN ?_ _ | refine Kd.C_drew ?_))); (case side4 => rw [show t1100.length = t1081.length from (Kd.R_reads' HO_1086001.out).1.symm]; exact (Kd.R_reads' HO_1086001.out).2.1); rintro e w116 ⟨rfl, hb⟩; refine ⟨_, rfl, ?_⟩; have n0_ := am_ (Kd.R_below (by (with_reducible repeat (first | apply Kd.R_alloc | apply Kd.R_drewN | apply Kd.R_drew)); exact HO_1071000.out) hb); have n1_ := am_ (Kd.R_below (by (with_reducible repeat (first | apply Kd.R_alloc | apply Kd.R_drewN | apply Kd.R_drew)); exact HO_1071001.out) hb); have n2_ := am_ (Kd.R_below (by (with_reducible repeat (first | apply Kd.R_alloc | apply Kd.R_drewN | apply Kd.R_drew)); exact HO_1078000.out) hb); have n3_ := am_ (Kd.R_below (by (with_reducible repeat (first | apply Kd.R_alloc | apply Kd.R_drewN | apply Kd.R_drew)); exact HO_1078001.out) hb); have n4_ := am_ (Kd.R_below (by (with_reducible repeat (first | apply Kd.R_alloc | apply Kd.R_drewN | apply Kd.R_drew)); exact HO_1086000.out) hb); have n5_ := am_ (Kd.R_below (by (with_reducible repeat (first | apply Kd.R_alloc | apply Kd.R_drewN | apply Kd.R_drew)); exact HO_1086001.out) hb); have n6_ := am_ (blk_below (g := gb1055) (o := .cells #[.slice A0_0 l0_0.length c0_0, .slice A0_1 l0_1.length c0_1] 33 (0, 0)) (by (with_reducible repeat (first | refine blk_drewN ?_ _ | refine blk_drew ?_ | refine blk_alloc ?_ _)); exact BK1055.out) hb); have n7_ := am_ (blk_below (g := gb1070) (o := .cells #[.slice Ao22 t1063.length co22, .slice Ao25 t1066.length co25] 35 (0, 0)) (by (with_reducible repeat (first | refine blk_drewN ?_ _ | refine blk_drew ?_ | refine blk_alloc ?_ _)); exact BK1070.out) hb); have n8_ := am_ (blk_below (g := gb1077) (o := .cells #[.slice Ao29 t1095.length co29, .slice Ao33 t1096.length co33] 35 (0, 0)) (by (with_reducible repeat (first | refine blk_drewN ?_ _ | refine blk_drew ?_ | refine blk_alloc ?_ _)); exact BK1077.out) hb); have n9_ := am_ (blk_below (g := gb1085) (o := .cells #[.slice Ao36 t1078.length co36, .slice Ao41 t1081.length co41] 35 (0, 0)) (by (with_reducible repeat (first | refine blk_drewN ?_ _ | refine blk_drew ?_ | refine blk_alloc ?_ _)); exact BK1085.out) hb); have n10_ := am_ (below_step (by repeat (first | (with_reducible first | exact HB.out | apply below_alloc | apply pw_below_drewN | apply below_drew1 | refine below_set ?_ GE1055.out | refine below_set ?_ GE1070.out | refine below_set ?_ GE1077.out | refine below_set ?_ GE1085.out) | exact HB.out)) hb); clear HO_1071000; clear HO_1071001; clear HO_1078000; clear HO_1078001; clear HO_1086000; clear HO_1086001; clear BK1055; clear BK1070; clear BK1077; clear BK1085; clear HB; have HO_1071000 := n0_; have HO_1071001 := n1_; have HO_1078000 := n2_; have HO_1078001 := n3_; have HO_1086000 := n4_; have HO_1086001 := n5_; have BK1055 := n6_; have BK1070 := n7_; have BK1077 := n8_; have BK1085 := n9_; have HB := n10_; clear n0_ n1_ n2_ n3_ n4_ n5_ n6_ n7_ n8_ n9_ n10_; (try clear hb); (try clear hb2); (try clear hk); (try clear hi); have hnb117 := NB1055_1070.out; have hnc117 := NB1070_1055.out; have hnb118 := NB1055_1077.out; have hnc118 := NB1077_1055.out; have hcz119_0 : w116.cell? ⟨gb1055, 0, none⟩ = some (.slice A0_0 l0_0.length c0_0) := (blk_cell BK1055.out 0).trans rfl; have hcz119_1 : w116.cell? ⟨gb1055, 1, none⟩ = some (.slice A0_1 l0_1.length c0_1) := (blk_cell BK1055.out 1).trans rfl; have hfz119_0 := blk_frozen BK1055.out 0; have hfz119_1 := blk_frozen BK1055.out 1) | ((with_reducible refine gate_callee (f := 24) rfl ?_); refine goesL_ (some 79) rfl rfl Try.func24 (by kernel_rfl) rfl #[.agg #[.slice A0_0 l0_0.length c0_0, .slice A0_1 l0_1.length c0_1]] rfl (by (try simp only [List.map_toArray, List.map_cons, List.map_nil]); first | done | rfl | (simp only [List.length_drop, List.length_take]; rfl)) ?_; (with_reducible refine (laws_toLasso.calls kj64 _ _ l0_0 _ _ l0_1 t1102 t1105 _ ?side1 ?side2 ?side3 ?side4 A107.out).mono ?_); (case side1 => repeat (first | exact (Kd.C_below HR0_0.out HB.out) | (with_reducible first | refine Kd.C_alloc ?_ _ | refine Kd.C_drewN ?_ _ | refine Kd.C_drew ?_))); (case side2 => exact HC0_0.out); (case side3 => repeat (first | exact (Kd.C_below HR0_1.out HB.out) | (with_reducible first | refine Kd.C_alloc ?_ _ | refine Kd.C_drewN ?_ _ | refine Kd.C_drew ?_))); (case side4 => exact HC0_1.out); rintro e w120 ⟨v1103, v1106, rfl, ho0, ho1, hb⟩; refine ⟨_, rfl, ?_⟩; have n0_ := am_ (Kd.R_mono (Kd.R_told (Kd.R_told (Kd.R_old (by (with_reducible repeat (first | apply Kd.R_alloc | apply Kd.R_drewN | apply Kd.R_drew)); exact HO_1071000.out) hb) (Kd.R_base ho0)) (Kd.R_base ho1)) (fun _ h_ => h_.1)); have n1_ := am_ (Kd.R_mono (Kd.R_told (Kd.R_told (Kd.R_old (by (with_reducible repeat (first | apply Kd.R_alloc | apply Kd.R_drewN | apply Kd.R_drew)); exact HO_1071001.out) hb) (Kd.R_base ho0)) (Kd.R_base ho1)) (fun _ h_ => h_.1)); have n2_ := am_ (Kd.R_mono (Kd.R_told (Kd.R_told (Kd.R_old (by (with_reducible repeat (first | apply Kd.R_alloc | apply Kd.R_drewN | apply Kd.R_drew)); exact HO_1078000.out) hb) (Kd.R_base ho0)) (Kd.R_base ho1)) (fun _ h_ => h_.1)); have n3_ := am_ (Kd.R_mono (Kd.R_told (Kd.R_told (Kd.R_old (by (with_reducible repeat (first | apply Kd.R_alloc | apply Kd.R_drewN | apply Kd.R_drew)); exact HO_1078001.out) hb) (Kd.R_base ho0)) (Kd.R_base ho1)) (fun _ h_ => h_.1)); have n4_ := am_ (Kd.R_mono (Kd.R_told (Kd.R_told (Kd.R_old (by (with_reducible repeat (first | apply Kd.R_alloc | apply Kd.R_drewN | apply Kd.R_drew)); exact HO_1086000.out) hb) (Kd.R_base ho0)) (Kd.R_base ho1)) (fun _ h_ => h_.1)); have n5_ := am_ (Kd.R_mono (Kd.R_told (Kd.R_told (Kd.R_old (by (with_reducible repeat (first | apply Kd.R_alloc | apply Kd.R_drewN | apply Kd.R_drew)); exact HO_1086001.out) hb) (Kd.R_base ho0)) (Kd.R_base ho1)) (fun _ h_ => h_.1)); have n6_ := am_ (Kd.R_lower (Kd.R_new' (Kd.R_new' (Kd.R_new' (Kd.R_new' (Kd.R_new' (Kd.R_new' ho0 (Kd.R_lt (by (with_reducible repeat (first | apply Kd.R_alloc | apply Kd.R_drewN | apply Kd.R_drew)); exact HO_1071000.out))) (Kd.R_lt (by (with_reducible repeat (first | apply Kd.R_alloc | apply Kd.R_drewN | apply Kd.R_drew)); exact HO_1071001.out))) (Kd.R_lt (by (with_reducible repeat (first | apply Kd.R_alloc | apply Kd.R_drewN | apply Kd.R_drew)); exact HO_1078000.out))) (Kd.R_lt (by (with_reducible repeat (first | apply Kd.R_alloc | apply Kd.R_drewN | apply Kd.R_drew)); exact HO_1078001.out))) (Kd.R_lt (by (with_reducible repeat (first | apply Kd.R_alloc | apply Kd.R_drewN | apply Kd.R_drew)); exact HO_1086000.out))) (Kd.R_lt (by (with_reducible repeat (first | apply Kd.R_alloc | apply Kd.R_drewN | apply Kd.R_drew)); exact HO_1086001.out))) (below_size (by repeat (first | (with_reducible first | exact HB.out | apply below_alloc | apply pw_below_drewN | apply below_drew1 | refine below_set ?_ GE1055.out | refine below_set ?_ GE1070.out | refine below_set ?_ GE1077.out | refine below_set ?_ GE1085.out) | exact HB.out)))); have n7_ := am_ (Kd.R_lower (Kd.R_new' (Kd.R_new' (Kd.R_new' (Kd.R_new' (Kd.R_new' (Kd.R_new' ho1 (Kd.R_lt (by (with_reducible repeat (first | apply Kd.R_alloc | apply Kd.R_drewN | apply Kd.R_drew)); exact HO_1071000.out))) (Kd.R_lt (by (with_reducible repeat (first | apply Kd.R_alloc | apply Kd.R_drewN | apply Kd.R_drew)); exact HO_1071001.out))) (Kd.R_lt (by (with_reducible repeat (first | apply Kd.R_alloc | apply Kd.R_drewN | apply Kd.R_drew)); exact HO_1078000.out))) (Kd.R_lt (by (with_reducible repeat (first | apply Kd.R_alloc | apply Kd.R_drewN | apply Kd.R_drew)); exact HO_1078001.out))) (Kd.R_lt (by (with_reducible repeat (first | apply Kd.R_alloc | apply Kd.R_drewN | apply Kd.R_drew)); exact HO_1086000.out))) (Kd.R_lt (by (with_reducible repeat (first | apply Kd.R_alloc | apply Kd.R_drewN | apply Kd.R_drew)); exact HO_1086001.out))) (below_size (by repeat (first | (with_reducible first | exact HB.out | apply below_alloc | apply pw_below_drewN | apply below_drew1 | refine below_set ?_ GE1055.out | refine below_set ?_ GE1070.out | refine below_set ?_ GE1077.out | refine below_set ?_ GE1085.out) | exact HB.out)))); have n8_ := am_ (blk_below (g := gb1055) (o := .cells #[.slice A0_0 l0_0.length c0_0, .slice A0_1 l0_1.length c0_1] 33 (0, 0)) (by (with_reducible repeat (first | refine blk_drewN ?_ _ | refine blk_drew ?_ | refine blk_alloc ?_ _)); exact BK1055.out) hb); have n9_ := am_ (blk_below (g := gb1070) (o := .cells #[.slice Ao22 t1063.length co22, .slice Ao25 t1066.length co25] 35 (0, 0)) (by (with_reducible repeat (first | refine blk_drewN ?_ _ | refine blk_drew ?_ | refine blk_alloc ?_ _)); exact BK1070.out) hb); have n10_ := am_ (blk_below (g := gb1077) (o := .cells #[.slice Ao29 t1095.length co29, .slice Ao33 t1096.length co33] 35 (0, 0)) (by (with_reducible repeat (first | refine blk_drewN ?_ _ | refine blk_drew ?_ | refine blk_alloc ?_ _)); exact BK1077.out) hb); have n11_ := am_ (blk_below (g := gb1085) (o := .cells #[.slice Ao36 t1078.length co36, .slice Ao41 t1081.length co41] 35 (0, 0)) (by (with_reducible repeat (first | refine blk_drewN ?_ _ | refine blk_drew ?_ | refine blk_alloc ?_ _)); exact BK1085.out) hb); have n12_ := am_ (below_step (by repeat (first | (with_reducible first | exact HB.out | apply below_alloc | apply pw_below_drewN | apply below_drew1 | refine below_set ?_ GE1055.out | refine below_set ?_ GE1070.out | refine below_set ?_ GE1077.out | refine below_set ?_ GE1085.out) | exact HB.out)) hb); clear HO_1071000; clear HO_1071001; clear HO_1078000; clear HO_1078001; clear HO_1086000; clear HO_1086001; clear BK1055; clear BK1070; clear BK1077; clear BK1085; clear HB; have HO_1071000 := n0_; have HO_1071001 := n1_; have HO_1078000 := n2_; have HO_1078001 := n3_; have HO_1086000 := n4_; have HO_1086001 := n5_; have HO1104 := n6_; have HO1107 := n7_; have BK1055 := n8_; have BK1070 := n9_; have BK1077 := n10_; have BK1085 := n11_; have HB := n12_; clear n0_ n1_ n2_ n3_ n4_ n5_ n6_ n7_ n8_ n9_ n10_ n11_ n12_; (try clear hb); (try clear hb2); (try clear hk); (try clear hi); (try clear ho0); (try clear ho1); obtain ⟨Ao121, co121, eo121⟩ := Kd.R_slice HO1104.out; subst eo121; obtain ⟨Ao122, co122, eo122⟩ := Kd.R_slice HO1107.out; subst eo122) | ((with_reducible refine gate_callee (f := 25) rfl ?_); refine goesL_ (some 81) rfl rfl Try.func25 (by kernel_rfl) rfl #[.agg #[.slice Ao121 t1102.length co121, .slice Ao122 t1105.length co122], .int .i64 a1] rfl (by (try simp only [List.map_toArray, List.map_cons, List.map_nil]); first | done | rfl | (simp only [List.length_drop, List.length_take]; rfl)) ?_; (with_reducible refine (impl_SuffixOf.calls kj64 _ _ t1102 _ _ t1105 a1 t1108 t1111 t1114 _ ?side1 ?side2 ?side3 ?side4 A108.out).mono ?_); (case side1 => repeat (first | exact (Kd.R_reads' HO1104.out).2.2 | (with_reducible first | refine Kd.C_alloc ?_ _ | refine Kd.C_drewN ?_ _ | refine Kd.C_drew ?_))); (case side2 => exact (Kd.R_reads' HO1104.out).2.1); (case side3 => repeat (first | exact (Kd.R_reads' HO1107.out).2.2 | (with_reducible first | refine Kd.C_alloc ?_ _ | refine Kd.C_drewN ?_ _ | refine Kd.C_drew ?_))); (case side4 => exact (Kd.R_reads' HO1107.out).2.1); rintro e w123 ⟨v1109, v1112, rfl, ho0, ho1, hb⟩; refine ⟨_, rfl, ?_⟩; have n0_ := am_ (Kd.R_mono (Kd.R_told (Kd.R_told (Kd.R_old (by (with_reducible repeat (first | apply Kd.R_alloc | apply Kd.R_drewN | apply Kd.R_drew)); exact HO_1071000.out) hb) (Kd.R_base ho0)) (Kd.R_base ho1)) (fun _ h_ => h_.1)); have n1_ := am_ (Kd.R_mono (Kd.R_told (Kd.R_told (Kd.R_old (by (with_reducible repeat (first | apply Kd.R_alloc | apply Kd.R_drewN | apply Kd.R_drew)); exact HO_1071001.out) hb) (Kd.R_base ho0)) (Kd.R_base ho1)) (fun _ h_ => h_.1)); have n2_ := am_ (Kd.R_mono (Kd.R_told (Kd.R_told (Kd.R_old (by (with_reducible repeat (first | apply Kd.R_alloc | apply Kd.R_drewN | apply Kd.R_drew)); exact HO_1078000.out) hb) (Kd.R_base ho0)) (Kd.R_base ho1)) (fun _ h_ => h_.1)); have n3_ := am_ (Kd.R_mono (Kd.R_told (Kd.R_told (Kd.R_old (by (with_reducible repeat (first | apply Kd.R_alloc | apply Kd.R_drewN | apply Kd.R_drew)); exact HO_1078001.out) hb) (Kd.R_base ho0)) (Kd.R_base ho1)) (fun _ h_ => h_.1)); have n4_ := am_ (Kd.R_mono (Kd.R_told (Kd.R_told (Kd.R_old (by (with_reducible repeat (first | apply Kd.R_alloc | apply Kd.R_drewN | apply Kd.R_drew)); exact HO_1086000.out) hb) (Kd.R_base ho0)) (Kd.R_base ho1)) (fun _ h_ => h_.1)); have n5_ := am_ (Kd.R_mono (Kd.R_told (Kd.R_told (Kd.R_old (by (with_reducible repeat (first | apply Kd.R_alloc | apply Kd.R_drewN | apply Kd.R_drew)); exact HO_1086001.out) hb) (Kd.R_base ho0)) (Kd.R_base ho1)) (fun _ h_ => h_.1)); have n6_ := am_ (Kd.R_mono (Kd.R_told (Kd.R_told (Kd.R_old (by (with_reducible repeat (first | apply Kd.R_alloc | apply Kd.R_drewN | apply Kd.R_drew)); exact HO1104.out) hb) (Kd.R_base ho0)) (Kd.R_base ho1)) (fun _ h_ => h_.1)); have n7_ := am_ (Kd.R_mono (Kd.R_told (Kd.R_told (Kd.R_old (by (with_reducible repeat (first | apply Kd.R_alloc | apply Kd.R_drewN | apply Kd.R_drew)); exact HO1107.out) hb) (Kd.R_base ho0)) (Kd.R_base ho1)) (fun _ h_ => h_.1)); have n8_ := am_ (Kd.R_lower (Kd.R_new' (Kd.R_new' (Kd.R_new' (Kd.R_new' (Kd.R_new' (Kd.R_new' (Kd.R_new' (Kd.R_new' ho0 (Kd.R_lt (by (with_reducible repeat (first | apply Kd.R_alloc | apply Kd.R_drewN | apply Kd.R_drew)); exact HO_1071000.out))) (Kd.R_lt (by (with_reducible repeat (first | apply Kd.R_alloc | apply Kd.R_drewN | apply Kd.R_drew)); exact HO_1071001.out))) (Kd.R_lt (by (with_reducible repeat (first | apply Kd.R_alloc | apply Kd.R_drewN | apply Kd.R_drew)); exact HO_1078000.out))) (Kd.R_lt (by (with_reducible repeat (first | apply Kd.R_alloc | apply Kd.R_drewN | apply Kd.R_drew)); exact HO_1078001.out))) (Kd.R_lt (by (with_reducible repeat (first | apply Kd.R_alloc | apply Kd.R_drewN | apply Kd.R_drew)); exact HO_1086000.out))) (Kd.R_lt (by (with_reducible repeat (first | apply Kd.R_alloc | apply Kd.R_drewN | apply Kd.R_drew)); exact HO_1086001.out))) (Kd.R_lt (by (with_reducible repeat (first | apply Kd.R_alloc | apply Kd.R_drewN | apply Kd.R_drew)); exact HO1104.out))) (Kd.R_lt (by (with_reducible repeat (first | apply Kd.R_alloc | apply Kd.R_drewN | apply Kd.R_drew)); exact HO1107.out))) (below_size (by repeat (first | (with_reducible first | exact HB.out | apply below_alloc | apply pw_below_drewN | apply below_drew1 | refine below_set ?_ GE1055.out | refine below_set ?_ GE1070.out | refine below_set ?_ GE1077.out | refine below_set ?_ GE1085.out) | exact HB.out)))); have n9_ := am_ (Kd.R_lower (Kd.R_new' (Kd.R_new' (Kd.R_new' (Kd.R_new' (Kd.R_new' (Kd.R_new' (Kd.R_new' (Kd.R_new' ho1 (Kd.R_lt (by (with_reducible repeat (first | apply Kd.R_alloc | apply Kd.R_drewN | apply Kd.R_drew)); exact HO_1071000.out))) (Kd.R_lt (by (with_reducible repeat (first | apply Kd.R_alloc | apply Kd.R_drewN | apply Kd.R_drew)); exact HO_1071001.out))) (Kd.R_lt (by (with_reducible repeat (first | apply Kd.R_alloc | apply Kd.R_drewN | apply Kd.R_drew)); exact HO_1078000.out))) (Kd.R_lt (by (with_reducible repeat (first | apply Kd.R_alloc | apply Kd.R_drewN | apply Kd.R_drew)); exact HO_1078001.out))) (Kd.R_lt (by (with_reducible repeat (first | apply Kd.R_alloc | apply Kd.R_drewN | apply Kd.R_drew)); exact HO_1086000.out))) (Kd.R_lt (by (with_reducible repeat (first | apply Kd.R_alloc | apply Kd.R_drewN | apply Kd.R_drew)); exact HO_1086001.out))) (Kd.R_lt (by (with_reducible repeat (first | apply Kd.R_alloc | apply Kd.R_drewN | apply Kd.R_drew)); exact HO1104.out))) (Kd.R_lt (by (with_reducible repeat (first | apply Kd.R_alloc | apply Kd.R_drewN | apply Kd.R_drew)); exact HO1107.out))) (below_size (by repeat (first | (with_reducible first | exact HB.out | apply below_alloc | apply pw_below_drewN | apply below_drew1 | refine below_set ?_ GE1055.out | refine below_set ?_ GE1070.out | refine below_set ?_ GE1077.out | refine below_set ?_ GE1085.out) | exact HB.out)))); have n10_ := am_ (blk_below (g := gb1055) (o := .cells #[.slice A0_0 l0_0.length c0_0, .slice A0_1 l0_1.length c0_1] 33 (0, 0)) (by (with_reducible repeat (first | refine blk_drewN ?_ _ | refine blk_drew ?_ | refine blk_alloc ?_ _)); exact BK1055.out) hb); have n11_ := am_ (blk_below (g := gb1070) (o := .cells #[.slice Ao22 t1063.length co22, .slice Ao25 t1066.length co25] 35 (0, 0)) (by (with_reducible repeat (first | refine blk_drewN ?_ _ | refine blk_drew ?_ | refine blk_alloc ?_ _)); exact BK1070.out) hb); have n12_ := am_ (blk_below (g := gb1077) (o := .cells #[.slice Ao29 t1095.length co29, .slice Ao33 t1096.length co33] 35 (0, 0)) (by (with_reducible repeat (first | refine blk_drewN ?_ _ | refine blk_drew ?_ | refine blk_alloc ?_ _)); exact BK1077.out) hb); have n13_ := am_ (blk_below (g := gb1085) (o := .cells #[.slice Ao36 t1078.length co36, .slice Ao41 t1081.length co41] 35 (0, 0)) (by (with_reducible repeat (first | refine blk_drewN ?_ _ | refine blk_drew ?_ | refine blk_alloc ?_ _)); exact BK1085.out) hb); have n14_ := am_ (below_step (by repeat (first | (with_reducible first | exact HB.out | apply below_alloc | apply pw_below_drewN | apply below_drew1 | refine below_set ?_ GE1055.out | refine below_set ?_ GE1070.out | refine below_set ?_ GE1077.out | refine below_set ?_ GE1085.out) | exact HB.out)) hb); clear HO_1071000; clear HO_1071001; clear HO_1078000; clear HO_1078001; clear HO_1086000; clear HO_1086001; clear HO1104; clear HO1107; clear BK1055; clear BK1070; clear BK1077; clear BK1085; clear HB; have HO_1071000 := n0_; have HO_1071001 := n1_; have HO_1078000 := n2_; have HO_1078001 := n3_; have HO_1086000 := n4_; have HO_1086001 := n5_; have HO1104 := n6_; have HO1107 := n7_; have HO1110 := n8_; have HO1113 := n9_; have BK1055 := n10_; have BK1070 := n11_; have BK1077 := n12_; have BK1085 := n13_; have HB := n14_; clear n0_ n1_ n2_ n3_ n4_ n5_ n6_ n7_ n8_ n9_ n10_ n11_ n12_ n13_ n14_; (try clear hb); (try clear hb2); (try clear hk); (try clear hi); (try clear ho0); (try clear ho1)) | ((with_reducible refine gate_dst (N := 14) rfl ?_); refine box_event ?hg (N := 14) ?hd (cs := #[.slice none 0 0, .slice none 0 0]) (t := 35) ?hr ?_; (case hd => rfl); (case hg => rfl); (case hr => first | (go_simp; done) | (go_simp; rfl)); intro gb1115 hg w124 hbox hb; have n0_ := am_ (Kd.R_below (by (with_reducible repeat (first | apply Kd.R_alloc | apply Kd.R_drewN | apply Kd.R_drew)); exact HO_1071000.out) hb); have n1_ := am_ (Kd.R_below (by (with_reducible repeat (first | apply Kd.R_alloc | apply Kd.R_drewN | apply Kd.R_drew)); exact HO_1071001.out) hb); have n2_ := am_ (Kd.R_below (by (with_reducible repeat (first | apply Kd.R_alloc | apply Kd.R_drewN | apply Kd.R_drew)); exact HO_1078000.out) hb); have n3_ := am_ (Kd.R_below (by (with_reducible repeat (first | apply Kd.R_alloc | apply Kd.R_drewN | apply Kd.R_drew)); exact HO_1078001.out) hb); have n4_ := am_ (Kd.R_below (by (with_reducible repeat (first | apply Kd.R_alloc | apply Kd.R_drewN | apply Kd.R_drew)); exact HO_1086000.out) hb); have n5_ := am_ (Kd.R_below (by (with_reducible repeat (first | apply Kd.R_alloc | apply Kd.R_drewN | apply Kd.R_drew)); exact HO_1086001.out) hb); have n6_ := am_ (Kd.R_below (by (with_reducible repeat (first | apply Kd.R_alloc | apply Kd.R_drewN | apply Kd.R_drew)); exact HO1104.out) hb); have n7_ := am_ (Kd.R_below (by (with_reducible repeat (first | apply Kd.R_alloc | apply Kd.R_drewN | apply Kd.R_drew)); exact HO1107.out) hb); have n8_ := am_ (Kd.R_below (by (with_reducible repeat (first | apply Kd.R_alloc | apply Kd.R_drewN | apply Kd.R_drew)); exact HO1110.out) hb); have n9_ := am_ (Kd.R_below (by (with_reducible repeat (first | apply Kd.R_alloc | apply Kd.R_drewN | apply Kd.R_drew)); exact HO1113.out) hb); have n10_ := am_ (blk_below (g := gb1055) (o := .cells #[.slice A0_0 l0_0.length c0_0, .slice A0_1 l0_1.length c0_1] 33 (0, 0)) (by (with_reducible repeat (first | refine blk_drewN ?_ _ | refine blk_drew ?_ | refine blk_alloc ?_ _)); exact BK1055.out) hb); have n11_ := am_ (blk_below (g := gb1070) (o := .cells #[.slice Ao22 t1063.length co22, .slice Ao25 t1066.length co25] 35 (0, 0)) (by (with_reducible repeat (first | refine blk_drewN ?_ _ | refine blk_drew ?_ | refine blk_alloc ?_ _)); exact BK1070.out) hb); have n12_ := am_ (blk_below (g := gb1077) (o := .cells #[.slice Ao29 t1095.length co29, .slice Ao33 t1096.length co33] 35 (0, 0)) (by (with_reducible repeat (first | refine blk_drewN ?_ _ | refine blk_drew ?_ | refine blk_alloc ?_ _)); exact BK1077.out) hb); have n13_ := am_ (blk_below (g := gb1085) (o := .cells #[.slice Ao36 t1078.length co36, .slice Ao41 t1081.length co41] 35 (0, 0)) (by (with_reducible repeat (first | refine blk_drewN ?_ _ | refine blk_drew ?_ | refine blk_alloc ?_ _)); exact BK1085.out) hb); have n14_ := am_ (below_step (by repeat (first | (with_reducible first | exact HB.out | apply below_alloc | apply pw_below_drewN | apply below_drew1 | refine below_set ?_ GE1055.out | refine below_set ?_ GE1070.out | refine below_set ?_ GE1077.out | refine below_set ?_ GE1085.out) | exact HB.out)) hb); have n15_ := am_ (hbox); have n16_ := am_ ((by rw [hg]; exact (below_size (by repeat (first | (with_reducible first | exact HB.out | apply below_alloc | apply pw_below_drewN | apply below_drew1 | refine below_set ?_ GE1055.out | refine below_set ?_ GE1070.out | refine below_set ?_ GE1077.out | refine below_set ?_ GE1085.out) | exact HB.out))) : w.heap.size ≤ gb1115)); have n17_ := am_ ((by rw [hg]; exact (below_size (by repeat (first | (with_reducible first | exact HB.out | apply below_alloc | apply pw_below_drewN | apply below_drew1 | refine below_set ?_ GE1055.out | refine below_set ?_ GE1070.out | refine below_set ?_ GE1077.out | refine below_set ?_ GE1085.out) | exact HB.out))) : w.heap.size ≤ gb1115)); have n18_ := am_ ((by rw [hg]; exact Nat.ne_of_lt (blk_lt (g := gb1055) (o := .cells #[.slice A0_0 l0_0.length c0_0, .slice A0_1 l0_1.length c0_1] 33 (0, 0)) (by (with_reducible repeat (first | refine blk_drewN ?_ _ | refine blk_drew ?_ | refine blk_alloc ?_ _)); exact BK1055.out)) : gb1055 ≠ gb1115)); have n19_ := am_ ((by rw [hg]; exact Nat.ne_of_gt (blk_lt (g := gb1055) (o := .cells #[.slice A0_0 l0_0.length c0_0, .slice A0_1 l0_1.length c0_1] 33 (0, 0)) (by (with_reducible repeat (first | refine blk_drewN ?_ _ | refine blk_drew ?_ | refine blk_alloc ?_ _)); exact BK1055.out)) : gb1115 ≠ gb1055)); have n20_ := am_ ((by rw [hg]; exact Nat.ne_of_lt (blk_lt (g := gb1070) (o := .cells #[.slice Ao22 t1063.length co22, .slice Ao25 t1066.length co25] 35 (0, 0)) (by (with_reducible repeat (first | refine blk_drewN ?_ _ | refine blk_drew ?_ | refine blk_alloc ?_ _)); exact BK1070.out)) : gb1070 ≠ gb1115)); have n21_ := am_ ((by rw [hg]; exact Nat.ne_of_gt (blk_lt (g := gb1070) (o := .cells #[.slice Ao22 t1063.length co22, .slice Ao25 t1066.length co25] 35 (0, 0)) (by (with_reducible repeat (first | refine blk_drewN ?_ _ | refine blk_drew ?_ | refine blk_alloc ?_ _)); exact BK1070.out)) : gb1115 ≠ gb1070)); have n22_ := am_ ((by rw [hg]; exact Nat.ne_of_lt (blk_lt (g := gb1077) (o := .cells #[.slice Ao29 t1095.length co29, .slice Ao33 t1096.length co33] 35 (0, 0)) (by (with_reducible repeat (first | refine blk_drewN ?_ _ | refine blk_drew ?_ | refine blk_alloc ?_ _)); exact BK1077.out)) : gb1077 ≠ gb1115)); have n23_ := am_ ((by rw [hg]; exact Nat.ne_of_gt (blk_lt (g := gb1077) (o := .cells #[.slice Ao29 t1095.length co29, .slice Ao33 t1096.length co33] 35 (0, 0)) (by (with_reducible repeat (first | refine blk_drewN ?_ _ | refine blk_drew ?_ | refine blk_alloc ?_ _)); exact BK1077.out)) : gb1115 ≠ gb1077)); have n24_ := am_ ((by rw [hg]; exact Nat.ne_of_lt (blk_lt (g := gb1085) (o := .cells #[.slice Ao36 t1078.length co36, .slice Ao41 t1081.length co41] 35 (0, 0)) (by (with_reducible repeat (first | refine blk_drewN ?_ _ | refine blk_drew ?_ | refine blk_alloc ?_ _)); exact BK1085.out)) : gb1085 ≠ gb1115)); have n25_ := am_ ((by rw [hg]; exact Nat.ne_of_gt (blk_lt (g := gb1085) (o := .cells #[.slice Ao36 t1078.length co36, .slice Ao41 t1081.length co41] 35 (0, 0)) (by (with_reducible repeat (first | refine blk_drewN ?_ _ | refine blk_drew ?_ | refine blk_alloc ?_ _)); exact BK1085.out)) : gb1115 ≠ gb1085)); clear HO_1071000; clear HO_1071001; clear HO_1078000; clear HO_1078001; clear HO_1086000; clear HO_1086001; clear HO1104; clear HO1107; clear HO1110; clear HO1113; clear BK1055; clear BK1070; clear BK1077; clear BK1085; clear HB; have HO_1071000 := n0_; have HO_1071001 := n1_; have HO_1078000 := n2_; have HO_1078001 := n3_; have HO_1086000 := n4_; have HO_1086001 := n5_; have HO1104 := n6_; have HO1107 := n7_; have HO1110 := n8_; have HO1113 := n9_; have BK1055 := n10_; have BK1070 := n11_; have BK1077 := n12_; have BK1085 := n13_; have HB := n14_; have BK1115 := n15_; have GW1115 := n16_; have GE1115 := n17_; have NB1055_1115 := n18_; have NB1115_1055 := n19_; have NB1070_1115 := n20_; have NB1115_1070 := n21_; have NB1077_1115 := n22_; have NB1115_1077 := n23_; have NB1085_1115 := n24_; have NB1115_1085 := n25_; clear n0_ n1_ n2_ n3_ n4_ n5_ n6_ n7_ n8_ n9_ n10_ n11_ n12_ n13_ n14_ n15_ n16_ n17_ n18_ n19_ n20_ n21_ n22_ n23_ n24_ n25_; clear hb hbox hg; obtain ⟨Ao125, co125, eo125⟩ := Kd.R_slice HO1110.out; subst eo125; have hnb126 := NB1115_1055.out; have hnc126 := NB1055_1115.out; have hnb127 := NB1115_1070.out; have hnc127 := NB1070_1115.out; have hnb128 := NB1115_1077.out; have hnc128 := NB1077_1115.out; have hnb129 := NB1115_1085.out; have hnc129 := NB1085_1115.out; have hcz130_0 : w124.cell? ⟨gb1115, 0, none⟩ = some (.slice none 0 0) := (blk_cell BK1115.out 0).trans rfl; have hcz130_1 : w124.cell? ⟨gb1115, 1, none⟩ = some (.slice none 0 0) := (blk_cell BK1115.out 1).trans rfl; have hfz130_0 := blk_frozen BK1115.out 0; have hfz130_1 := blk_frozen BK1115.out 1; obtain ⟨Ao131, co131, eo131⟩ := Kd.R_slice HO1113.out; subst eo131))
           (try simp only [Act.put, List.setIfInBounds_toArray, List.set_cons_zero, List.set_cons_succ])
           go_cut [92] (fun v92 wc => ∃ (kq : Nat) (x92_108 : Bool), v92 = .bool x92_108 ∧ Aside0 (laws_FnExactSuffixOf.j2 kq t1098 x92_108 t1099 t1100 = some r) ∧ Aside0 (kq ≤ kj64) ∧ Aside0 (Kd.R (Kd.int .i64) 3 wc w.heap.size (fun k_ => some k_ ≠ ((.slice Ao25 t1066.length co25) : Value).ownBlock ∧ some k_ ≠ ((.slice Ao29 t1095.length co29) : Value).ownBlock ∧ some k_ ≠ ((.slice Ao33 t1096.length co33) : Value).ownBlock ∧ some k_ ≠ ((.slice Ao36 t1078.length co36) : Value).ownBlock ∧ some k_ ≠ ((.slice Ao41 t1081.length co41) : Value).ownBlock ∧ some k_ ≠ ((.slice Ao125 t1108.length co125) : Value).ownBlock ∧ some k_ ≠ ((.slice Ao131 t1111.length co131) : Value).ownBlock) (.slice Ao22 t1063.length co22) t1063) ∧ Aside0 (Kd.R (Kd.int .i64) 3 wc w.heap.size (fun k_ => some k_ ≠ ((.slice Ao22 t1063.length co22) : Value).ownBlock ∧ some k_ ≠ ((.slice Ao29 t1095.length co29) : Value).ownBlock ∧ some k_ ≠ ((.slice Ao33 t1096.length co33) : Value).ownBlock ∧ some k_ ≠ ((.slice Ao36 t1078.length co36) : Value).ownBlock ∧ some k_ ≠ ((.slice Ao41 t1081.length co41) : Value).ownBlock ∧ some k_ ≠ ((.slice Ao125 t1108.length co125) : Value).ownBlock ∧ some k_ ≠ ((.slice Ao131 t1111.length co131) : Value).ownBlock) (.slice Ao25 t1066.length co25) t1066) ∧ Aside0 (Kd.R (Kd.int .i64) 3 wc w.heap.size (fun k_ => some k_ ≠ ((.slice Ao22 t1063.length co22) : Value).ownBlock ∧ some k_ ≠ ((.slice Ao25 t1066.length co25) : Value).ownBlock ∧ some k_ ≠ ((.slice Ao33 t1096.length co33) : Value).ownBlock ∧ some k_ ≠ ((.slice Ao36 t1078.length co36) : Value).ownBlock ∧ some k_ ≠ ((.slice Ao41 t1081.length co41) : Value).ownBlock ∧ some k_ ≠ ((.slice Ao125 t1108.length co125) : Value).ownBlock ∧ some k_ ≠ ((.slice Ao131 t1111.length co131) : Value).ownBlock) (.slice Ao29 t1095.length co29) t1095) ∧ Aside0 (Kd.R (Kd.int .i64) 3 wc w.heap.size (fun k_ => some k_ ≠ ((.slice Ao22 t1063.length co22) : Value).ownBlock ∧ some k_ ≠ ((.slice Ao25 t1066.length co25) : Value).ownBlock ∧ some k_ ≠ ((.slice Ao29 t1095.length co29) : Value).ownBlock ∧ some k_ ≠ ((.slice Ao36 t1078.length co36) : Value).ownBlock ∧ some k_ ≠ ((.slice Ao41 t1081.length co41) : Value).ownBlock ∧ some k_ ≠ ((.slice Ao125 t1108.length co125) : Value).ownBlock ∧ some k_ ≠ ((.slice Ao131 t1111.length co131) : Value).ownBlock) (.slice Ao33 t1096.length co33) t1096) ∧ Aside0 (Kd.R (Kd.int .i64) 3 wc w.heap.size (fun k_ => some k_ ≠ ((.slice Ao22 t1063.length co22) : Value).ownBlock ∧ some k_ ≠ ((.slice Ao25 t1066.length co25) : Value).ownBlock ∧ some k_ ≠ ((.slice Ao29 t1095.length co29) : Value).ownBlock ∧ some k_ ≠ ((.slice Ao33 t1096.length co33) : Value).ownBlock ∧ some k_ ≠ ((.slice Ao41 t1081.length co41) : Value).ownBlock ∧ some k_ ≠ ((.slice Ao125 t1108.length co125) : Value).ownBlock ∧ some k_ ≠ ((.slice Ao131 t1111.length co131) : Value).ownBlock) (.slice Ao36 t1078.length co36) t1099) ∧ Aside0 (Kd.R (Kd.int .i64) 3 wc w.heap.size (fun k_ => some k_ ≠ ((.slice Ao22 t1063.length co22) : Value).ownBlock ∧ some k_ ≠ ((.slice Ao25 t1066.length co25) : Value).ownBlock ∧ some k_ ≠ ((.slice Ao29 t1095.length co29) : Value).ownBlock ∧ some k_ ≠ ((.slice Ao33 t1096.length co33) : Value).ownBlock ∧ some k_ ≠ ((.slice Ao36 t1078.length co36) : Value).ownBlock ∧ some k_ ≠ ((.slice Ao125 t1108.length co125) : Value).ownBlock ∧ some k_ ≠ ((.slice Ao131 t1111.length co131) : Value).ownBlock) (.slice Ao41 t1081.length co41) t1100) ∧ Aside0 (Kd.R (Kd.int .i64) 3 wc w.heap.size (fun k_ => some k_ ≠ ((.slice Ao22 t1063.length co22) : Value).ownBlock ∧ some k_ ≠ ((.slice Ao25 t1066.length co25) : Value).ownBlock ∧ some k_ ≠ ((.slice Ao29 t1095.length co29) : Value).ownBlock ∧ some k_ ≠ ((.slice Ao33 t1096.length co33) : Value).ownBlock ∧ some k_ ≠ ((.slice Ao36 t1078.length co36) : Value).ownBlock ∧ some k_ ≠ ((.slice Ao41 t1081.length co41) : Value).ownBlock ∧ some k_ ≠ ((.slice Ao131 t1111.length co131) : Value).ownBlock) (.slice Ao125 t1108.length co125) t1108) ∧ Aside0 (Kd.R (Kd.int .i64) 3 wc w.heap.size (fun k_ => some k_ ≠ ((.slice Ao22 t1063.length co22) : Value).ownBlock ∧ some k_ ≠ ((.slice Ao25 t1066.length co25) : Value).ownBlock ∧ some k_ ≠ ((.slice Ao29 t1095.length co29) : Value).ownBlock ∧ some k_ ≠ ((.slice Ao33 t1096.length co33) : Value).ownBlock ∧ some k_ ≠ ((.slice Ao36 t1078.length co36) : Value).ownBlock ∧ some k_ ≠ ((.slice Ao41 t1081.length co41) : Value).ownBlock ∧ some k_ ≠ ((.slice Ao125 t1108.length co125) : Value).ownBlock) (.slice Ao131 t1111.length co131) t1111) ∧ Aside0 (wc.heap[gb1055]? = some (.cells #[(.slice A0_0 l0_0.length c0_0), (.slice A0_1 l0_1.length c0_1)] 33 (0, 0))) ∧ Aside0 (wc.heap[gb1070]? = some (.cells #[(.slice Ao22 t1063.length co22), (.slice Ao25 t1066.length co25)] 35 (0, 0))) ∧ Aside0 (wc.heap[gb1077]? = some (.cells #[(.slice Ao29 t1095.length co29), (.slice Ao33 t1096.length co33)] 35 (0, 0))) ∧ Aside0 (wc.heap[gb1085]? = some (.cells #[(.slice Ao36 t1078.length co36), (.slice Ao41 t1081.length co41)] 35 (0, 0))) ∧ Aside0 (wc.heap[gb1115]? = some (.cells #[(.slice Ao125 t1108.length co125), (.slice Ao131 t1111.length co131)] 35 (0, 0))) ∧ Aside0 (Below w.heap.size w wc))
           case first =>
            have H := HC109.out
            clear HC109
            replace H := Option.bind_eq_some_iff.mp H
            obtain ⟨t1116, A1320, H⟩ := H
            replace H : (if t1116 = true then (laws_FnExactSuffixOf.j2 kj64 t1098 (t1114 != t1069) t1099 t1100) else (laws_FnExactSuffixOf.j2 kj64 t1098 true t1099 t1100)) = some r := H
            have A132 := am_ A1320
            clear A1320
            by_cases c133 : t1116 = true
            ·subst c133
             have H1 : (laws_FnExactSuffixOf.j2 kj64 t1098 (t1114 != t1069) t1099 t1100) = some r := by rw [if_pos rfl] at H; exact H
             clear H
             have H := H1
             clear H1
             have H' := am_ H
             clear H
             have hnb134 := NB1115_1055.out
             have hnc134 := NB1055_1115.out
             have hnb135 := NB1115_1070.out
             have hnc135 := NB1070_1115.out
             have hnb136 := NB1115_1077.out
             have hnc136 := NB1077_1115.out
             have hnb137 := NB1115_1085.out
             have hnc137 := NB1085_1115.out
             have hcz138_0 : w124.cell? ⟨gb1115, 0, none⟩ = some (.slice none 0 0) := (blk_cell BK1115.out 0).trans rfl
             have hcz138_1 : w124.cell? ⟨gb1115, 1, none⟩ = some (.slice none 0 0) := (blk_cell BK1115.out 1).trans rfl
             have hfz138_0 := blk_frozen BK1115.out 0
             have hfz138_1 := blk_frozen BK1115.out 1
             have hnb139 := NB1070_1055.out
             have hnc139 := NB1055_1070.out
             have hnb140 := NB1070_1077.out
             have hnc140 := NB1077_1070.out
             have hnb141 := NB1070_1085.out
             have hnc141 := NB1085_1070.out
             have hcz142_0 : w124.cell? ⟨gb1070, 0, none⟩ = some (.slice Ao22 t1063.length co22) := (blk_cell BK1070.out 0).trans rfl
             have hcz142_1 : w124.cell? ⟨gb1070, 1, none⟩ = some (.slice Ao25 t1066.length co25) := (blk_cell BK1070.out 1).trans rfl
             have hfz142_0 := blk_frozen BK1070.out 0
             have hfz142_1 := blk_frozen BK1070.out 1
             go_wp2_with (first | ((with_reducible refine gate_callee (f := 26) rfl ?_); refine goesL_ (some 86) rfl rfl Try.func26 (by kernel_rfl) rfl #[.agg #[.slice Ao125 t1108.length co125, .slice Ao131 t1111.length co131], .agg #[.slice Ao22 t1063.length co22, .slice Ao25 t1066.length co25]] rfl (by (try simp only [List.map_toArray, List.map_cons, List.map_nil]); first | done | rfl | (simp only [List.length_drop, List.length_take]; rfl)) ?_; (with_reducible refine (laws_eqLasso.calls kj64 _ _ t1108 _ _ t1111 _ _ t1063 _ _ t1066 true _ ?side1 ?side2 ?side3 ?side4 ?side5 ?side6 ?side7 ?side8 A132.out).mono ?_); (case side1 => refine (Kd.R_reads' (e := 3) (base := w.heap.size) (ok := fun k_ => ((((((((some k_ ≠ (.slice Ao131 t1111.length co131 : Value).ownBlock ∧ some k_ ≠ (.slice Ao22 t1063.length co22 : Value).ownBlock) ∧ some k_ ≠ (.slice Ao25 t1066.length co25 : Value).ownBlock) ∧ some k_ ≠ (.slice Ao29 t1095.length co29 : Value).ownBlock) ∧ some k_ ≠ (.slice Ao33 t1096.length co33 : Value).ownBlock) ∧ some k_ ≠ (.slice Ao36 t1078.length co36 : Value).ownBlock) ∧ some k_ ≠ (.slice Ao41 t1081.length co41 : Value).ownBlock) ∧ some k_ ≠ (.slice Ao121 t1102.length co121 : Value).ownBlock) ∧ some k_ ≠ (.slice Ao122 t1105.length co122 : Value).ownBlock)) (n := t1108.length) (c := co125) ?_).2.2; exact (by (with_reducible repeat (first | apply Kd.R_alloc | apply Kd.R_drewN | apply Kd.R_drew)); exact (Kd.R_mono (Kd.R_far (p := ⟨gb1115, 1, none⟩) (Kd.R_far (p := ⟨gb1115, 0, none⟩) (Kd.R_types HO1110.out BK1115.out (by decide)) (fun _ hk => hk.2) (.slice Ao125 t1108.length co125)) (fun _ hk => hk.2) (.slice Ao131 t1111.length co131)) (fun _ h_ => h_.1)))); (case side2 => exact (Kd.R_reads' HO1110.out).2.1); (case side3 => refine (Kd.R_reads' (e := 3) (base := w.heap.size) (ok := fun k_ => ((((((((some k_ ≠ (.slice Ao125 t1108.length co125 : Value).ownBlock ∧ some k_ ≠ (.slice Ao22 t1063.length co22 : Value).ownBlock) ∧ some k_ ≠ (.slice Ao25 t1066.length co25 : Value).ownBlock) ∧ some k_ ≠ (.slice Ao29 t1095.length co29 : Value).ownBlock) ∧ some k_ ≠ (.slice Ao33 t1096.length co33 : Value).ownBlock) ∧ some k_ ≠ (.slice Ao36 t1078.length co36 : Value).ownBlock) ∧ some k_ ≠ (.slice Ao41 t1081.length co41 : Value).ownBlock) ∧ some k_ ≠ (.slice Ao121 t1102.length co121 : Value).ownBlock) ∧ some k_ ≠ (.slice Ao122 t1105.length co122 : Value).ownBlock)) (n := t1111.length) (c := co131) ?_).2.2; exact (by (with_reducible repeat (first | apply Kd.R_alloc | apply Kd.R_drewN | apply Kd.R_drew)); exact (Kd.R_mono (Kd.R_far (p := ⟨gb1115, 1, none⟩) (Kd.R_far (p := ⟨gb1115, 0, none⟩) (Kd.R_types HO1113.out BK1115.out (by decide)) (fun _ hk => hk.2) (.slice Ao125 t1108.length co125)) (fun _ hk => hk.2) (.slice Ao131 t1111.length co131)) (fun _ h_ => h_.1)))); (case side4 => exact (Kd.R_reads' HO1113.out).2.1); (case side5 => refine (Kd.R_reads' (e := 3) (base := w.heap.size) (ok := fun k_ => (((((some k_ ≠ (.slice Ao25 t1066.length co25 : Value).ownBlock ∧ (some k_ ≠ (.slice Ao29 t1095.length co29 : Value).ownBlock ∧ (some k_ ≠ (.slice Ao33 t1096.length co33 : Value).ownBlock ∧ (some k_ ≠ (.slice Ao36 t1078.length co36 : Value).ownBlock ∧ some k_ ≠ (.slice Ao41 t1081.length co41 : Value).ownBlock)))) ∧ some k_ ≠ (.slice Ao121 t1102.length co121 : Value).ownBlock) ∧ some k_ ≠ (.slice Ao122 t1105.length co122 : Value).ownBlock) ∧ some k_ ≠ (.slice Ao125 t1108.length co125 : Value).ownBlock) ∧ some k_ ≠ (.slice Ao131 t1111.length co131 : Value).ownBlock)) (n := t1063.length) (c := co22) ?_).2.2; exact (by (with_reducible repeat (first | apply Kd.R_alloc | apply Kd.R_drewN | apply Kd.R_drew)); exact (Kd.R_mono (Kd.R_far (p := ⟨gb1115, 1, none⟩) (Kd.R_far (p := ⟨gb1115, 0, none⟩) (Kd.R_types HO_1071000.out BK1115.out (by decide)) (fun _ hk => hk.2) (.slice Ao125 t1108.length co125)) (fun _ hk => hk.2) (.slice Ao131 t1111.length co131)) (fun _ h_ => h_.1)))); (case side6 => exact (Kd.R_reads' HO_1071000.out).2.1); (case side7 => refine (Kd.R_reads' (e := 3) (base := w.heap.size) (ok := fun k_ => (((((some k_ ≠ (.slice Ao22 t1063.length co22 : Value).ownBlock ∧ (some k_ ≠ (.slice Ao29 t1095.length co29 : Value).ownBlock ∧ (some k_ ≠ (.slice Ao33 t1096.length co33 : Value).ownBlock ∧ (some k_ ≠ (.slice Ao36 t1078.length co36 : Value).ownBlock ∧ some k_ ≠ (.slice Ao41 t1081.length co41 : Value).ownBlock)))) ∧ some k_ ≠ (.slice Ao121 t1102.length co121 : Value).ownBlock) ∧ some k_ ≠ (.slice Ao122 t1105.length co122 : Value).ownBlock) ∧ some k_ ≠ (.slice Ao125 t1108.length co125 : Value).ownBlock) ∧ some k_ ≠ (.slice Ao131 t1111.length co131 : Value).ownBlock)) (n := t1066.length) (c := co25) ?_).2.2; exact (by (with_reducible repeat (first | apply Kd.R_alloc | apply Kd.R_drewN | apply Kd.R_drew)); exact (Kd.R_mono (Kd.R_far (p := ⟨gb1115, 1, none⟩) (Kd.R_far (p := ⟨gb1115, 0, none⟩) (Kd.R_types HO_1071001.out BK1115.out (by decide)) (fun _ hk => hk.2) (.slice Ao125 t1108.length co125)) (fun _ hk => hk.2) (.slice Ao131 t1111.length co131)) (fun _ h_ => h_.1)))); (case side8 => exact (Kd.R_reads' HO_1071001.out).2.1); rintro e w143 ⟨rfl, hb⟩; refine ⟨_, rfl, ?_⟩; have n0_ := am_ (Kd.R_below (by (with_reducible repeat (first | apply Kd.R_alloc | apply Kd.R_drewN | apply Kd.R_drew)); exact (Kd.R_mono (Kd.R_far (p := ⟨gb1115, 1, none⟩) (Kd.R_far (p := ⟨gb1115, 0, none⟩) (Kd.R_types HO_1071000.out BK1115.out (by decide)) (fun _ hk => hk.2) (.slice Ao125 t1108.length co125)) (fun _ hk => hk.2) (.slice Ao131 t1111.length co131)) (fun _ h_ => h_.1))) hb); have n1_ := am_ (Kd.R_below (by (with_reducible repeat (first | apply Kd.R_alloc | apply Kd.R_drewN | apply Kd.R_drew)); exact (Kd.R_mono (Kd.R_far (p := ⟨gb1115, 1, none⟩) (Kd.R_far (p := ⟨gb1115, 0, none⟩) (Kd.R_types HO_1071001.out BK1115.out (by decide)) (fun _ hk => hk.2) (.slice Ao125 t1108.length co125)) (fun _ hk => hk.2) (.slice Ao131 t1111.length co131)) (fun _ h_ => h_.1))) hb); have n2_ := am_ (Kd.R_below (by (with_reducible repeat (first | apply Kd.R_alloc | apply Kd.R_drewN | apply Kd.R_drew)); exact (Kd.R_mono (Kd.R_far (p := ⟨gb1115, 1, none⟩) (Kd.R_far (p := ⟨gb1115, 0, none⟩) (Kd.R_types HO_1078000.out BK1115.out (by decide)) (fun _ hk => hk.2) (.slice Ao125 t1108.length co125)) (fun _ hk => hk.2) (.slice Ao131 t1111.length co131)) (fun _ h_ => h_.1))) hb); have n3_ := am_ (Kd.R_below (by (with_reducible repeat (first | apply Kd.R_alloc | apply Kd.R_drewN | apply Kd.R_drew)); exact (Kd.R_mono (Kd.R_far (p := ⟨gb1115, 1, none⟩) (Kd.R_far (p := ⟨gb1115, 0, none⟩) (Kd.R_types HO_1078001.out BK1115.out (by decide)) (fun _ hk => hk.2) (.slice Ao125 t1108.length co125)) (fun _ hk => hk.2) (.slice Ao131 t1111.length co131)) (fun _ h_ => h_.1))) hb); have n4_ := am_ (Kd.R_below (by (with_reducible repeat (first | apply Kd.R_alloc | apply Kd.R_drewN | apply Kd.R_drew)); exact (Kd.R_mono (Kd.R_far (p := ⟨gb1115, 1, none⟩) (Kd.R_far (p := ⟨gb1115, 0, none⟩) (Kd.R_types HO_1086000.out BK1115.out (by decide)) (fun _ hk => hk.2) (.slice Ao125 t1108.length co125)) (fun _ hk => hk.2) (.slice Ao131 t1111.length co131)) (fun _ h_ => h_.1))) hb); have n5_ := am_ (Kd.R_below (by (with_reducible repeat (first | apply Kd.R_alloc | apply Kd.R_drewN | apply Kd.R_drew)); exact (Kd.R_mono (Kd.R_far (p := ⟨gb1115, 1, none⟩) (Kd.R_far (p := ⟨gb1115, 0, none⟩) (Kd.R_types HO_1086001.out BK1115.out (by decide)) (fun _ hk => hk.2) (.slice Ao125 t1108.length co125)) (fun _ hk => hk.2) (.slice Ao131 t1111.length co131)) (fun _ h_ => h_.1))) hb); have n6_ := am_ (Kd.R_below (by (with_reducible repeat (first | apply Kd.R_alloc | apply Kd.R_drewN | apply Kd.R_drew)); exact (Kd.R_mono (Kd.R_far (p := ⟨gb1115, 1, none⟩) (Kd.R_far (p := ⟨gb1115, 0, none⟩) (Kd.R_types HO1104.out BK1115.out (by decide)) (fun _ hk => hk.2) (.slice Ao125 t1108.length co125)) (fun _ hk => hk.2) (.slice Ao131 t1111.length co131)) (fun _ h_ => h_.1))) hb); have n7_ := am_ (Kd.R_below (by (with_reducible repeat (first | apply Kd.R_alloc | apply Kd.R_drewN | apply Kd.R_drew)); exact (Kd.R_mono (Kd.R_far (p := ⟨gb1115, 1, none⟩) (Kd.R_far (p := ⟨gb1115, 0, none⟩) (Kd.R_types HO1107.out BK1115.out (by decide)) (fun _ hk => hk.2) (.slice Ao125 t1108.length co125)) (fun _ hk => hk.2) (.slice Ao131 t1111.length co131)) (fun _ h_ => h_.1))) hb); have n8_ := am_ (Kd.R_below (by (with_reducible repeat (first | apply Kd.R_alloc | apply Kd.R_drewN | apply Kd.R_drew)); exact (Kd.R_mono (Kd.R_far (p := ⟨gb1115, 1, none⟩) (Kd.R_far (p := ⟨gb1115, 0, none⟩) (Kd.R_types HO1110.out BK1115.out (by decide)) (fun _ hk => hk.2) (.slice Ao125 t1108.length co125)) (fun _ hk => hk.2) (.slice Ao131 t1111.length co131)) (fun _ h_ => h_.1))) hb); have n9_ := am_ (Kd.R_below (by (with_reducible repeat (first | apply Kd.R_alloc | apply Kd.R_drewN | apply Kd.R_drew)); exact (Kd.R_mono (Kd.R_far (p := ⟨gb1115, 1, none⟩) (Kd.R_far (p := ⟨gb1115, 0, none⟩) (Kd.R_types HO1113.out BK1115.out (by decide)) (fun _ hk => hk.2) (.slice Ao125 t1108.length co125)) (fun _ hk => hk.2) (.slice Ao131 t1111.length co131)) (fun _ h_ => h_.1))) hb); have n10_ := am_ (blk_below (g := gb1055) (o := .cells #[.slice A0_0 l0_0.length c0_0, .slice A0_1 l0_1.length c0_1] 33 (0, 0)) (by (with_reducible repeat (first | refine blk_drewN ?_ _ | refine blk_drew ?_ | refine blk_alloc ?_ _)); refine blk_far ?_ NB1055_1115.out _; (with_reducible repeat (first | refine blk_drewN ?_ _ | refine blk_drew ?_ | refine blk_alloc ?_ _)); refine blk_far ?_ NB1055_1115.out _; (with_reducible repeat (first | refine blk_drewN ?_ _ | refine blk_drew ?_ | refine blk_alloc ?_ _)); exact BK1055.out) hb); have n11_ := am_ (blk_below (g := gb1070) (o := .cells #[.slice Ao22 t1063.length co22, .slice Ao25 t1066.length co25] 35 (0, 0)) (by (with_reducible repeat (first | refine blk_drewN ?_ _ | refine blk_drew ?_ | refine blk_alloc ?_ _)); refine blk_far ?_ NB1070_1115.out _; (with_reducible repeat (first | refine blk_drewN ?_ _ | refine blk_drew ?_ | refine blk_alloc ?_ _)); refine blk_far ?_ NB1070_1115.out _; (with_reducible repeat (first | refine blk_drewN ?_ _ | refine blk_drew ?_ | refine blk_alloc ?_ _)); exact BK1070.out) hb); have n12_ := am_ (blk_below (g := gb1077) (o := .cells #[.slice Ao29 t1095.length co29, .slice Ao33 t1096.length co33] 35 (0, 0)) (by (with_reducible repeat (first | refine blk_drewN ?_ _ | refine blk_drew ?_ | refine blk_alloc ?_ _)); refine blk_far ?_ NB1077_1115.out _; (with_reducible repeat (first | refine blk_drewN ?_ _ | refine blk_drew ?_ | refine blk_alloc ?_ _)); refine blk_far ?_ NB1077_1115.out _; (with_reducible repeat (first | refine blk_drewN ?_ _ | refine blk_drew ?_ | refine blk_alloc ?_ _)); exact BK1077.out) hb); have n13_ := am_ (blk_below (g := gb1085) (o := .cells #[.slice Ao36 t1078.length co36, .slice Ao41 t1081.length co41] 35 (0, 0)) (by (with_reducible repeat (first | refine blk_drewN ?_ _ | refine blk_drew ?_ | refine blk_alloc ?_ _)); refine blk_far ?_ NB1085_1115.out _; (with_reducible repeat (first | refine blk_drewN ?_ _ | refine blk_drew ?_ | refine blk_alloc ?_ _)); refine blk_far ?_ NB1085_1115.out _; (with_reducible repeat (first | refine blk_drewN ?_ _ | refine blk_drew ?_ | refine blk_alloc ?_ _)); exact BK1085.out) hb); have n14_ := am_ (blk_below (g := gb1115) (o := .cells #[.slice Ao125 t1108.length co125, .slice Ao131 t1111.length co131] 35 (0, 0)) (by (with_reducible repeat (first | refine blk_drewN ?_ _ | refine blk_drew ?_ | refine blk_alloc ?_ _)); refine blk_put (cs := #[.slice Ao125 t1108.length co125, .slice none 0 0]) ?_ 1 _ rfl; (with_reducible repeat (first | refine blk_drewN ?_ _ | refine blk_drew ?_ | refine blk_alloc ?_ _)); refine blk_put (cs := #[.slice none 0 0, .slice none 0 0]) ?_ 0 _ rfl; (with_reducible repeat (first | refine blk_drewN ?_ _ | refine blk_drew ?_ | refine blk_alloc ?_ _)); exact BK1115.out) hb); have n15_ := am_ (below_step (by repeat (first | (with_reducible first | exact HB.out | apply below_alloc | apply pw_below_drewN | apply below_drew1 | refine below_set ?_ GE1055.out | refine below_set ?_ GE1070.out | refine below_set ?_ GE1077.out | refine below_set ?_ GE1085.out | refine below_set ?_ GE1115.out) | exact HB.out)) hb); clear HO_1071000; clear HO_1071001; clear HO_1078000; clear HO_1078001; clear HO_1086000; clear HO_1086001; clear HO1104; clear HO1107; clear HO1110; clear HO1113; clear BK1055; clear BK1070; clear BK1077; clear BK1085; clear BK1115; clear HB; have HO_1071000 := n0_; have HO_1071001 := n1_; have HO_1078000 := n2_; have HO_1078001 := n3_; have HO_1086000 := n4_; have HO_1086001 := n5_; have HO1104 := n6_; have HO1107 := n7_; have HO1110 := n8_; have HO1113 := n9_; have BK1055 := n10_; have BK1070 := n11_; have BK1077 := n12_; have BK1085 := n13_; have BK1115 := n14_; have HB := n15_; clear n0_ n1_ n2_ n3_ n4_ n5_ n6_ n7_ n8_ n9_ n10_ n11_ n12_ n13_ n14_ n15_; (try clear hb); (try clear hb2); (try clear hk); (try clear hi)))
             go_meet
             case rel => exact ⟨_, ((t1114 != t1069)), (by first | rfl | (simp; done) | (simp [*]; done)), H', ⟨by have := HJ11.out; have := HJ64.out; first | omega | exact Nat.le_refl _⟩, ⟨by (try simp only [hl1078000_64]); (try simp only [hl1078001_64]); (with_reducible repeat (first | apply Kd.R_alloc | apply Kd.R_drewN | apply Kd.R_drew)); exact Kd.R_mono HO_1071000.out (fun _ h => ⟨h.1.1.1.1.1, h.1.1.1.1.2.1, h.1.1.1.1.2.2.1, h.1.1.1.1.2.2.2.1, h.1.1.1.1.2.2.2.2, h.1.2, h.2⟩)⟩, ⟨by (try simp only [hl1078000_64]); (try simp only [hl1078001_64]); (with_reducible repeat (first | apply Kd.R_alloc | apply Kd.R_drewN | apply Kd.R_drew)); exact Kd.R_mono HO_1071001.out (fun _ h => ⟨h.1.1.1.1.1, h.1.1.1.1.2.1, h.1.1.1.1.2.2.1, h.1.1.1.1.2.2.2.1, h.1.1.1.1.2.2.2.2, h.1.2, h.2⟩)⟩, ⟨by (try simp only [hl1078000_64]); (try simp only [hl1078001_64]); (with_reducible repeat (first | apply Kd.R_alloc | apply Kd.R_drewN | apply Kd.R_drew)); exact Kd.R_mono HO_1078000.out (fun _ h => ⟨h.1.1.1.1.1, h.1.1.1.1.2.1, h.1.1.1.1.2.2.1, h.1.1.1.1.2.2.2.1, h.1.1.1.1.2.2.2.2, h.1.2, h.2⟩)⟩, ⟨by (try simp only [hl1078000_64]); (try simp only [hl1078001_64]); (with_reducible repeat (first | apply Kd.R_alloc | apply Kd.R_drewN | apply Kd.R_drew)); exact Kd.R_mono HO_1078001.out (fun _ h => ⟨h.1.1.1.1.1, h.1.1.1.1.2.1, h.1.1.1.1.2.2.1, h.1.1.1.1.2.2.2.1, h.1.1.1.1.2.2.2.2, h.1.2, h.2⟩)⟩, ⟨by (try simp only [hl1078000_64]); (try simp only [hl1078001_64]); (with_reducible repeat (first | apply Kd.R_alloc | apply Kd.R_drewN | apply Kd.R_drew)); exact Kd.R_mono HO_1086000.out (fun _ h => ⟨h.1.1.1.1.1, h.1.1.1.1.2.1, h.1.1.1.1.2.2.1, h.1.1.1.1.2.2.2.1, h.1.1.1.1.2.2.2.2, h.1.2, h.2⟩)⟩, ⟨by (try simp only [hl1078000_64]); (try simp only [hl1078001_64]); (with_reducible repeat (first | apply Kd.R_alloc | apply Kd.R_drewN | apply Kd.R_drew)); exact Kd.R_mono HO_1086001.out (fun _ h => ⟨h.1.1.1.1.1, h.1.1.1.1.2.1, h.1.1.1.1.2.2.1, h.1.1.1.1.2.2.2.1, h.1.1.1.1.2.2.2.2, h.1.2, h.2⟩)⟩, ⟨by (try simp only [hl1078000_64]); (try simp only [hl1078001_64]); (with_reducible repeat (first | apply Kd.R_alloc | apply Kd.R_drewN | apply Kd.R_drew)); exact Kd.R_mono HO1110.out (fun _ h => ⟨h.1.1.1.1.1.1.1.2, h.1.1.1.1.1.1.2, h.1.1.1.1.1.2, h.1.1.1.1.2, h.1.1.1.2, h.1.1.2, h.1.1.1.1.1.1.1.1⟩)⟩, ⟨by (try simp only [hl1078000_64]); (try simp only [hl1078001_64]); (with_reducible repeat (first | apply Kd.R_alloc | apply Kd.R_drewN | apply Kd.R_drew)); exact Kd.R_mono HO1113.out (fun _ h => ⟨h.1.1.1.1.1.1.1.2, h.1.1.1.1.1.1.2, h.1.1.1.1.1.2, h.1.1.1.1.2, h.1.1.1.2, h.1.1.2, h.1.1.1.1.1.1.1.1⟩)⟩, ⟨by (try simp only [hl1078000_64]); (try simp only [hl1078001_64]); (with_reducible repeat (first | refine blk_drewN ?_ _ | refine blk_drew ?_ | refine blk_alloc ?_ _)); exact BK1055.out⟩, ⟨by (try simp only [hl1078000_64]); (try simp only [hl1078001_64]); (with_reducible repeat (first | refine blk_drewN ?_ _ | refine blk_drew ?_ | refine blk_alloc ?_ _)); exact BK1070.out⟩, ⟨by (try simp only [hl1078000_64]); (try simp only [hl1078001_64]); (with_reducible repeat (first | refine blk_drewN ?_ _ | refine blk_drew ?_ | refine blk_alloc ?_ _)); exact BK1077.out⟩, ⟨by (try simp only [hl1078000_64]); (try simp only [hl1078001_64]); (with_reducible repeat (first | refine blk_drewN ?_ _ | refine blk_drew ?_ | refine blk_alloc ?_ _)); exact BK1085.out⟩, ⟨by (try simp only [hl1078000_64]); (try simp only [hl1078001_64]); (with_reducible repeat (first | refine blk_drewN ?_ _ | refine blk_drew ?_ | refine blk_alloc ?_ _)); exact BK1115.out⟩, ⟨by repeat (first | (with_reducible first | exact HB.out | apply below_alloc | apply pw_below_drewN | apply below_drew1 | refine below_set ?_ GE1055.out | refine below_set ?_ GE1070.out | refine below_set ?_ GE1077.out | refine below_set ?_ GE1085.out | refine below_set ?_ GE1115.out) | exact HB.out)⟩⟩
            ·replace c133 := Bool.eq_false_iff.mpr c133
             subst c133
             have H1 : (laws_FnExactSuffixOf.j2 kj64 t1098 true t1099 t1100) = some r := by rw [if_neg (show ¬ (false = true) by decide)] at H; exact H
             clear H
             have H := H1
             clear H1
             have H' := am_ H
             clear H
             have hnb144 := NB1115_1055.out
             have hnc144 := NB1055_1115.out
             have hnb145 := NB1115_1070.out
             have hnc145 := NB1070_1115.out
             have hnb146 := NB1115_1077.out
             have hnc146 := NB1077_1115.out
             have hnb147 := NB1115_1085.out
             have hnc147 := NB1085_1115.out
             have hcz148_0 : w124.cell? ⟨gb1115, 0, none⟩ = some (.slice none 0 0) := (blk_cell BK1115.out 0).trans rfl
             have hcz148_1 : w124.cell? ⟨gb1115, 1, none⟩ = some (.slice none 0 0) := (blk_cell BK1115.out 1).trans rfl
             have hfz148_0 := blk_frozen BK1115.out 0
             have hfz148_1 := blk_frozen BK1115.out 1
             have hnb149 := NB1070_1055.out
             have hnc149 := NB1055_1070.out
             have hnb150 := NB1070_1077.out
             have hnc150 := NB1077_1070.out
             have hnb151 := NB1070_1085.out
             have hnc151 := NB1085_1070.out
             have hcz152_0 : w124.cell? ⟨gb1070, 0, none⟩ = some (.slice Ao22 t1063.length co22) := (blk_cell BK1070.out 0).trans rfl
             have hcz152_1 : w124.cell? ⟨gb1070, 1, none⟩ = some (.slice Ao25 t1066.length co25) := (blk_cell BK1070.out 1).trans rfl
             have hfz152_0 := blk_frozen BK1070.out 0
             have hfz152_1 := blk_frozen BK1070.out 1
             go_wp2_with (first | ((with_reducible refine gate_callee (f := 26) rfl ?_); refine goesL_ (some 86) rfl rfl Try.func26 (by kernel_rfl) rfl #[.agg #[.slice Ao125 t1108.length co125, .slice Ao131 t1111.length co131], .agg #[.slice Ao22 t1063.length co22, .slice Ao25 t1066.length co25]] rfl (by (try simp only [List.map_toArray, List.map_cons, List.map_nil]); first | done | rfl | (simp only [List.length_drop, List.length_take]; rfl)) ?_; (with_reducible refine (laws_eqLasso.calls kj64 _ _ t1108 _ _ t1111 _ _ t1063 _ _ t1066 false _ ?side1 ?side2 ?side3 ?side4 ?side5 ?side6 ?side7 ?side8 A132.out).mono ?_); (case side1 => refine (Kd.R_reads' (e := 3) (base := w.heap.size) (ok := fun k_ => ((((((((some k_ ≠ (.slice Ao131 t1111.length co131 : Value).ownBlock ∧ some k_ ≠ (.slice Ao22 t1063.length co22 : Value).ownBlock) ∧ some k_ ≠ (.slice Ao25 t1066.length co25 : Value).ownBlock) ∧ some k_ ≠ (.slice Ao29 t1095.length co29 : Value).ownBlock) ∧ some k_ ≠ (.slice Ao33 t1096.length co33 : Value).ownBlock) ∧ some k_ ≠ (.slice Ao36 t1078.length co36 : Value).ownBlock) ∧ some k_ ≠ (.slice Ao41 t1081.length co41 : Value).ownBlock) ∧ some k_ ≠ (.slice Ao121 t1102.length co121 : Value).ownBlock) ∧ some k_ ≠ (.slice Ao122 t1105.length co122 : Value).ownBlock)) (n := t1108.length) (c := co125) ?_).2.2; exact (by (with_reducible repeat (first | apply Kd.R_alloc | apply Kd.R_drewN | apply Kd.R_drew)); exact (Kd.R_mono (Kd.R_far (p := ⟨gb1115, 1, none⟩) (Kd.R_far (p := ⟨gb1115, 0, none⟩) (Kd.R_types HO1110.out BK1115.out (by decide)) (fun _ hk => hk.2) (.slice Ao125 t1108.length co125)) (fun _ hk => hk.2) (.slice Ao131 t1111.length co131)) (fun _ h_ => h_.1)))); (case side2 => exact (Kd.R_reads' HO1110.out).2.1); (case side3 => refine (Kd.R_reads' (e := 3) (base := w.heap.size) (ok := fun k_ => ((((((((some k_ ≠ (.slice Ao125 t1108.length co125 : Value).ownBlock ∧ some k_ ≠ (.slice Ao22 t1063.length co22 : Value).ownBlock) ∧ some k_ ≠ (.slice Ao25 t1066.length co25 : Value).ownBlock) ∧ some k_ ≠ (.slice Ao29 t1095.length co29 : Value).ownBlock) ∧ some k_ ≠ (.slice Ao33 t1096.length co33 : Value).ownBlock) ∧ some k_ ≠ (.slice Ao36 t1078.length co36 : Value).ownBlock) ∧ some k_ ≠ (.slice Ao41 t1081.length co41 : Value).ownBlock) ∧ some k_ ≠ (.slice Ao121 t1102.length co121 : Value).ownBlock) ∧ some k_ ≠ (.slice Ao122 t1105.length co122 : Value).ownBlock)) (n := t1111.length) (c := co131) ?_).2.2; exact (by (with_reducible repeat (first | apply Kd.R_alloc | apply Kd.R_drewN | apply Kd.R_drew)); exact (Kd.R_mono (Kd.R_far (p := ⟨gb1115, 1, none⟩) (Kd.R_far (p := ⟨gb1115, 0, none⟩) (Kd.R_types HO1113.out BK1115.out (by decide)) (fun _ hk => hk.2) (.slice Ao125 t1108.length co125)) (fun _ hk => hk.2) (.slice Ao131 t1111.length co131)) (fun _ h_ => h_.1)))); (case side4 => exact (Kd.R_reads' HO1113.out).2.1); (case side5 => refine (Kd.R_reads' (e := 3) (base := w.heap.size) (ok := fun k_ => (((((some k_ ≠ (.slice Ao25 t1066.length co25 : Value).ownBlock ∧ (some k_ ≠ (.slice Ao29 t1095.length co29 : Value).ownBlock ∧ (some k_ ≠ (.slice Ao33 t1096.length co33 : Value).ownBlock ∧ (some k_ ≠ (.slice Ao36 t1078.length co36 : Value).ownBlock ∧ some k_ ≠ (.slice Ao41 t1081.length co41 : Value).ownBlock)))) ∧ some k_ ≠ (.slice Ao121 t1102.length co121 : Value).ownBlock) ∧ some k_ ≠ (.slice Ao122 t1105.length co122 : Value).ownBlock) ∧ some k_ ≠ (.slice Ao125 t1108.length co125 : Value).ownBlock) ∧ some k_ ≠ (.slice Ao131 t1111.length co131 : Value).ownBlock)) (n := t1063.length) (c := co22) ?_).2.2; exact (by (with_reducible repeat (first | apply Kd.R_alloc | apply Kd.R_drewN | apply Kd.R_drew)); exact (Kd.R_mono (Kd.R_far (p := ⟨gb1115, 1, none⟩) (Kd.R_far (p := ⟨gb1115, 0, none⟩) (Kd.R_types HO_1071000.out BK1115.out (by decide)) (fun _ hk => hk.2) (.slice Ao125 t1108.length co125)) (fun _ hk => hk.2) (.slice Ao131 t1111.length co131)) (fun _ h_ => h_.1)))); (case side6 => exact (Kd.R_reads' HO_1071000.out).2.1); (case side7 => refine (Kd.R_reads' (e := 3) (base := w.heap.size) (ok := fun k_ => (((((some k_ ≠ (.slice Ao22 t1063.length co22 : Value).ownBlock ∧ (some k_ ≠ (.slice Ao29 t1095.length co29 : Value).ownBlock ∧ (some k_ ≠ (.slice Ao33 t1096.length co33 : Value).ownBlock ∧ (some k_ ≠ (.slice Ao36 t1078.length co36 : Value).ownBlock ∧ some k_ ≠ (.slice Ao41 t1081.length co41 : Value).ownBlock)))) ∧ some k_ ≠ (.slice Ao121 t1102.length co121 : Value).ownBlock) ∧ some k_ ≠ (.slice Ao122 t1105.length co122 : Value).ownBlock) ∧ some k_ ≠ (.slice Ao125 t1108.length co125 : Value).ownBlock) ∧ some k_ ≠ (.slice Ao131 t1111.length co131 : Value).ownBlock)) (n := t1066.length) (c := co25) ?_).2.2; exact (by (with_reducible repeat (first | apply Kd.R_alloc | apply Kd.R_drewN | apply Kd.R_drew)); exact (Kd.R_mono (Kd.R_far (p := ⟨gb1115, 1, none⟩) (Kd.R_far (p := ⟨gb1115, 0, none⟩) (Kd.R_types HO_1071001.out BK1115.out (by decide)) (fun _ hk => hk.2) (.slice Ao125 t1108.length co125)) (fun _ hk => hk.2) (.slice Ao131 t1111.length co131)) (fun _ h_ => h_.1)))); (case side8 => exact (Kd.R_reads' HO_1071001.out).2.1); rintro e w153 ⟨rfl, hb⟩; refine ⟨_, rfl, ?_⟩; have n0_ := am_ (Kd.R_below (by (with_reducible repeat (first | apply Kd.R_alloc | apply Kd.R_drewN | apply Kd.R_drew)); exact (Kd.R_mono (Kd.R_far (p := ⟨gb1115, 1, none⟩) (Kd.R_far (p := ⟨gb1115, 0, none⟩) (Kd.R_types HO_1071000.out BK1115.out (by decide)) (fun _ hk => hk.2) (.slice Ao125 t1108.length co125)) (fun _ hk => hk.2) (.slice Ao131 t1111.length co131)) (fun _ h_ => h_.1))) hb); have n1_ := am_ (Kd.R_below (by (with_reducible repeat (first | apply Kd.R_alloc | apply Kd.R_drewN | apply Kd.R_drew)); exact (Kd.R_mono (Kd.R_far (p := ⟨gb1115, 1, none⟩) (Kd.R_far (p := ⟨gb1115, 0, none⟩) (Kd.R_types HO_1071001.out BK1115.out (by decide)) (fun _ hk => hk.2) (.slice Ao125 t1108.length co125)) (fun _ hk => hk.2) (.slice Ao131 t1111.length co131)) (fun _ h_ => h_.1))) hb); have n2_ := am_ (Kd.R_below (by (with_reducible repeat (first | apply Kd.R_alloc | apply Kd.R_drewN | apply Kd.R_drew)); exact (Kd.R_mono (Kd.R_far (p := ⟨gb1115, 1, none⟩) (Kd.R_far (p := ⟨gb1115, 0, none⟩) (Kd.R_types HO_1078000.out BK1115.out (by decide)) (fun _ hk => hk.2) (.slice Ao125 t1108.length co125)) (fun _ hk => hk.2) (.slice Ao131 t1111.length co131)) (fun _ h_ => h_.1))) hb); have n3_ := am_ (Kd.R_below (by (with_reducible repeat (first | apply Kd.R_alloc | apply Kd.R_drewN | apply Kd.R_drew)); exact (Kd.R_mono (Kd.R_far (p := ⟨gb1115, 1, none⟩) (Kd.R_far (p := ⟨gb1115, 0, none⟩) (Kd.R_types HO_1078001.out BK1115.out (by decide)) (fun _ hk => hk.2) (.slice Ao125 t1108.length co125)) (fun _ hk => hk.2) (.slice Ao131 t1111.length co131)) (fun _ h_ => h_.1))) hb); have n4_ := am_ (Kd.R_below (by (with_reducible repeat (first | apply Kd.R_alloc | apply Kd.R_drewN | apply Kd.R_drew)); exact (Kd.R_mono (Kd.R_far (p := ⟨gb1115, 1, none⟩) (Kd.R_far (p := ⟨gb1115, 0, none⟩) (Kd.R_types HO_1086000.out BK1115.out (by decide)) (fun _ hk => hk.2) (.slice Ao125 t1108.length co125)) (fun _ hk => hk.2) (.slice Ao131 t1111.length co131)) (fun _ h_ => h_.1))) hb); have n5_ := am_ (Kd.R_below (by (with_reducible repeat (first | apply Kd.R_alloc | apply Kd.R_drewN | apply Kd.R_drew)); exact (Kd.R_mono (Kd.R_far (p := ⟨gb1115, 1, none⟩) (Kd.R_far (p := ⟨gb1115, 0, none⟩) (Kd.R_types HO_1086001.out BK1115.out (by decide)) (fun _ hk => hk.2) (.slice Ao125 t1108.length co125)) (fun _ hk => hk.2) (.slice Ao131 t1111.length co131)) (fun _ h_ => h_.1))) hb); have n6_ := am_ (Kd.R_below (by (with_reducible repeat (first | apply Kd.R_alloc | apply Kd.R_drewN | apply Kd.R_drew)); exact (Kd.R_mono (Kd.R_far (p := ⟨gb1115, 1, none⟩) (Kd.R_far (p := ⟨gb1115, 0, none⟩) (Kd.R_types HO1104.out BK1115.out (by decide)) (fun _ hk => hk.2) (.slice Ao125 t1108.length co125)) (fun _ hk => hk.2) (.slice Ao131 t1111.length co131)) (fun _ h_ => h_.1))) hb); have n7_ := am_ (Kd.R_below (by (with_reducible repeat (first | apply Kd.R_alloc | apply Kd.R_drewN | apply Kd.R_drew)); exact (Kd.R_mono (Kd.R_far (p := ⟨gb1115, 1, none⟩) (Kd.R_far (p := ⟨gb1115, 0, none⟩) (Kd.R_types HO1107.out BK1115.out (by decide)) (fun _ hk => hk.2) (.slice Ao125 t1108.length co125)) (fun _ hk => hk.2) (.slice Ao131 t1111.length co131)) (fun _ h_ => h_.1))) hb); have n8_ := am_ (Kd.R_below (by (with_reducible repeat (first | apply Kd.R_alloc | apply Kd.R_drewN | apply Kd.R_drew)); exact (Kd.R_mono (Kd.R_far (p := ⟨gb1115, 1, none⟩) (Kd.R_far (p := ⟨gb1115, 0, none⟩) (Kd.R_types HO1110.out BK1115.out (by decide)) (fun _ hk => hk.2) (.slice Ao125 t1108.length co125)) (fun _ hk => hk.2) (.slice Ao131 t1111.length co131)) (fun _ h_ => h_.1))) hb); have n9_ := am_ (Kd.R_below (by (with_reducible repeat (first | apply Kd.R_alloc | apply Kd.R_drewN | apply Kd.R_drew)); exact (Kd.R_mono (Kd.R_far (p := ⟨gb1115, 1, none⟩) (Kd.R_far (p := ⟨gb1115, 0, none⟩) (Kd.R_types HO1113.out BK1115.out (by decide)) (fun _ hk => hk.2) (.slice Ao125 t1108.length co125)) (fun _ hk => hk.2) (.slice Ao131 t1111.length co131)) (fun _ h_ => h_.1))) hb); have n10_ := am_ (blk_below (g := gb1055) (o := .cells #[.slice A0_0 l0_0.length c0_0, .slice A0_1 l0_1.length c0_1] 33 (0, 0)) (by (with_reducible repeat (first | refine blk_drewN ?_ _ | refine blk_drew ?_ | refine blk_alloc ?_ _)); refine blk_far ?_ NB1055_1115.out _; (with_reducible repeat (first | refine blk_drewN ?_ _ | refine blk_drew ?_ | refine blk_alloc ?_ _)); refine blk_far ?_ NB1055_1115.out _; (with_reducible repeat (first | refine blk_drewN ?_ _ | refine blk_drew ?_ | refine blk_alloc ?_ _)); exact BK1055.out) hb); have n11_ := am_ (blk_below (g := gb1070) (o := .cells #[.slice Ao22 t1063.length co22, .slice Ao25 t1066.length co25] 35 (0, 0)) (by (with_reducible repeat (first | refine blk_drewN ?_ _ | refine blk_drew ?_ | refine blk_alloc ?_ _)); refine blk_far ?_ NB1070_1115.out _; (with_reducible repeat (first | refine blk_drewN ?_ _ | refine blk_drew ?_ | refine blk_alloc ?_ _)); refine blk_far ?_ NB1070_1115.out _; (with_reducible repeat (first | refine blk_drewN ?_ _ | refine blk_drew ?_ | refine blk_alloc ?_ _)); exact BK1070.out) hb); have n12_ := am_ (blk_below (g := gb1077) (o := .cells #[.slice Ao29 t1095.length co29, .slice Ao33 t1096.length co33] 35 (0, 0)) (by (with_reducible repeat (first | refine blk_drewN ?_ _ | refine blk_drew ?_ | refine blk_alloc ?_ _)); refine blk_far ?_ NB1077_1115.out _; (with_reducible repeat (first | refine blk_drewN ?_ _ | refine blk_drew ?_ | refine blk_alloc ?_ _)); refine blk_far ?_ NB1077_1115.out _; (with_reducible repeat (first | refine blk_drewN ?_ _ | refine blk_drew ?_ | refine blk_alloc ?_ _)); exact BK1077.out) hb); have n13_ := am_ (blk_below (g := gb1085) (o := .cells #[.slice Ao36 t1078.length co36, .slice Ao41 t1081.length co41] 35 (0, 0)) (by (with_reducible repeat (first | refine blk_drewN ?_ _ | refine blk_drew ?_ | refine blk_alloc ?_ _)); refine blk_far ?_ NB1085_1115.out _; (with_reducible repeat (first | refine blk_drewN ?_ _ | refine blk_drew ?_ | refine blk_alloc ?_ _)); refine blk_far ?_ NB1085_1115.out _; (with_reducible repeat (first | refine blk_drewN ?_ _ | refine blk_drew ?_ | refine blk_alloc ?_ _)); exact BK1085.out) hb); have n14_ := am_ (blk_below (g := gb1115) (o := .cells #[.slice Ao125 t1108.length co125, .slice Ao131 t1111.length co131] 35 (0, 0)) (by (with_reducible repeat (first | refine blk_drewN ?_ _ | refine blk_drew ?_ | refine blk_alloc ?_ _)); refine blk_put (cs := #[.slice Ao125 t1108.length co125, .slice none 0 0]) ?_ 1 _ rfl; (with_reducible repeat (first | refine blk_drewN ?_ _ | refine blk_drew ?_ | refine blk_alloc ?_ _)); refine blk_put (cs := #[.slice none 0 0, .slice none 0 0]) ?_ 0 _ rfl; (with_reducible repeat (first | refine blk_drewN ?_ _ | refine blk_drew ?_ | refine blk_alloc ?_ _)); exact BK1115.out) hb); have n15_ := am_ (below_step (by repeat (first | (with_reducible first | exact HB.out | apply below_alloc | apply pw_below_drewN | apply below_drew1 | refine below_set ?_ GE1055.out | refine below_set ?_ GE1070.out | refine below_set ?_ GE1077.out | refine below_set ?_ GE1085.out | refine below_set ?_ GE1115.out) | exact HB.out)) hb); clear HO_1071000; clear HO_1071001; clear HO_1078000; clear HO_1078001; clear HO_1086000; clear HO_1086001; clear HO1104; clear HO1107; clear HO1110; clear HO1113; clear BK1055; clear BK1070; clear BK1077; clear BK1085; clear BK1115; clear HB; have HO_1071000 := n0_; have HO_1071001 := n1_; have HO_1078000 := n2_; have HO_1078001 := n3_; have HO_1086000 := n4_; have HO_1086001 := n5_; have HO1104 := n6_; have HO1107 := n7_; have HO1110 := n8_; have HO1113 := n9_; have BK1055 := n10_; have BK1070 := n11_; have BK1077 := n12_; have BK1085 := n13_; have BK1115 := n14_; have HB := n15_; clear n0_ n1_ n2_ n3_ n4_ n5_ n6_ n7_ n8_ n9_ n10_ n11_ n12_ n13_ n14_ n15_; (try clear hb); (try clear hb2); (try clear hk); (try clear hi)))
             go_meet
             case rel => exact ⟨_, (true), (by first | rfl | (simp; done) | (simp [*]; done)), H', ⟨by have := HJ11.out; have := HJ64.out; first | omega | exact Nat.le_refl _⟩, ⟨by (try simp only [hl1078000_64]); (try simp only [hl1078001_64]); (with_reducible repeat (first | apply Kd.R_alloc | apply Kd.R_drewN | apply Kd.R_drew)); exact Kd.R_mono HO_1071000.out (fun _ h => ⟨h.1.1.1.1.1, h.1.1.1.1.2.1, h.1.1.1.1.2.2.1, h.1.1.1.1.2.2.2.1, h.1.1.1.1.2.2.2.2, h.1.2, h.2⟩)⟩, ⟨by (try simp only [hl1078000_64]); (try simp only [hl1078001_64]); (with_reducible repeat (first | apply Kd.R_alloc | apply Kd.R_drewN | apply Kd.R_drew)); exact Kd.R_mono HO_1071001.out (fun _ h => ⟨h.1.1.1.1.1, h.1.1.1.1.2.1, h.1.1.1.1.2.2.1, h.1.1.1.1.2.2.2.1, h.1.1.1.1.2.2.2.2, h.1.2, h.2⟩)⟩, ⟨by (try simp only [hl1078000_64]); (try simp only [hl1078001_64]); (with_reducible repeat (first | apply Kd.R_alloc | apply Kd.R_drewN | apply Kd.R_drew)); exact Kd.R_mono HO_1078000.out (fun _ h => ⟨h.1.1.1.1.1, h.1.1.1.1.2.1, h.1.1.1.1.2.2.1, h.1.1.1.1.2.2.2.1, h.1.1.1.1.2.2.2.2, h.1.2, h.2⟩)⟩, ⟨by (try simp only [hl1078000_64]); (try simp only [hl1078001_64]); (with_reducible repeat (first | apply Kd.R_alloc | apply Kd.R_drewN | apply Kd.R_drew)); exact Kd.R_mono HO_1078001.out (fun _ h => ⟨h.1.1.1.1.1, h.1.1.1.1.2.1, h.1.1.1.1.2.2.1, h.1.1.1.1.2.2.2.1, h.1.1.1.1.2.2.2.2, h.1.2, h.2⟩)⟩, ⟨by (try simp only [hl1078000_64]); (try simp only [hl1078001_64]); (with_reducible repeat (first | apply Kd.R_alloc | apply Kd.R_drewN | apply Kd.R_drew)); exact Kd.R_mono HO_1086000.out (fun _ h => ⟨h.1.1.1.1.1, h.1.1.1.1.2.1, h.1.1.1.1.2.2.1, h.1.1.1.1.2.2.2.1, h.1.1.1.1.2.2.2.2, h.1.2, h.2⟩)⟩, ⟨by (try simp only [hl1078000_64]); (try simp only [hl1078001_64]); (with_reducible repeat (first | apply Kd.R_alloc | apply Kd.R_drewN | apply Kd.R_drew)); exact Kd.R_mono HO_1086001.out (fun _ h => ⟨h.1.1.1.1.1, h.1.1.1.1.2.1, h.1.1.1.1.2.2.1, h.1.1.1.1.2.2.2.1, h.1.1.1.1.2.2.2.2, h.1.2, h.2⟩)⟩, ⟨by (try simp only [hl1078000_64]); (try simp only [hl1078001_64]); (with_reducible repeat (first | apply Kd.R_alloc | apply Kd.R_drewN | apply Kd.R_drew)); exact Kd.R_mono HO1110.out (fun _ h => ⟨h.1.1.1.1.1.1.1.2, h.1.1.1.1.1.1.2, h.1.1.1.1.1.2, h.1.1.1.1.2, h.1.1.1.2, h.1.1.2, h.1.1.1.1.1.1.1.1⟩)⟩, ⟨by (try simp only [hl1078000_64]); (try simp only [hl1078001_64]); (with_reducible repeat (first | apply Kd.R_alloc | apply Kd.R_drewN | apply Kd.R_drew)); exact Kd.R_mono HO1113.out (fun _ h => ⟨h.1.1.1.1.1.1.1.2, h.1.1.1.1.1.1.2, h.1.1.1.1.1.2, h.1.1.1.1.2, h.1.1.1.2, h.1.1.2, h.1.1.1.1.1.1.1.1⟩)⟩, ⟨by (try simp only [hl1078000_64]); (try simp only [hl1078001_64]); (with_reducible repeat (first | refine blk_drewN ?_ _ | refine blk_drew ?_ | refine blk_alloc ?_ _)); exact BK1055.out⟩, ⟨by (try simp only [hl1078000_64]); (try simp only [hl1078001_64]); (with_reducible repeat (first | refine blk_drewN ?_ _ | refine blk_drew ?_ | refine blk_alloc ?_ _)); exact BK1070.out⟩, ⟨by (try simp only [hl1078000_64]); (try simp only [hl1078001_64]); (with_reducible repeat (first | refine blk_drewN ?_ _ | refine blk_drew ?_ | refine blk_alloc ?_ _)); exact BK1077.out⟩, ⟨by (try simp only [hl1078000_64]); (try simp only [hl1078001_64]); (with_reducible repeat (first | refine blk_drewN ?_ _ | refine blk_drew ?_ | refine blk_alloc ?_ _)); exact BK1085.out⟩, ⟨by (try simp only [hl1078000_64]); (try simp only [hl1078001_64]); (with_reducible repeat (first | refine blk_drewN ?_ _ | refine blk_drew ?_ | refine blk_alloc ?_ _)); exact BK1115.out⟩, ⟨by repeat (first | (with_reducible first | exact HB.out | apply below_alloc | apply pw_below_drewN | apply below_drew1 | refine below_set ?_ GE1055.out | refine below_set ?_ GE1070.out | refine below_set ?_ GE1077.out | refine below_set ?_ GE1085.out | refine below_set ?_ GE1115.out) | exact HB.out)⟩⟩
           case rest =>
            clear HC109
            try clear c1
            try clear c2
            try clear p2
            try clear c3
            try clear c4
            try clear c4b0
            try clear c5
            try clear c6
            try clear c7
            try clear c8
            try clear c9
            try clear c10
            try clear c11
            try clear c12
            try clear c13
            try clear c14
            try clear c15
            try clear c22
            try clear c23
            try clear c24
            try clear c25
            try clear c26
            try clear c27
            try clear c28
            try clear c30
            try clear c31
            try clear c37
            try clear c38
            try clear c39
            try clear c43
            try clear c44
            try clear c45
            try clear c46
            try clear c48
            try clear c49
            try clear c52
            try clear c53
            try clear c54
            try clear c56
            try clear c57
            try clear c60
            try clear c63
            try clear c71
            try clear c72
            try clear c73
            try clear c76
            try clear c76b0
            try clear c78
            try clear c79
            try clear c80
            try clear c81
            try clear c83
            try clear c84
            try clear c87
            try clear c88
            try clear c89
            try clear c91
            try clear c92
            try clear c95
            try clear c98
            try clear c98b0
            try clear c99
            try clear c100
            try clear c101
            try clear c106
            try clear c106b0
            try clear c106b1
            try clear c110
            try clear c111
            try clear c112
            try clear c117
            try clear c118
            try clear c126
            try clear c127
            try clear c128
            try clear c129
            try clear c133
            try clear c134
            try clear c135
            try clear c136
            try clear c137
            try clear c139
            try clear c140
            try clear c141
            try clear c144
            try clear c145
            try clear c146
            try clear c147
            try clear c149
            try clear c150
            try clear c151
            try clear hcz102_0
            try clear hcz102_1
            try clear hcz104_0
            try clear hcz104_1
            try clear hcz113_0
            try clear hcz113_1
            try clear hcz115_0
            try clear hcz115_1
            try clear hcz119_0
            try clear hcz119_1
            try clear hcz130_0
            try clear hcz130_1
            try clear hcz138_0
            try clear hcz138_1
            try clear hcz142_0
            try clear hcz142_1
            try clear hcz148_0
            try clear hcz148_1
            try clear hcz14_0
            try clear hcz14_1
            try clear hcz152_0
            try clear hcz152_1
            try clear hcz16_0
            try clear hcz16_1
            try clear hcz24_0
            try clear hcz24_1
            try clear hcz26_0
            try clear hcz26_1
            try clear hcz32_0
            try clear hcz32_1
            try clear hcz40_0
            try clear hcz40_1
            try clear hcz47_0
            try clear hcz47_1
            try clear hcz50_0
            try clear hcz50_1
            try clear hcz55_0
            try clear hcz55_1
            try clear hcz58_0
            try clear hcz58_1
            try clear hcz6_0
            try clear hcz6_1
            try clear hcz74_0
            try clear hcz74_1
            try clear hcz82_0
            try clear hcz82_1
            try clear hcz85_0
            try clear hcz85_1
            try clear hcz90_0
            try clear hcz90_1
            try clear hcz93_0
            try clear hcz93_1
            try clear hfz102_0
            try clear hfz102_1
            try clear hfz104_0
            try clear hfz104_1
            try clear hfz113_0
            try clear hfz113_1
            try clear hfz115_0
            try clear hfz115_1
            try clear hfz119_0
            try clear hfz119_1
            try clear hfz130_0
            try clear hfz130_1
            try clear hfz138_0
            try clear hfz138_1
            try clear hfz142_0
            try clear hfz142_1
            try clear hfz148_0
            try clear hfz148_1
            try clear hfz14_0
            try clear hfz14_1
            try clear hfz152_0
            try clear hfz152_1
            try clear hfz16_0
            try clear hfz16_1
            try clear hfz24_0
            try clear hfz24_1
            try clear hfz26_0
            try clear hfz26_1
            try clear hfz32_0
            try clear hfz32_1
            try clear hfz40_0
            try clear hfz40_1
            try clear hfz47_0
            try clear hfz47_1
            try clear hfz50_0
            try clear hfz50_1
            try clear hfz55_0
            try clear hfz55_1
            try clear hfz58_0
            try clear hfz58_1
            try clear hfz6_0
            try clear hfz6_1
            try clear hfz74_0
            try clear hfz74_1
            try clear hfz82_0
            try clear hfz82_1
            try clear hfz85_0
            try clear hfz85_1
            try clear hfz90_0
            try clear hfz90_1
            try clear hfz93_0
            try clear hfz93_1
            try clear p2
            obtain ⟨kq, x92_108, rfl, HA, HJ108, HO_1071000, HO_1071001, HO_1078000, HO_1078001, HO_1086000, HO_1086001, HO_1116000, HO_1116001, BK1055, BK1070, BK1077, BK1085, BK1115, HB⟩ := hcut
            have hl1086000_108 := (Kd.R_reads' HO_1086000.out).1
            rw [hl1086000_108] at HO_1086000
            (try simp only [hl1086000_108])
            (try simp only [hl1086000_108] at BK1055)
            (try simp only [hl1086000_108] at BK1070)
            (try simp only [hl1086000_108] at BK1077)
            (try simp only [hl1086000_108] at BK1085)
            (try simp only [hl1086000_108] at BK1115)
            (try simp only [hl1086000_108] at HO_1071000)
            (try simp only [hl1086000_108] at HO_1071001)
            (try simp only [hl1086000_108] at HO_1078000)
            (try simp only [hl1086000_108] at HO_1078001)
            (try simp only [hl1086000_108] at HO_1086001)
            (try simp only [hl1086000_108] at HO_1116000)
            (try simp only [hl1086000_108] at HO_1116001)
            have hl1086001_108 := (Kd.R_reads' HO_1086001.out).1
            rw [hl1086001_108] at HO_1086001
            (try simp only [hl1086001_108])
            (try simp only [hl1086001_108] at BK1055)
            (try simp only [hl1086001_108] at BK1070)
            (try simp only [hl1086001_108] at BK1077)
            (try simp only [hl1086001_108] at BK1085)
            (try simp only [hl1086001_108] at BK1115)
            (try simp only [hl1086001_108] at HO_1071000)
            (try simp only [hl1086001_108] at HO_1071001)
            (try simp only [hl1086001_108] at HO_1078000)
            (try simp only [hl1086001_108] at HO_1078001)
            (try simp only [hl1086001_108] at HO_1086000)
            (try simp only [hl1086001_108] at HO_1116000)
            (try simp only [hl1086001_108] at HO_1116001)
            cases kq with
            | zero => exact absurd HA.out (by simp [laws_FnExactSuffixOf.j2])
            | succ kj108 =>
             have H := HA.out
             clear HA
             simp only [laws_FnExactSuffixOf.j2] at H
             by_cases c154 : x92_108 = true
             ·subst c154
              have H1 : (some false) = some r := by rw [if_pos rfl] at H; exact H
              clear H
              have H := H1
              clear H1
              obtain rfl := Option.some.inj H
              go_wp2
              go_ret
              exact ⟨by first | rfl | (simp [errW_none, errW_some] <;> rfl) | (simp [*, errW_none, errW_some] <;> rfl), by repeat (first | (with_reducible first | exact HB.out | apply below_alloc | apply pw_below_drewN | apply below_drew1 | refine below_set ?_ GE1055.out | refine below_set ?_ GE1070.out | refine below_set ?_ GE1077.out | refine below_set ?_ GE1085.out | refine below_set ?_ GE1115.out) | exact HB.out)⟩
             ·replace c154 := Bool.eq_false_iff.mpr c154
              subst c154
              have H1 : ((laws_heldLasso.f kj108 t1099 t1100 1).bind fun t1117 => (if t1117 < 0 then (some false) else (if t1117 = t1098 then (some true) else (some false)))) = some r := by rw [if_neg (show ¬ (false = true) by decide)] at H; exact H
              clear H
              have H := H1
              clear H1
              replace H := Option.bind_eq_some_iff.mp H
              obtain ⟨t1117, A1550, H⟩ := H
              replace H : (if t1117 < 0 then (some false) else (if t1117 = t1098 then (some true) else (some false))) = some r := H
              have A155 := am_ A1550
              clear A1550
              by_cases c156 : t1117 < 0
              ·rw [if_pos c156] at H
               have c156b0 : decide (t1117 < 0) = true := decide_eq_true c156
               clear c156
               obtain rfl := Option.some.inj H
               have hnb157 := NB1085_1055.out
               have hnc157 := NB1055_1085.out
               have hnb158 := NB1085_1070.out
               have hnc158 := NB1070_1085.out
               have hnb159 := NB1085_1077.out
               have hnc159 := NB1077_1085.out
               have hnb160 := NB1085_1115.out
               have hnc160 := NB1115_1085.out
               have hcz161_0 : wc.cell? ⟨gb1085, 0, none⟩ = some (.slice Ao36 t1099.length co36) := (blk_cell BK1085.out 0).trans rfl
               have hcz161_1 : wc.cell? ⟨gb1085, 1, none⟩ = some (.slice Ao41 t1100.length co41) := (blk_cell BK1085.out 1).trans rfl
               have hfz161_0 := blk_frozen BK1085.out 0
               have hfz161_1 := blk_frozen BK1085.out 1
               go_wp2_with (first | ((with_reducible refine gate_callee (f := 28) rfl ?_); refine goesL_ (some 95) rfl rfl Try.func28 (by kernel_rfl) rfl #[.agg #[.slice Ao36 t1099.length co36, .slice Ao41 t1100.length co41], .int .i64 1] rfl (by (try simp only [List.map_toArray, List.map_cons, List.map_nil]); first | done | rfl | (simp only [List.length_drop, List.length_take]; rfl)) ?_; (with_reducible refine (laws_heldLasso.calls kj108 _ _ t1099 _ _ t1100 1 t1117 _ ?side1 ?side2 ?side3 ?side4 A155.out).mono ?_); (case side1 => repeat (first | exact (Kd.R_reads' HO_1086000.out).2.2 | (with_reducible first | refine Kd.C_alloc ?_ _ | refine Kd.C_drewN ?_ _ | refine Kd.C_drew ?_))); (case side2 => exact (Kd.R_reads' HO_1086000.out).2.1); (case side3 => repeat (first | exact (Kd.R_reads' HO_1086001.out).2.2 | (with_reducible first | refine Kd.C_alloc ?_ _ | refine Kd.C_drewN ?_ _ | refine Kd.C_drew ?_))); (case side4 => exact (Kd.R_reads' HO_1086001.out).2.1); rintro e w162 ⟨rfl, hb⟩; refine ⟨_, rfl, ?_⟩; have n0_ := am_ (Kd.R_below (by (with_reducible repeat (first | apply Kd.R_alloc | apply Kd.R_drewN | apply Kd.R_drew)); exact HO_1071000.out) hb); have n1_ := am_ (Kd.R_below (by (with_reducible repeat (first | apply Kd.R_alloc | apply Kd.R_drewN | apply Kd.R_drew)); exact HO_1071001.out) hb); have n2_ := am_ (Kd.R_below (by (with_reducible repeat (first | apply Kd.R_alloc | apply Kd.R_drewN | apply Kd.R_drew)); exact HO_1078000.out) hb); have n3_ := am_ (Kd.R_below (by (with_reducible repeat (first | apply Kd.R_alloc | apply Kd.R_drewN | apply Kd.R_drew)); exact HO_1078001.out) hb); have n4_ := am_ (Kd.R_below (by (with_reducible repeat (first | apply Kd.R_alloc | apply Kd.R_drewN | apply Kd.R_drew)); exact HO_1086000.out) hb); have n5_ := am_ (Kd.R_below (by (with_reducible repeat (first | apply Kd.R_alloc | apply Kd.R_drewN | apply Kd.R_drew)); exact HO_1086001.out) hb); have n6_ := am_ (Kd.R_below (by (with_reducible repeat (first | apply Kd.R_alloc | apply Kd.R_drewN | apply Kd.R_drew)); exact HO_1116000.out) hb); have n7_ := am_ (Kd.R_below (by (with_reducible repeat (first | apply Kd.R_alloc | apply Kd.R_drewN | apply Kd.R_drew)); exact HO_1116001.out) hb); have n8_ := am_ (blk_below (g := gb1055) (o := .cells #[.slice A0_0 l0_0.length c0_0, .slice A0_1 l0_1.length c0_1] 33 (0, 0)) (by (with_reducible repeat (first | refine blk_drewN ?_ _ | refine blk_drew ?_ | refine blk_alloc ?_ _)); exact BK1055.out) hb); have n9_ := am_ (blk_below (g := gb1070) (o := .cells #[.slice Ao22 t1063.length co22, .slice Ao25 t1066.length co25] 35 (0, 0)) (by (with_reducible repeat (first | refine blk_drewN ?_ _ | refine blk_drew ?_ | refine blk_alloc ?_ _)); exact BK1070.out) hb); have n10_ := am_ (blk_below (g := gb1077) (o := .cells #[.slice Ao29 t1095.length co29, .slice Ao33 t1096.length co33] 35 (0, 0)) (by (with_reducible repeat (first | refine blk_drewN ?_ _ | refine blk_drew ?_ | refine blk_alloc ?_ _)); exact BK1077.out) hb); have n11_ := am_ (blk_below (g := gb1085) (o := .cells #[.slice Ao36 t1099.length co36, .slice Ao41 t1100.length co41] 35 (0, 0)) (by (with_reducible repeat (first | refine blk_drewN ?_ _ | refine blk_drew ?_ | refine blk_alloc ?_ _)); exact BK1085.out) hb); have n12_ := am_ (blk_below (g := gb1115) (o := .cells #[.slice Ao125 t1108.length co125, .slice Ao131 t1111.length co131] 35 (0, 0)) (by (with_reducible repeat (first | refine blk_drewN ?_ _ | refine blk_drew ?_ | refine blk_alloc ?_ _)); exact BK1115.out) hb); have n13_ := am_ (below_step (by repeat (first | (with_reducible first | exact HB.out | apply below_alloc | apply pw_below_drewN | apply below_drew1 | refine below_set ?_ GE1055.out | refine below_set ?_ GE1070.out | refine below_set ?_ GE1077.out | refine below_set ?_ GE1085.out | refine below_set ?_ GE1115.out) | exact HB.out)) hb); clear HO_1071000; clear HO_1071001; clear HO_1078000; clear HO_1078001; clear HO_1086000; clear HO_1086001; clear HO_1116000; clear HO_1116001; clear BK1055; clear BK1070; clear BK1077; clear BK1085; clear BK1115; clear HB; have HO_1071000 := n0_; have HO_1071001 := n1_; have HO_1078000 := n2_; have HO_1078001 := n3_; have HO_1086000 := n4_; have HO_1086001 := n5_; have HO_1116000 := n6_; have HO_1116001 := n7_; have BK1055 := n8_; have BK1070 := n9_; have BK1077 := n10_; have BK1085 := n11_; have BK1115 := n12_; have HB := n13_; clear n0_ n1_ n2_ n3_ n4_ n5_ n6_ n7_ n8_ n9_ n10_ n11_ n12_ n13_; (try clear hb); (try clear hb2); (try clear hk); (try clear hi)))
               go_ret
               exact ⟨by first | rfl | (simp [errW_none, errW_some] <;> rfl) | (simp [*, errW_none, errW_some] <;> rfl), by repeat (first | (with_reducible first | exact HB.out | apply below_alloc | apply pw_below_drewN | apply below_drew1 | refine below_set ?_ GE1055.out | refine below_set ?_ GE1070.out | refine below_set ?_ GE1077.out | refine below_set ?_ GE1085.out | refine below_set ?_ GE1115.out) | exact HB.out)⟩
              ·rw [if_neg c156] at H
               have c156b0 : decide (t1117 < 0) = false := decide_eq_false c156
               clear c156
               by_cases c163 : t1117 = t1098
               ·rw [if_pos c163] at H
                have c163b0 : (t1117 == t1098) = true := beq_iff_eq.mpr c163
                have c163b1 : (t1117 != t1098) = false := bne_eq_false_iff_eq.mpr c163
                clear c163
                obtain rfl := Option.some.inj H
                have hnb164 := NB1085_1055.out
                have hnc164 := NB1055_1085.out
                have hnb165 := NB1085_1070.out
                have hnc165 := NB1070_1085.out
                have hnb166 := NB1085_1077.out
                have hnc166 := NB1077_1085.out
                have hnb167 := NB1085_1115.out
                have hnc167 := NB1115_1085.out
                have hcz168_0 : wc.cell? ⟨gb1085, 0, none⟩ = some (.slice Ao36 t1099.length co36) := (blk_cell BK1085.out 0).trans rfl
                have hcz168_1 : wc.cell? ⟨gb1085, 1, none⟩ = some (.slice Ao41 t1100.length co41) := (blk_cell BK1085.out 1).trans rfl
                have hfz168_0 := blk_frozen BK1085.out 0
                have hfz168_1 := blk_frozen BK1085.out 1
                go_wp2_with (first | ((with_reducible refine gate_callee (f := 28) rfl ?_); refine goesL_ (some 95) rfl rfl Try.func28 (by kernel_rfl) rfl #[.agg #[.slice Ao36 t1099.length co36, .slice Ao41 t1100.length co41], .int .i64 1] rfl (by (try simp only [List.map_toArray, List.map_cons, List.map_nil]); first | done | rfl | (simp only [List.length_drop, List.length_take]; rfl)) ?_; (with_reducible refine (laws_heldLasso.calls kj108 _ _ t1099 _ _ t1100 1 t1117 _ ?side1 ?side2 ?side3 ?side4 A155.out).mono ?_); (case side1 => repeat (first | exact (Kd.R_reads' HO_1086000.out).2.2 | (with_reducible first | refine Kd.C_alloc ?_ _ | refine Kd.C_drewN ?_ _ | refine Kd.C_drew ?_))); (case side2 => exact (Kd.R_reads' HO_1086000.out).2.1); (case side3 => repeat (first | exact (Kd.R_reads' HO_1086001.out).2.2 | (with_reducible first | refine Kd.C_alloc ?_ _ | refine Kd.C_drewN ?_ _ | refine Kd.C_drew ?_))); (case side4 => exact (Kd.R_reads' HO_1086001.out).2.1); rintro e w169 ⟨rfl, hb⟩; refine ⟨_, rfl, ?_⟩; have n0_ := am_ (Kd.R_below (by (with_reducible repeat (first | apply Kd.R_alloc | apply Kd.R_drewN | apply Kd.R_drew)); exact HO_1071000.out) hb); have n1_ := am_ (Kd.R_below (by (with_reducible repeat (first | apply Kd.R_alloc | apply Kd.R_drewN | apply Kd.R_drew)); exact HO_1071001.out) hb); have n2_ := am_ (Kd.R_below (by (with_reducible repeat (first | apply Kd.R_alloc | apply Kd.R_drewN | apply Kd.R_drew)); exact HO_1078000.out) hb); have n3_ := am_ (Kd.R_below (by (with_reducible repeat (first | apply Kd.R_alloc | apply Kd.R_drewN | apply Kd.R_drew)); exact HO_1078001.out) hb); have n4_ := am_ (Kd.R_below (by (with_reducible repeat (first | apply Kd.R_alloc | apply Kd.R_drewN | apply Kd.R_drew)); exact HO_1086000.out) hb); have n5_ := am_ (Kd.R_below (by (with_reducible repeat (first | apply Kd.R_alloc | apply Kd.R_drewN | apply Kd.R_drew)); exact HO_1086001.out) hb); have n6_ := am_ (Kd.R_below (by (with_reducible repeat (first | apply Kd.R_alloc | apply Kd.R_drewN | apply Kd.R_drew)); exact HO_1116000.out) hb); have n7_ := am_ (Kd.R_below (by (with_reducible repeat (first | apply Kd.R_alloc | apply Kd.R_drewN | apply Kd.R_drew)); exact HO_1116001.out) hb); have n8_ := am_ (blk_below (g := gb1055) (o := .cells #[.slice A0_0 l0_0.length c0_0, .slice A0_1 l0_1.length c0_1] 33 (0, 0)) (by (with_reducible repeat (first | refine blk_drewN ?_ _ | refine blk_drew ?_ | refine blk_alloc ?_ _)); exact BK1055.out) hb); have n9_ := am_ (blk_below (g := gb1070) (o := .cells #[.slice Ao22 t1063.length co22, .slice Ao25 t1066.length co25] 35 (0, 0)) (by (with_reducible repeat (first | refine blk_drewN ?_ _ | refine blk_drew ?_ | refine blk_alloc ?_ _)); exact BK1070.out) hb); have n10_ := am_ (blk_below (g := gb1077) (o := .cells #[.slice Ao29 t1095.length co29, .slice Ao33 t1096.length co33] 35 (0, 0)) (by (with_reducible repeat (first | refine blk_drewN ?_ _ | refine blk_drew ?_ | refine blk_alloc ?_ _)); exact BK1077.out) hb); have n11_ := am_ (blk_below (g := gb1085) (o := .cells #[.slice Ao36 t1099.length co36, .slice Ao41 t1100.length co41] 35 (0, 0)) (by (with_reducible repeat (first | refine blk_drewN ?_ _ | refine blk_drew ?_ | refine blk_alloc ?_ _)); exact BK1085.out) hb); have n12_ := am_ (blk_below (g := gb1115) (o := .cells #[.slice Ao125 t1108.length co125, .slice Ao131 t1111.length co131] 35 (0, 0)) (by (with_reducible repeat (first | refine blk_drewN ?_ _ | refine blk_drew ?_ | refine blk_alloc ?_ _)); exact BK1115.out) hb); have n13_ := am_ (below_step (by repeat (first | (with_reducible first | exact HB.out | apply below_alloc | apply pw_below_drewN | apply below_drew1 | refine below_set ?_ GE1055.out | refine below_set ?_ GE1070.out | refine below_set ?_ GE1077.out | refine below_set ?_ GE1085.out | refine below_set ?_ GE1115.out) | exact HB.out)) hb); clear HO_1071000; clear HO_1071001; clear HO_1078000; clear HO_1078001; clear HO_1086000; clear HO_1086001; clear HO_1116000; clear HO_1116001; clear BK1055; clear BK1070; clear BK1077; clear BK1085; clear BK1115; clear HB; have HO_1071000 := n0_; have HO_1071001 := n1_; have HO_1078000 := n2_; have HO_1078001 := n3_; have HO_1086000 := n4_; have HO_1086001 := n5_; have HO_1116000 := n6_; have HO_1116001 := n7_; have BK1055 := n8_; have BK1070 := n9_; have BK1077 := n10_; have BK1085 := n11_; have BK1115 := n12_; have HB := n13_; clear n0_ n1_ n2_ n3_ n4_ n5_ n6_ n7_ n8_ n9_ n10_ n11_ n12_ n13_; (try clear hb); (try clear hb2); (try clear hk); (try clear hi)))
                go_ret
                exact ⟨by first | rfl | (simp [errW_none, errW_some] <;> rfl) | (simp [*, errW_none, errW_some] <;> rfl), by repeat (first | (with_reducible first | exact HB.out | apply below_alloc | apply pw_below_drewN | apply below_drew1 | refine below_set ?_ GE1055.out | refine below_set ?_ GE1070.out | refine below_set ?_ GE1077.out | refine below_set ?_ GE1085.out | refine below_set ?_ GE1115.out) | exact HB.out)⟩
               ·rw [if_neg c163] at H
                have c163b0 : (t1117 == t1098) = false := beq_eq_false_iff_ne.mpr c163
                have c163b1 : (t1117 != t1098) = true := bne_iff_ne.mpr c163
                obtain rfl := Option.some.inj H
                have hnb170 := NB1085_1055.out
                have hnc170 := NB1055_1085.out
                have hnb171 := NB1085_1070.out
                have hnc171 := NB1070_1085.out
                have hnb172 := NB1085_1077.out
                have hnc172 := NB1077_1085.out
                have hnb173 := NB1085_1115.out
                have hnc173 := NB1115_1085.out
                have hcz174_0 : wc.cell? ⟨gb1085, 0, none⟩ = some (.slice Ao36 t1099.length co36) := (blk_cell BK1085.out 0).trans rfl
                have hcz174_1 : wc.cell? ⟨gb1085, 1, none⟩ = some (.slice Ao41 t1100.length co41) := (blk_cell BK1085.out 1).trans rfl
                have hfz174_0 := blk_frozen BK1085.out 0
                have hfz174_1 := blk_frozen BK1085.out 1
                go_wp2_with (first | ((with_reducible refine gate_callee (f := 28) rfl ?_); refine goesL_ (some 95) rfl rfl Try.func28 (by kernel_rfl) rfl #[.agg #[.slice Ao36 t1099.length co36, .slice Ao41 t1100.length co41], .int .i64 1] rfl (by (try simp only [List.map_toArray, List.map_cons, List.map_nil]); first | done | rfl | (simp only [List.length_drop, List.length_take]; rfl)) ?_; (with_reducible refine (laws_heldLasso.calls kj108 _ _ t1099 _ _ t1100 1 t1117 _ ?side1 ?side2 ?side3 ?side4 A155.out).mono ?_); (case side1 => repeat (first | exact (Kd.R_reads' HO_1086000.out).2.2 | (with_reducible first | refine Kd.C_alloc ?_ _ | refine Kd.C_drewN ?_ _ | refine Kd.C_drew ?_))); (case side2 => exact (Kd.R_reads' HO_1086000.out).2.1); (case side3 => repeat (first | exact (Kd.R_reads' HO_1086001.out).2.2 | (with_reducible first | refine Kd.C_alloc ?_ _ | refine Kd.C_drewN ?_ _ | refine Kd.C_drew ?_))); (case side4 => exact (Kd.R_reads' HO_1086001.out).2.1); rintro e w175 ⟨rfl, hb⟩; refine ⟨_, rfl, ?_⟩; have n0_ := am_ (Kd.R_below (by (with_reducible repeat (first | apply Kd.R_alloc | apply Kd.R_drewN | apply Kd.R_drew)); exact HO_1071000.out) hb); have n1_ := am_ (Kd.R_below (by (with_reducible repeat (first | apply Kd.R_alloc | apply Kd.R_drewN | apply Kd.R_drew)); exact HO_1071001.out) hb); have n2_ := am_ (Kd.R_below (by (with_reducible repeat (first | apply Kd.R_alloc | apply Kd.R_drewN | apply Kd.R_drew)); exact HO_1078000.out) hb); have n3_ := am_ (Kd.R_below (by (with_reducible repeat (first | apply Kd.R_alloc | apply Kd.R_drewN | apply Kd.R_drew)); exact HO_1078001.out) hb); have n4_ := am_ (Kd.R_below (by (with_reducible repeat (first | apply Kd.R_alloc | apply Kd.R_drewN | apply Kd.R_drew)); exact HO_1086000.out) hb); have n5_ := am_ (Kd.R_below (by (with_reducible repeat (first | apply Kd.R_alloc | apply Kd.R_drewN | apply Kd.R_drew)); exact HO_1086001.out) hb); have n6_ := am_ (Kd.R_below (by (with_reducible repeat (first | apply Kd.R_alloc | apply Kd.R_drewN | apply Kd.R_drew)); exact HO_1116000.out) hb); have n7_ := am_ (Kd.R_below (by (with_reducible repeat (first | apply Kd.R_alloc | apply Kd.R_drewN | apply Kd.R_drew)); exact HO_1116001.out) hb); have n8_ := am_ (blk_below (g := gb1055) (o := .cells #[.slice A0_0 l0_0.length c0_0, .slice A0_1 l0_1.length c0_1] 33 (0, 0)) (by (with_reducible repeat (first | refine blk_drewN ?_ _ | refine blk_drew ?_ | refine blk_alloc ?_ _)); exact BK1055.out) hb); have n9_ := am_ (blk_below (g := gb1070) (o := .cells #[.slice Ao22 t1063.length co22, .slice Ao25 t1066.length co25] 35 (0, 0)) (by (with_reducible repeat (first | refine blk_drewN ?_ _ | refine blk_drew ?_ | refine blk_alloc ?_ _)); exact BK1070.out) hb); have n10_ := am_ (blk_below (g := gb1077) (o := .cells #[.slice Ao29 t1095.length co29, .slice Ao33 t1096.length co33] 35 (0, 0)) (by (with_reducible repeat (first | refine blk_drewN ?_ _ | refine blk_drew ?_ | refine blk_alloc ?_ _)); exact BK1077.out) hb); have n11_ := am_ (blk_below (g := gb1085) (o := .cells #[.slice Ao36 t1099.length co36, .slice Ao41 t1100.length co41] 35 (0, 0)) (by (with_reducible repeat (first | refine blk_drewN ?_ _ | refine blk_drew ?_ | refine blk_alloc ?_ _)); exact BK1085.out) hb); have n12_ := am_ (blk_below (g := gb1115) (o := .cells #[.slice Ao125 t1108.length co125, .slice Ao131 t1111.length co131] 35 (0, 0)) (by (with_reducible repeat (first | refine blk_drewN ?_ _ | refine blk_drew ?_ | refine blk_alloc ?_ _)); exact BK1115.out) hb); have n13_ := am_ (below_step (by repeat (first | (with_reducible first | exact HB.out | apply below_alloc | apply pw_below_drewN | apply below_drew1 | refine below_set ?_ GE1055.out | refine below_set ?_ GE1070.out | refine below_set ?_ GE1077.out | refine below_set ?_ GE1085.out | refine below_set ?_ GE1115.out) | exact HB.out)) hb); clear HO_1071000; clear HO_1071001; clear HO_1078000; clear HO_1078001; clear HO_1086000; clear HO_1086001; clear HO_1116000; clear HO_1116001; clear BK1055; clear BK1070; clear BK1077; clear BK1085; clear BK1115; clear HB; have HO_1071000 := n0_; have HO_1071001 := n1_; have HO_1078000 := n2_; have HO_1078001 := n3_; have HO_1086000 := n4_; have HO_1086001 := n5_; have HO_1116000 := n6_; have HO_1116001 := n7_; have BK1055 := n8_; have BK1070 := n9_; have BK1077 := n10_; have BK1085 := n11_; have BK1115 := n12_; have HB := n13_; clear n0_ n1_ n2_ n3_ n4_ n5_ n6_ n7_ n8_ n9_ n10_ n11_ n12_ n13_; (try clear hb); (try clear hb2); (try clear hk); (try clear hi)))
                go_ret
                exact ⟨by first | rfl | (simp [errW_none, errW_some] <;> rfl) | (simp [*, errW_none, errW_some] <;> rfl), by repeat (first | (with_reducible first | exact HB.out | apply below_alloc | apply pw_below_drewN | apply below_drew1 | refine below_set ?_ GE1055.out | refine below_set ?_ GE1070.out | refine below_set ?_ GE1077.out | refine below_set ?_ GE1085.out | refine below_set ?_ GE1115.out) | exact HB.out)⟩
          ·rw [if_neg c106] at H
           have c106b0 : (t1101 == t1098) = false := beq_eq_false_iff_ne.mpr c106
           have c106b1 : (t1101 != t1098) = true := bne_iff_ne.mpr c106
           obtain rfl := Option.some.inj H
           have hnb176 := NB1085_1055.out
           have hnc176 := NB1055_1085.out
           have hnb177 := NB1085_1070.out
           have hnc177 := NB1070_1085.out
           have hnb178 := NB1085_1077.out
           have hnc178 := NB1077_1085.out
           have hcz179_0 : wc.cell? ⟨gb1085, 0, none⟩ = some (.slice Ao36 t1078.length co36) := (blk_cell BK1085.out 0).trans rfl
           have hcz179_1 : wc.cell? ⟨gb1085, 1, none⟩ = some (.slice Ao41 t1081.length co41) := (blk_cell BK1085.out 1).trans rfl
           have hfz179_0 := blk_frozen BK1085.out 0
           have hfz179_1 := blk_frozen BK1085.out 1
           go_wp2_with (first | ((with_reducible refine gate_callee (f := 27) rfl ?_); refine goesL_ (some 68) rfl rfl Try.func27 (by kernel_rfl) rfl #[.agg #[.slice Ao36 t1078.length co36, .slice Ao41 t1081.length co41], .int .i64 1] rfl (by (try simp only [List.map_toArray, List.map_cons, List.map_nil]); first | done | rfl | (simp only [List.length_drop, List.length_take]; rfl)) ?_; (with_reducible refine (laws_markLasso.calls kj64 (fun k_ => some k_ = (.slice Ao36 t1078.length co36 : Value).ownBlock) (.slice Ao36 t1078.length co36) t1078 (fun k_ => some k_ = (.slice Ao41 t1081.length co41 : Value).ownBlock) (.slice Ao41 t1081.length co41) t1081 1 t1098 t1099 t1100 w _ ?side1 ?side2 ?side3 ?side4 ?side5 A96.out).mono ?_); (case side1 => repeat (first | (with_reducible first | exact HB.out | apply below_alloc | apply pw_below_drewN | apply below_drew1 | refine below_set ?_ GE1055.out | refine below_set ?_ GE1070.out | refine below_set ?_ GE1077.out | refine below_set ?_ GE1085.out) | exact HB.out)); (case side2 => exact Kd.R_tight rfl HO_1086000.out); (case side3 => exact fun k_ e_ => (HO_1086000.out.1 k_ e_.symm).2.2.2.2); (case side4 => exact Kd.R_tight rfl HO_1086001.out); (case side5 => exact fun k_ e_ => (HO_1086001.out.1 k_ e_.symm).2.2.2.2); rintro e w180 ⟨rfl, hy0, hy1, hb, hkp⟩; refine ⟨_, rfl, ?_⟩; have n0_ := am_ (Kd.R_mono (ok' := fun k_ => some k_ ≠ (.slice Ao25 t1066.length co25 : Value).ownBlock ∧ some k_ ≠ (.slice Ao29 t1095.length co29 : Value).ownBlock ∧ some k_ ≠ (.slice Ao33 t1096.length co33 : Value).ownBlock ∧ some k_ ≠ (.slice Ao36 t1078.length co36 : Value).ownBlock ∧ some k_ ≠ (.slice Ao41 t1081.length co41 : Value).ownBlock) (Kd.R_keptB (HO_1071000.out) hkp (fun k_ hk_ hs_ => Or.elim hs_ (fun e_ => (hk_.2.2.2.1) e_) (fun e_ => (hk_.2.2.2.2) e_))) (fun k_ h => ⟨h.1.1, h.1.2.1, h.1.2.2.1, h.1.2.2.2.1, h.1.2.2.2.2⟩)); have n1_ := am_ (Kd.R_mono (ok' := fun k_ => some k_ ≠ (.slice Ao22 t1063.length co22 : Value).ownBlock ∧ some k_ ≠ (.slice Ao29 t1095.length co29 : Value).ownBlock ∧ some k_ ≠ (.slice Ao33 t1096.length co33 : Value).ownBlock ∧ some k_ ≠ (.slice Ao36 t1078.length co36 : Value).ownBlock ∧ some k_ ≠ (.slice Ao41 t1081.length co41 : Value).ownBlock) (Kd.R_keptB (HO_1071001.out) hkp (fun k_ hk_ hs_ => Or.elim hs_ (fun e_ => (hk_.2.2.2.1) e_) (fun e_ => (hk_.2.2.2.2) e_))) (fun k_ h => ⟨h.1.1, h.1.2.1, h.1.2.2.1, h.1.2.2.2.1, h.1.2.2.2.2⟩)); have n2_ := am_ (Kd.R_mono (ok' := fun k_ => some k_ ≠ (.slice Ao22 t1063.length co22 : Value).ownBlock ∧ some k_ ≠ (.slice Ao25 t1066.length co25 : Value).ownBlock ∧ some k_ ≠ (.slice Ao33 t1096.length co33 : Value).ownBlock ∧ some k_ ≠ (.slice Ao36 t1078.length co36 : Value).ownBlock ∧ some k_ ≠ (.slice Ao41 t1081.length co41 : Value).ownBlock) (Kd.R_keptB (HO_1078000.out) hkp (fun k_ hk_ hs_ => Or.elim hs_ (fun e_ => (hk_.2.2.2.1) e_) (fun e_ => (hk_.2.2.2.2) e_))) (fun k_ h => ⟨h.1.1, h.1.2.1, h.1.2.2.1, h.1.2.2.2.1, h.1.2.2.2.2⟩)); have n3_ := am_ (Kd.R_mono (ok' := fun k_ => some k_ ≠ (.slice Ao22 t1063.length co22 : Value).ownBlock ∧ some k_ ≠ (.slice Ao25 t1066.length co25 : Value).ownBlock ∧ some k_ ≠ (.slice Ao29 t1095.length co29 : Value).ownBlock ∧ some k_ ≠ (.slice Ao36 t1078.length co36 : Value).ownBlock ∧ some k_ ≠ (.slice Ao41 t1081.length co41 : Value).ownBlock) (Kd.R_keptB (HO_1078001.out) hkp (fun k_ hk_ hs_ => Or.elim hs_ (fun e_ => (hk_.2.2.2.1) e_) (fun e_ => (hk_.2.2.2.2) e_))) (fun k_ h => ⟨h.1.1, h.1.2.1, h.1.2.2.1, h.1.2.2.2.1, h.1.2.2.2.2⟩)); have n4_ := am_ (Kd.R_reok rfl hy0 (fun k_ e_ => HO_1086000.out.1 k_ e_)); have n5_ := am_ (Kd.R_reok rfl hy1 (fun k_ e_ => HO_1086001.out.1 k_ e_)); have n6_ := am_ (blk_kept (by (with_reducible repeat (first | refine blk_drewN ?_ _ | refine blk_drew ?_ | refine blk_alloc ?_ _)); exact BK1055.out) hkp (fun hs_ => Or.elim hs_ (fun e_ => (fun e_ => (Kd.R_ne HO_1086000.out BK1055.out (by decide)) e_) e_) (fun e_ => (fun e_ => (Kd.R_ne HO_1086001.out BK1055.out (by decide)) e_) e_))); have n7_ := am_ (blk_kept (by (with_reducible repeat (first | refine blk_drewN ?_ _ | refine blk_drew ?_ | refine blk_alloc ?_ _)); exact BK1070.out) hkp (fun hs_ => Or.elim hs_ (fun e_ => (fun e_ => (Kd.R_ne HO_1086000.out BK1070.out (by decide)) e_) e_) (fun e_ => (fun e_ => (Kd.R_ne HO_1086001.out BK1070.out (by decide)) e_) e_))); have n8_ := am_ (blk_kept (by (with_reducible repeat (first | refine blk_drewN ?_ _ | refine blk_drew ?_ | refine blk_alloc ?_ _)); exact BK1077.out) hkp (fun hs_ => Or.elim hs_ (fun e_ => (fun e_ => (Kd.R_ne HO_1086000.out BK1077.out (by decide)) e_) e_) (fun e_ => (fun e_ => (Kd.R_ne HO_1086001.out BK1077.out (by decide)) e_) e_))); have n9_ := am_ (blk_kept (by (with_reducible repeat (first | refine blk_drewN ?_ _ | refine blk_drew ?_ | refine blk_alloc ?_ _)); exact BK1085.out) hkp (fun hs_ => Or.elim hs_ (fun e_ => (fun e_ => (Kd.R_ne HO_1086000.out BK1085.out (by decide)) e_) e_) (fun e_ => (fun e_ => (Kd.R_ne HO_1086001.out BK1085.out (by decide)) e_) e_))); have n10_ := am_ (hb); clear HO_1071000; clear HO_1071001; clear HO_1078000; clear HO_1078001; clear HO_1086000; clear HO_1086001; clear BK1055; clear BK1070; clear BK1077; clear BK1085; clear HB; have HO_1071000 := n0_; have HO_1071001 := n1_; have HO_1078000 := n2_; have HO_1078001 := n3_; have HO_1086000 := n4_; have HO_1086001 := n5_; have BK1055 := n6_; have BK1070 := n7_; have BK1077 := n8_; have BK1085 := n9_; have HB := n10_; clear n0_ n1_ n2_ n3_ n4_ n5_ n6_ n7_ n8_ n9_ n10_; (try clear hb); (try clear hkp); (try clear hy0); (try clear hy1); have hcz181_0 : w180.cell? ⟨gb1085, 0, none⟩ = some (.slice Ao36 t1078.length co36) := (blk_cell BK1085.out 0).trans rfl; have hcz181_1 : w180.cell? ⟨gb1085, 1, none⟩ = some (.slice Ao41 t1081.length co41) := (blk_cell BK1085.out 1).trans rfl; have hfz181_0 := blk_frozen BK1085.out 0; have hfz181_1 := blk_frozen BK1085.out 1) | ((with_reducible refine gate_callee (f := 28) rfl ?_); refine goesL_ (some 71) rfl rfl Try.func28 (by kernel_rfl) rfl #[.agg #[.slice Ao36 t1099.length co36, .slice Ao41 t1100.length co41], .int .i64 1] rfl (by (try simp only [List.map_toArray, List.map_cons, List.map_nil]); first | done | (rw [show t1099.length = t1078.length from (Kd.R_reads' HO_1086000.out).1.symm, show t1100.length = t1081.length from (Kd.R_reads' HO_1086001.out).1.symm] <;> rfl) | rfl | (simp only [List.length_drop, List.length_take]; rfl)) ?_; (with_reducible refine (laws_heldLasso.calls kj64 _ _ t1099 _ _ t1100 1 t1101 _ ?side1 ?side2 ?side3 ?side4 A97.out).mono ?_); (case side1 => repeat (first | exact (Kd.R_reads' HO_1086000.out).2.2 | (with_reducible first | refine Kd.C_alloc ?_ _ | refine Kd.C_drewN ?_ _ | refine Kd.C_drew ?_))); (case side2 => rw [show t1099.length = t1078.length from (Kd.R_reads' HO_1086000.out).1.symm]; exact (Kd.R_reads' HO_1086000.out).2.1); (case side3 => repeat (first | exact (Kd.R_reads' HO_1086001.out).2.2 | (with_reducible first | refine Kd.C_alloc ?_ _ | refine Kd.C_drewN ?_ _ | refine Kd.C_drew ?_))); (case side4 => rw [show t1100.length = t1081.length from (Kd.R_reads' HO_1086001.out).1.symm]; exact (Kd.R_reads' HO_1086001.out).2.1); rintro e w182 ⟨rfl, hb⟩; refine ⟨_, rfl, ?_⟩; have n0_ := am_ (Kd.R_below (by (with_reducible repeat (first | apply Kd.R_alloc | apply Kd.R_drewN | apply Kd.R_drew)); exact HO_1071000.out) hb); have n1_ := am_ (Kd.R_below (by (with_reducible repeat (first | apply Kd.R_alloc | apply Kd.R_drewN | apply Kd.R_drew)); exact HO_1071001.out) hb); have n2_ := am_ (Kd.R_below (by (with_reducible repeat (first | apply Kd.R_alloc | apply Kd.R_drewN | apply Kd.R_drew)); exact HO_1078000.out) hb); have n3_ := am_ (Kd.R_below (by (with_reducible repeat (first | apply Kd.R_alloc | apply Kd.R_drewN | apply Kd.R_drew)); exact HO_1078001.out) hb); have n4_ := am_ (Kd.R_below (by (with_reducible repeat (first | apply Kd.R_alloc | apply Kd.R_drewN | apply Kd.R_drew)); exact HO_1086000.out) hb); have n5_ := am_ (Kd.R_below (by (with_reducible repeat (first | apply Kd.R_alloc | apply Kd.R_drewN | apply Kd.R_drew)); exact HO_1086001.out) hb); have n6_ := am_ (blk_below (g := gb1055) (o := .cells #[.slice A0_0 l0_0.length c0_0, .slice A0_1 l0_1.length c0_1] 33 (0, 0)) (by (with_reducible repeat (first | refine blk_drewN ?_ _ | refine blk_drew ?_ | refine blk_alloc ?_ _)); exact BK1055.out) hb); have n7_ := am_ (blk_below (g := gb1070) (o := .cells #[.slice Ao22 t1063.length co22, .slice Ao25 t1066.length co25] 35 (0, 0)) (by (with_reducible repeat (first | refine blk_drewN ?_ _ | refine blk_drew ?_ | refine blk_alloc ?_ _)); exact BK1070.out) hb); have n8_ := am_ (blk_below (g := gb1077) (o := .cells #[.slice Ao29 t1095.length co29, .slice Ao33 t1096.length co33] 35 (0, 0)) (by (with_reducible repeat (first | refine blk_drewN ?_ _ | refine blk_drew ?_ | refine blk_alloc ?_ _)); exact BK1077.out) hb); have n9_ := am_ (blk_below (g := gb1085) (o := .cells #[.slice Ao36 t1078.length co36, .slice Ao41 t1081.length co41] 35 (0, 0)) (by (with_reducible repeat (first | refine blk_drewN ?_ _ | refine blk_drew ?_ | refine blk_alloc ?_ _)); exact BK1085.out) hb); have n10_ := am_ (below_step (by repeat (first | (with_reducible first | exact HB.out | apply below_alloc | apply pw_below_drewN | apply below_drew1 | refine below_set ?_ GE1055.out | refine below_set ?_ GE1070.out | refine below_set ?_ GE1077.out | refine below_set ?_ GE1085.out) | exact HB.out)) hb); clear HO_1071000; clear HO_1071001; clear HO_1078000; clear HO_1078001; clear HO_1086000; clear HO_1086001; clear BK1055; clear BK1070; clear BK1077; clear BK1085; clear HB; have HO_1071000 := n0_; have HO_1071001 := n1_; have HO_1078000 := n2_; have HO_1078001 := n3_; have HO_1086000 := n4_; have HO_1086001 := n5_; have BK1055 := n6_; have BK1070 := n7_; have BK1077 := n8_; have BK1085 := n9_; have HB := n10_; clear n0_ n1_ n2_ n3_ n4_ n5_ n6_ n7_ n8_ n9_ n10_; (try clear hb); (try clear hb2); (try clear hk); (try clear hi)))
           go_ret
           exact ⟨by first | rfl | (simp [errW_none, errW_some] <;> rfl) | (simp [*, errW_none, errW_some] <;> rfl), by repeat (first | (with_reducible first | exact HB.out | apply below_alloc | apply pw_below_drewN | apply below_drew1 | refine below_set ?_ GE1055.out | refine below_set ?_ GE1070.out | refine below_set ?_ GE1077.out | refine below_set ?_ GE1085.out) | exact HB.out)⟩
     ·replace c63 := Bool.eq_false_iff.mpr c63
      subst c63
      have H1 : (some false) = some r := by rw [if_neg (show ¬ (false = true) by decide)] at H; exact H
      clear H
      have H := H1
      clear H1
      obtain rfl := Option.some.inj H
      try go_wp2
      have n0_ := am_ (Kd.R_drew HO_1071000.out)
      have n1_ := am_ (Kd.R_drew HO_1071001.out)
      have n2_ := am_ (Kd.R_drew HO_1078000.out)
      have n3_ := am_ (Kd.R_drew HO_1078001.out)
      have n4_ := am_ (Kd.R_drew HO_1086000.out)
      have n5_ := am_ (Kd.R_drew HO_1086001.out)
      have n6_ := am_ (blk_drew BK1055.out)
      have n7_ := am_ (blk_drew BK1070.out)
      have n8_ := am_ (blk_drew BK1077.out)
      have n9_ := am_ (blk_drew BK1085.out)
      have n10_ := am_ (below_drew1 HB.out)
      clear HO_1071000
      clear HO_1071001
      clear HO_1078000
      clear HO_1078001
      clear HO_1086000
      clear HO_1086001
      clear BK1055
      clear BK1070
      clear BK1077
      clear BK1085
      clear HB
      have HO_1071000 := n0_
      have HO_1071001 := n1_
      have HO_1078000 := n2_
      have HO_1078001 := n3_
      have HO_1086000 := n4_
      have HO_1086001 := n5_
      have BK1055 := n6_
      have BK1070 := n7_
      have BK1077 := n8_
      have BK1085 := n9_
      have HB := n10_
      clear n0_ n1_ n2_ n3_ n4_ n5_ n6_ n7_ n8_ n9_ n10_
      refine start_ (n := 5) (S := fun w' => w'.cell? ⟨gb1077, 0, none⟩ = some (.slice Ao29 t1071.length co29) ∧ w'.cell? ⟨gb1077, 1, none⟩ = some (.slice Ao33 t1074.length co33) ∧ w'.cell? ⟨gb1055, 0, none⟩ = some (.slice A0_0 l0_0.length c0_0) ∧ w'.cell? ⟨gb1055, 1, none⟩ = some (.slice A0_1 l0_1.length c0_1)) (ds := []) #[false, false, false, false, false] (by kernel_rfl) rfl rfl ⟨(blk_cell BK1077.out 0).trans rfl, (blk_cell BK1077.out 1).trans rfl, (blk_cell BK1055.out 0).trans rfl, (blk_cell BK1055.out 1).trans rfl⟩ (fun hHeld => ?_)
      generalize wc.drew = w183 at HO_1071000 HO_1071001 HO_1078000 HO_1078001 HO_1086000 HO_1086001 BK1055 BK1070 BK1077 BK1085 HB hHeld ⊢
      refine take_ (i := 0) (N := some 45) (v := ?_) (a' := ?_) #[true, false, false, false, false] rfl rfl (by kernel_rfl) (fun _ _ _ h => h) (Or.inl ⟨by rfl, ?_⟩) hHeld ?_ ?_
      rotate_left
      ·rintro w' ⟨s0, s1, s2, s3⟩
       go_simp
       with_reducible rfl
      rotate_left
      ·simp only [Act.put, List.setIfInBounds_toArray, List.set_cons_zero, List.set_cons_succ, i64_w, i32_w]
       rfl
      refine take_ (i := 1) (N := some 46) (v := ?_) (a' := ?_) #[true, true, false, false, false] rfl rfl (by kernel_rfl) (fun _ _ _ h => h) (Or.inl ⟨by rfl, ?_⟩) hHeld ?_ ?_
      rotate_left
      ·rintro w' ⟨s0, s1, s2, s3⟩
       go_simp
       with_reducible rfl
      rotate_left
      ·simp only [Act.put, List.setIfInBounds_toArray, List.set_cons_zero, List.set_cons_succ, i64_w, i32_w]
       rfl
      refine one_ (i := 2) (N := some 47) #[true, true, true, false, false] rfl rfl (by kernel_rfl) (by decide) (fun K hK => ?_)
      refine goes_ Try.func24 (by kernel_rfl) rfl #[.agg #[.slice A0_0 l0_0.length c0_0, .slice A0_1 l0_1.length c0_1]] (by rfl) rfl rfl (by (try simp only [List.map_toArray, List.map_cons, List.map_nil]); first | done | rfl | (simp only [List.length_drop, List.length_take]; rfl)) ?_
      with_reducible refine (laws_toLasso.calls kj11 _ _ l0_0 _ _ l0_1 t1087 t1090 _ ?side1 ?side2 ?side3 ?side4 A61.out).mono ?_
      (case side1 => repeat (first | exact (Kd.C_below HR0_0.out HB.out) | (with_reducible first | refine Kd.C_alloc ?_ _ | refine Kd.C_drewN ?_ _ | refine Kd.C_drew ?_)))
      (case side2 => exact HC0_0.out)
      (case side3 => repeat (first | exact (Kd.C_below HR0_1.out HB.out) | (with_reducible first | refine Kd.C_alloc ?_ _ | refine Kd.C_drewN ?_ _ | refine Kd.C_drew ?_)))
      (case side4 => exact HC0_1.out)
      rintro e w184 ⟨v1088, v1091, rfl, ho0, ho1, hb⟩
      refine ⟨_, rfl, ?_⟩
      have n0_ := am_ (Kd.R_mono (Kd.R_told (Kd.R_told (Kd.R_old (by (with_reducible repeat (first | apply Kd.R_alloc | apply Kd.R_drewN | apply Kd.R_drew)); exact HO_1071000.out) hb) (Kd.R_base ho0)) (Kd.R_base ho1)) (fun _ h_ => h_.1))
      have n1_ := am_ (Kd.R_mono (Kd.R_told (Kd.R_told (Kd.R_old (by (with_reducible repeat (first | apply Kd.R_alloc | apply Kd.R_drewN | apply Kd.R_drew)); exact HO_1071001.out) hb) (Kd.R_base ho0)) (Kd.R_base ho1)) (fun _ h_ => h_.1))
      have n2_ := am_ (Kd.R_mono (Kd.R_told (Kd.R_told (Kd.R_old (by (with_reducible repeat (first | apply Kd.R_alloc | apply Kd.R_drewN | apply Kd.R_drew)); exact HO_1078000.out) hb) (Kd.R_base ho0)) (Kd.R_base ho1)) (fun _ h_ => h_.1))
      have n3_ := am_ (Kd.R_mono (Kd.R_told (Kd.R_told (Kd.R_old (by (with_reducible repeat (first | apply Kd.R_alloc | apply Kd.R_drewN | apply Kd.R_drew)); exact HO_1078001.out) hb) (Kd.R_base ho0)) (Kd.R_base ho1)) (fun _ h_ => h_.1))
      have n4_ := am_ (Kd.R_mono (Kd.R_told (Kd.R_told (Kd.R_old (by (with_reducible repeat (first | apply Kd.R_alloc | apply Kd.R_drewN | apply Kd.R_drew)); exact HO_1086000.out) hb) (Kd.R_base ho0)) (Kd.R_base ho1)) (fun _ h_ => h_.1))
      have n5_ := am_ (Kd.R_mono (Kd.R_told (Kd.R_told (Kd.R_old (by (with_reducible repeat (first | apply Kd.R_alloc | apply Kd.R_drewN | apply Kd.R_drew)); exact HO_1086001.out) hb) (Kd.R_base ho0)) (Kd.R_base ho1)) (fun _ h_ => h_.1))
      have n6_ := am_ (Kd.R_lower (Kd.R_new' (Kd.R_new' (Kd.R_new' (Kd.R_new' (Kd.R_new' (Kd.R_new' ho0 (Kd.R_lt (by (with_reducible repeat (first | apply Kd.R_alloc | apply Kd.R_drewN | apply Kd.R_drew)); exact HO_1071000.out))) (Kd.R_lt (by (with_reducible repeat (first | apply Kd.R_alloc | apply Kd.R_drewN | apply Kd.R_drew)); exact HO_1071001.out))) (Kd.R_lt (by (with_reducible repeat (first | apply Kd.R_alloc | apply Kd.R_drewN | apply Kd.R_drew)); exact HO_1078000.out))) (Kd.R_lt (by (with_reducible repeat (first | apply Kd.R_alloc | apply Kd.R_drewN | apply Kd.R_drew)); exact HO_1078001.out))) (Kd.R_lt (by (with_reducible repeat (first | apply Kd.R_alloc | apply Kd.R_drewN | apply Kd.R_drew)); exact HO_1086000.out))) (Kd.R_lt (by (with_reducible repeat (first | apply Kd.R_alloc | apply Kd.R_drewN | apply Kd.R_drew)); exact HO_1086001.out))) (below_size (by repeat (first | (with_reducible first | exact HB.out | apply below_alloc | apply pw_below_drewN | apply below_drew1 | refine below_set ?_ GE1055.out | refine below_set ?_ GE1070.out | refine below_set ?_ GE1077.out | refine below_set ?_ GE1085.out) | exact HB.out))))
      have n7_ := am_ (Kd.R_lower (Kd.R_new' (Kd.R_new' (Kd.R_new' (Kd.R_new' (Kd.R_new' (Kd.R_new' ho1 (Kd.R_lt (by (with_reducible repeat (first | apply Kd.R_alloc | apply Kd.R_drewN | apply Kd.R_drew)); exact HO_1071000.out))) (Kd.R_lt (by (with_reducible repeat (first | apply Kd.R_alloc | apply Kd.R_drewN | apply Kd.R_drew)); exact HO_1071001.out))) (Kd.R_lt (by (with_reducible repeat (first | apply Kd.R_alloc | apply Kd.R_drewN | apply Kd.R_drew)); exact HO_1078000.out))) (Kd.R_lt (by (with_reducible repeat (first | apply Kd.R_alloc | apply Kd.R_drewN | apply Kd.R_drew)); exact HO_1078001.out))) (Kd.R_lt (by (with_reducible repeat (first | apply Kd.R_alloc | apply Kd.R_drewN | apply Kd.R_drew)); exact HO_1086000.out))) (Kd.R_lt (by (with_reducible repeat (first | apply Kd.R_alloc | apply Kd.R_drewN | apply Kd.R_drew)); exact HO_1086001.out))) (below_size (by repeat (first | (with_reducible first | exact HB.out | apply below_alloc | apply pw_below_drewN | apply below_drew1 | refine below_set ?_ GE1055.out | refine below_set ?_ GE1070.out | refine below_set ?_ GE1077.out | refine below_set ?_ GE1085.out) | exact HB.out))))
      have n8_ := am_ (blk_below (g := gb1055) (o := .cells #[.slice A0_0 l0_0.length c0_0, .slice A0_1 l0_1.length c0_1] 33 (0, 0)) (by (with_reducible repeat (first | refine blk_drewN ?_ _ | refine blk_drew ?_ | refine blk_alloc ?_ _)); exact BK1055.out) hb)
      have n9_ := am_ (blk_below (g := gb1070) (o := .cells #[.slice Ao22 t1063.length co22, .slice Ao25 t1066.length co25] 35 (0, 0)) (by (with_reducible repeat (first | refine blk_drewN ?_ _ | refine blk_drew ?_ | refine blk_alloc ?_ _)); exact BK1070.out) hb)
      have n10_ := am_ (blk_below (g := gb1077) (o := .cells #[.slice Ao29 t1071.length co29, .slice Ao33 t1074.length co33] 35 (0, 0)) (by (with_reducible repeat (first | refine blk_drewN ?_ _ | refine blk_drew ?_ | refine blk_alloc ?_ _)); exact BK1077.out) hb)
      have n11_ := am_ (blk_below (g := gb1085) (o := .cells #[.slice Ao36 t1078.length co36, .slice Ao41 t1081.length co41] 35 (0, 0)) (by (with_reducible repeat (first | refine blk_drewN ?_ _ | refine blk_drew ?_ | refine blk_alloc ?_ _)); exact BK1085.out) hb)
      have n12_ := am_ (below_step (by repeat (first | (with_reducible first | exact HB.out | apply below_alloc | apply pw_below_drewN | apply below_drew1 | refine below_set ?_ GE1055.out | refine below_set ?_ GE1070.out | refine below_set ?_ GE1077.out | refine below_set ?_ GE1085.out) | exact HB.out)) hb)
      clear HO_1071000
      clear HO_1071001
      clear HO_1078000
      clear HO_1078001
      clear HO_1086000
      clear HO_1086001
      clear BK1055
      clear BK1070
      clear BK1077
      clear BK1085
      clear HB
      have HO_1071000 := n0_
      have HO_1071001 := n1_
      have HO_1078000 := n2_
      have HO_1078001 := n3_
      have HO_1086000 := n4_
      have HO_1086001 := n5_
      have HO1089 := n6_
      have HO1092 := n7_
      have BK1055 := n8_
      have BK1070 := n9_
      have BK1077 := n10_
      have BK1085 := n11_
      have HB := n12_
      clear n0_ n1_ n2_ n3_ n4_ n5_ n6_ n7_ n8_ n9_ n10_ n11_ n12_
      (try clear hb)
      (try clear hb2)
      (try clear hk)
      (try clear hi)
      (try clear ho0)
      (try clear ho1)
      obtain ⟨Ao185, co185, eo185⟩ := Kd.R_slice HO1089.out
      (first | subst eo185 | (injection eo185 with f1_ f2_ f3_; have f4_ := f1_.symm; have f5_ := f3_.symm; clear f1_ f2_ f3_; subst f4_; subst f5_))
      obtain ⟨Ao186, co186, eo186⟩ := Kd.R_slice HO1092.out
      (first | subst eo186 | (injection eo186 with f1_ f2_ f3_; have f4_ := f1_.symm; have f5_ := f3_.symm; clear f1_ f2_ f3_; subst f4_; subst f5_))
      refine hK.out _ _ ⟨(blk_cell BK1077.out 0).trans rfl, (blk_cell BK1077.out 1).trans rfl, (blk_cell BK1055.out 0).trans rfl, (blk_cell BK1055.out 1).trans rfl⟩ (fun hHeld => ?_)
      clear hK K
      refine norm_ (a' := ?_) ?_ ?_
      rotate_left
      ·show Act.put _ (some 47) _ = _
       simp only [Act.put, List.setIfInBounds_toArray, List.set_cons_zero, List.set_cons_succ, i64_w, i32_w]
       rfl
      refine one_ (i := 3) (N := some 48) #[true, true, true, true, false] rfl rfl (by kernel_rfl) (by decide) (fun K hK => ?_)
      refine goes_ Try.func26 (by kernel_rfl) rfl #[.agg #[.slice Ao29 t1071.length co29, .slice Ao33 t1074.length co33], .agg #[.slice Ao185 t1087.length co185, .slice Ao186 t1090.length co186]] (by rfl) rfl rfl (by (try simp only [List.map_toArray, List.map_cons, List.map_nil]); first | done | rfl | (simp only [List.length_drop, List.length_take]; rfl)) ?_
      with_reducible refine (laws_eqLasso.calls kj11 _ _ t1071 _ _ t1074 _ _ t1087 _ _ t1090 false _ ?side1 ?side2 ?side3 ?side4 ?side5 ?side6 ?side7 ?side8 A62.out).mono ?_
      (case side1 => repeat (first | exact (Kd.R_reads' HO_1078000.out).2.2 | (with_reducible first | refine Kd.C_alloc ?_ _ | refine Kd.C_drewN ?_ _ | refine Kd.C_drew ?_)))
      (case side2 => exact (Kd.R_reads' HO_1078000.out).2.1)
      (case side3 => repeat (first | exact (Kd.R_reads' HO_1078001.out).2.2 | (with_reducible first | refine Kd.C_alloc ?_ _ | refine Kd.C_drewN ?_ _ | refine Kd.C_drew ?_)))
      (case side4 => exact (Kd.R_reads' HO_1078001.out).2.1)
      (case side5 => repeat (first | exact (Kd.R_reads' HO1089.out).2.2 | (with_reducible first | refine Kd.C_alloc ?_ _ | refine Kd.C_drewN ?_ _ | refine Kd.C_drew ?_)))
      (case side6 => exact (Kd.R_reads' HO1089.out).2.1)
      (case side7 => repeat (first | exact (Kd.R_reads' HO1092.out).2.2 | (with_reducible first | refine Kd.C_alloc ?_ _ | refine Kd.C_drewN ?_ _ | refine Kd.C_drew ?_)))
      (case side8 => exact (Kd.R_reads' HO1092.out).2.1)
      rintro e w187 ⟨rfl, hb⟩
      refine ⟨_, rfl, ?_⟩
      have n0_ := am_ (Kd.R_below (by (with_reducible repeat (first | apply Kd.R_alloc | apply Kd.R_drewN | apply Kd.R_drew)); exact HO_1071000.out) hb)
      have n1_ := am_ (Kd.R_below (by (with_reducible repeat (first | apply Kd.R_alloc | apply Kd.R_drewN | apply Kd.R_drew)); exact HO_1071001.out) hb)
      have n2_ := am_ (Kd.R_below (by (with_reducible repeat (first | apply Kd.R_alloc | apply Kd.R_drewN | apply Kd.R_drew)); exact HO_1078000.out) hb)
      have n3_ := am_ (Kd.R_below (by (with_reducible repeat (first | apply Kd.R_alloc | apply Kd.R_drewN | apply Kd.R_drew)); exact HO_1078001.out) hb)
      have n4_ := am_ (Kd.R_below (by (with_reducible repeat (first | apply Kd.R_alloc | apply Kd.R_drewN | apply Kd.R_drew)); exact HO_1086000.out) hb)
      have n5_ := am_ (Kd.R_below (by (with_reducible repeat (first | apply Kd.R_alloc | apply Kd.R_drewN | apply Kd.R_drew)); exact HO_1086001.out) hb)
      have n6_ := am_ (Kd.R_below (by (with_reducible repeat (first | apply Kd.R_alloc | apply Kd.R_drewN | apply Kd.R_drew)); exact HO1089.out) hb)
      have n7_ := am_ (Kd.R_below (by (with_reducible repeat (first | apply Kd.R_alloc | apply Kd.R_drewN | apply Kd.R_drew)); exact HO1092.out) hb)
      have n8_ := am_ (blk_below (g := gb1055) (o := .cells #[.slice A0_0 l0_0.length c0_0, .slice A0_1 l0_1.length c0_1] 33 (0, 0)) (by (with_reducible repeat (first | refine blk_drewN ?_ _ | refine blk_drew ?_ | refine blk_alloc ?_ _)); exact BK1055.out) hb)
      have n9_ := am_ (blk_below (g := gb1070) (o := .cells #[.slice Ao22 t1063.length co22, .slice Ao25 t1066.length co25] 35 (0, 0)) (by (with_reducible repeat (first | refine blk_drewN ?_ _ | refine blk_drew ?_ | refine blk_alloc ?_ _)); exact BK1070.out) hb)
      have n10_ := am_ (blk_below (g := gb1077) (o := .cells #[.slice Ao29 t1071.length co29, .slice Ao33 t1074.length co33] 35 (0, 0)) (by (with_reducible repeat (first | refine blk_drewN ?_ _ | refine blk_drew ?_ | refine blk_alloc ?_ _)); exact BK1077.out) hb)
      have n11_ := am_ (blk_below (g := gb1085) (o := .cells #[.slice Ao36 t1078.length co36, .slice Ao41 t1081.length co41] 35 (0, 0)) (by (with_reducible repeat (first | refine blk_drewN ?_ _ | refine blk_drew ?_ | refine blk_alloc ?_ _)); exact BK1085.out) hb)
      have n12_ := am_ (below_step (by repeat (first | (with_reducible first | exact HB.out | apply below_alloc | apply pw_below_drewN | apply below_drew1 | refine below_set ?_ GE1055.out | refine below_set ?_ GE1070.out | refine below_set ?_ GE1077.out | refine below_set ?_ GE1085.out) | exact HB.out)) hb)
      clear HO_1071000
      clear HO_1071001
      clear HO_1078000
      clear HO_1078001
      clear HO_1086000
      clear HO_1086001
      clear HO1089
      clear HO1092
      clear BK1055
      clear BK1070
      clear BK1077
      clear BK1085
      clear HB
      have HO_1071000 := n0_
      have HO_1071001 := n1_
      have HO_1078000 := n2_
      have HO_1078001 := n3_
      have HO_1086000 := n4_
      have HO_1086001 := n5_
      have HO1089 := n6_
      have HO1092 := n7_
      have BK1055 := n8_
      have BK1070 := n9_
      have BK1077 := n10_
      have BK1085 := n11_
      have HB := n12_
      clear n0_ n1_ n2_ n3_ n4_ n5_ n6_ n7_ n8_ n9_ n10_ n11_ n12_
      (try clear hb)
      (try clear hb2)
      (try clear hk)
      (try clear hi)
      refine hK.out _ _ ⟨(blk_cell BK1077.out 0).trans rfl, (blk_cell BK1077.out 1).trans rfl, (blk_cell BK1055.out 0).trans rfl, (blk_cell BK1055.out 1).trans rfl⟩ (fun hHeld => ?_)
      clear hK K
      refine norm_ (a' := ?_) ?_ ?_
      rotate_left
      ·show Act.put _ (some 48) _ = _
       simp only [Act.put, List.setIfInBounds_toArray, List.set_cons_zero, List.set_cons_succ, i64_w, i32_w]
       rfl
      refine pure_ (i := 4) (N := some 49) (v := ?_) (a' := ?_) #[true, true, true, true, true] rfl rfl (by kernel_rfl) (fun _ _ _ h => h) (Or.inl ⟨by rfl, ?_⟩) ?_ ?_
      rotate_left
      ·intro w'
       go_simp
       with_reducible rfl
      rotate_left
      ·simp only [Act.put, List.setIfInBounds_toArray, List.set_cons_zero, List.set_cons_succ, i64_w, i32_w]
       rfl
      refine done_ (by kernel_rfl) ?_
      try go_wp2
      go_ret
      exact ⟨by first | rfl | (simp [errW_none, errW_some] <;> rfl) | (simp [*, errW_none, errW_some] <;> rfl), by repeat (first | (with_reducible first | exact HB.out | apply below_alloc | apply pw_below_drewN | apply below_drew1 | refine below_set ?_ GE1055.out | refine below_set ?_ GE1070.out | refine below_set ?_ GE1077.out | refine below_set ?_ GE1085.out) | exact HB.out)⟩

end Go.Proofs.Ytbgbidgnlioomaa.P
