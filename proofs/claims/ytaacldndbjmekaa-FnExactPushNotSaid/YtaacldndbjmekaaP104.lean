/- Go functions of this seat as Lean functions, and the proofs that the calls come to what these say; printed by a program of this session. No condition. -/
import Derived.Test.YtaacldndbjmekaaP0
import Derived.Test.YtaacldndbjmekaaP1
import Derived.Test.YtaacldndbjmekaaP9
import Derived.Test.YtaacldndbjmekaaP39
import Derived.Test.YtaacldndbjmekaaP40
import Derived.Test.YtaacldndbjmekaaP97
import Derived.Test.YtaacldndbjmekaaP102
import Derived.Test.YtaacldndbjmekaaP103
namespace Go.Proofs.Ytaacldndbjmekaa.P
open Go.RowKit Go.Proofs.YtaacldndbjmekaaW.PrintWords Go.Proofs.YtaacldndbjmekaaW.PrintLast Go.Proofs.YtaacldndbjmekaaW.PrintMore Go.Proofs.Ytaacldndbjmekaa.Hof
attribute [local go_sem] max2_int min2_int max_two min_two max_three min_three max_four min_four   -- for this text's walks alone
set_option linter.unusedVariables false
set_option linter.unusedSimpArgs false

/-! ### laws_FnExactPushNot: function 6 -/
mutual
def laws_FnExactPushNot.j0 : Nat → List (S62) → Bool → List (S59) → Bool → List (S59) → List (S59) → Bool → Bool → Option (Bool)
 | 0, _, _, _, _, _, _, _, _ => none
 | k + 1, x0, x1, x6, x7, x8, x9, x10, x44 => if x44 = true then (some false) else ((laws_toSaidS.f k x0).bind fun t739 => ((laws_eqSaidS.f k x8 t739).bind fun t742 => (if t742 = true then ((laws_markSaidS.f k x8 1).bind fun bt743 => (if bt743.1 < 0 then (laws_FnExactPushNot.j1 k x0 x1 x6 x7 x9 true) else ((laws_eqSaidS.f k x9 x6).bind fun t745 => (if t745 = true then (laws_FnExactPushNot.j1 k x0 x1 x6 x7 x9 (x10 != x7)) else (laws_FnExactPushNot.j1 k x0 x1 x6 x7 x9 true))))) else (some false))))
def laws_FnExactPushNot.j1 : Nat → List (S62) → Bool → List (S59) → Bool → List (S59) → Bool → Option (Bool)
 | 0, _, _, _, _, _, _ => none
 | k + 1, x0, x1, x6, x7, x9, x65 => if x65 = true then (some false) else ((laws_markSaidS.f k x9 1).bind fun bt746 => ((laws_heldSaidS.f k bt746.2 1).bind fun t748 => (if t748 < 0 then (some false) else (if t748 = bt746.1 then ((laws_toSaidS.f k x0).bind fun t749 => ((impl_PushNot.f k t749 x1).bind fun bt752 => ((laws_eqSaidS.f k bt752.1 x6).bind fun t756 => (if t756 = true then (laws_FnExactPushNot.j2 k bt746.2 bt746.1 (bt752.2 != x7)) else (laws_FnExactPushNot.j2 k bt746.2 bt746.1 true))))) else (some false)))))
def laws_FnExactPushNot.j2 : Nat → List (S59) → Int → Bool → Option (Bool)
 | 0, _, _, _ => none
 | k + 1, x9, x12, x92 => if x92 = true then (some false) else ((laws_heldSaidS.f k x9 1).bind fun t757 => (if t757 < 0 then (some false) else (if t757 = x12 then (some true) else (some false))))
end
def laws_FnExactPushNot.f (k : Nat) (l0 : List (S62)) (a1 : Bool) : Option (Bool) := (laws_szSaidS.f l0 1048576).bind fun t723 => (if t723 < 0 then (some true) else ((laws_toSaidS.f k l0).bind fun t724 => ((spec_PushNot.f k t724 a1).bind fun bt727 => ((laws_toSaidS.f k l0).bind fun t731 => ((impl_PushNot.f k t731 a1).bind fun bt734 => ((laws_eqSaidS.f k bt734.1 bt727.1).bind fun t738 => (if t738 = true then (laws_FnExactPushNot.j0 k l0 a1 bt727.1 bt727.2 t731 bt734.1 bt734.2 (bt734.2 != bt727.2)) else (laws_FnExactPushNot.j0 k l0 a1 bt727.1 bt727.2 t731 bt734.1 bt734.2 true))))))))
theorem laws_FnExactPushNot.mono_l : ∀ k, (∀ y0 y1 y2 y3 y4 y5 y6 y7, LeO (laws_FnExactPushNot.j0 k y0 y1 y2 y3 y4 y5 y6 y7) (laws_FnExactPushNot.j0 (k + 1) y0 y1 y2 y3 y4 y5 y6 y7)) ∧ (∀ y0 y1 y2 y3 y4 y5, LeO (laws_FnExactPushNot.j1 k y0 y1 y2 y3 y4 y5) (laws_FnExactPushNot.j1 (k + 1) y0 y1 y2 y3 y4 y5)) ∧ (∀ y0 y1 y2, LeO (laws_FnExactPushNot.j2 k y0 y1 y2) (laws_FnExactPushNot.j2 (k + 1) y0 y1 y2))
 | 0 => ⟨fun _ _ _ _ _ _ _ _ r h => by simp [laws_FnExactPushNot.j0] at h, fun _ _ _ _ _ _ r h => by simp [laws_FnExactPushNot.j1] at h, fun _ _ _ r h => by simp [laws_FnExactPushNot.j2] at h⟩
 | k + 1 => by
  obtain ⟨ih0, ih1, ih2⟩ := laws_FnExactPushNot.mono_l k
  and_intros <;> intros
  all_goals (first | unfold laws_FnExactPushNot.j0 | unfold laws_FnExactPushNot.j1 | unfold laws_FnExactPushNot.j2)
  all_goals repeat' with_reducible first | apply ih0 | apply ih1 | apply ih2 | apply impl_PushNot.mono | apply laws_eqSaidS.mono | apply laws_heldSaidS.mono | apply laws_markSaidS.mono | apply laws_toSaidS.mono | apply spec_PushNot.mono | exact LeO.refl _ | exact LeO.none _ | apply LeO.ite | refine LeO.bind ?_ fun _ => ?_
theorem laws_FnExactPushNot.mono : ∀ a0 a1 k, LeO (laws_FnExactPushNot.f k a0 a1) (laws_FnExactPushNot.f (k + 1) a0 a1) := by
 intro a0 a1 k
 obtain ⟨ih0, ih1, ih2⟩ := laws_FnExactPushNot.mono_l k
 unfold laws_FnExactPushNot.f
 repeat' with_reducible first | apply ih0 | apply ih1 | apply ih2 | apply impl_PushNot.mono | apply laws_eqSaidS.mono | apply laws_heldSaidS.mono | apply laws_markSaidS.mono | apply laws_toSaidS.mono | apply spec_PushNot.mono | exact LeO.refl _ | exact LeO.none _ | apply LeO.ite | refine LeO.bind ?_ fun _ => ?_
set_option maxHeartbeats 8000000 in
set_option maxRecDepth 100000 in
theorem laws_FnExactPushNot.calls (k : Nat) (A0 : Option Addr) (c0 : Nat) (l0 : List (S62)) (a1 : Bool) (r : Bool) (w : World) (hr0 : Kd.C k62 w A0 l0.length l0) (hc0 : l0.length ≤ c0) (h : laws_FnExactPushNot.f k l0 a1 = some r) :
  Calls Try.prog 6 #[.slice A0 l0.length c0, .bool a1] w fun e w' => e = .returned (.bool r) ∧ Below w.heap.size w w' := by
 have HR0 := am_ hr0
 have HC0 := am_ hc0
 clear hr0 hc0
 have HB := am_ (Below.refl w.heap.size w)
 have H := h
 clear h
 unfold laws_FnExactPushNot.f at H
 obtain ⟨t723, A3, H⟩ := Sh.ba H
 by_cases c4 : t723 < 0
 ·rw [if_pos c4] at H
  have c4b0 := decide_eq_true c4
  clear c4
  obtain rfl := Option.some.inj H
  go_enter Try.func6, Try.ntmps6
  go_wp2_with (first | ((with_reducible refine Sh.k 10 ?_); refine Sh.gL (some 18) Try.func10 #[.slice A0 l0.length c0, .int .i64 1048576] (h := ?_); (with_reducible refine (laws_szSaidS.calls _ _ l0 1048576 t723 _ ?side1 ?side2 A3.out).mono ?_); (case side1 => repeat (first | exact HR0.out | (with_reducible first | refine Kd.C_alloc ?_ _ | refine Kd.C_drewN ?_ _ | refine Kd.C_drew ?_))); (case side2 => exact HC0.out); rintro e w' ⟨rfl, ⟨nd, rfl⟩⟩; refine ⟨_, rfl, ?_⟩))
  go_ret
  exact ⟨Sh.eR, Sh.bw⟩
 ·rw [if_neg c4] at H
  have c4b0 := decide_eq_false c4
  clear c4
  obtain ⟨t724, A5, H⟩ := Sh.ba H
  obtain ⟨⟨t727, t728⟩, A60, H⟩ := Sh.bd H
  have A6 := am_ A60
  clear A60
  obtain ⟨t731, A7, H⟩ := Sh.ba H
  obtain ⟨⟨t734, t735⟩, A80, H⟩ := Sh.bd H
  have A8 := am_ A80
  clear A80
  have HC9 := am_ H
  clear H
  go_enter Try.func6, Try.ntmps6
  go_upto_region 8 with (first | ((with_reducible refine Sh.k 10 ?_); refine Sh.gL (some 18) Try.func10 #[.slice A0 l0.length c0, .int .i64 1048576] (h := ?_); (with_reducible refine (laws_szSaidS.calls _ _ l0 1048576 t723 _ ?side1 ?side2 A3.out).mono ?_); (case side1 => repeat (first | exact HR0.out | (with_reducible first | refine Kd.C_alloc ?_ _ | refine Kd.C_drewN ?_ _ | refine Kd.C_drew ?_))); (case side2 => exact HC0.out); rintro e w' ⟨rfl, ⟨nd, rfl⟩⟩; refine ⟨_, rfl, ?_⟩) | ((with_reducible refine Sh.k 12 ?_); refine Sh.gL (some 23) Try.func12 #[.slice A0 l0.length c0] (h := ?_); (with_reducible refine (laws_toSaidS.calls k _ _ l0 t724 _ ?side1 ?side2 A5.out).mono ?_); (case side1 => repeat (first | exact HR0.out | (with_reducible first | refine Kd.C_alloc ?_ _ | refine Kd.C_drewN ?_ _ | refine Kd.C_drew ?_))); (case side2 => exact HC0.out); rintro e w10 ⟨v725, rfl, ho0, hb⟩; refine ⟨_, rfl, ?_⟩; have HO726 := am_ (Kd.R_lower ho0 (below_size Sh.bw)); replace HB := Sh.hb hb; (try clear hb); (try clear hb2); (try clear hk); (try clear hi); (try clear ho0); obtain ⟨Ao11, co11, eo11⟩ := Kd.R_slice HO726.out; subst eo11) | ((with_reducible refine Sh.k 28 ?_); refine Sh.gL (some 25) Try.func28 #[.slice Ao11 t724.length co11, .bool a1] (h := ?_); (with_reducible refine (spec_PushNot.calls k _ _ t724 a1 t727 t728 _ (Sh.cR (Kd.R_reads' HO726.out).2.2) (Kd.R_reads' HO726.out).2.1 A6.out).mono ?_); rintro e w12 ⟨v729, rfl, ho0, hb⟩; refine ⟨_, rfl, ?_⟩; have HO730 := am_ (Kd.R_lower (Kd.R_new' ho0 (Kd.R_lt (Sh.rl HO726.out))) (below_size Sh.bw)); replace HO726 := am_ (Kd.R_elder' (Sh.rl HO726.out) (Kd.R_base ho0) hb); replace HB := Sh.hb hb; (try clear hb); (try clear hb2); (try clear hk); (try clear hi); (try clear ho0)) | ((with_reducible refine Sh.k 12 ?_); refine Sh.gL (some 29) Try.func12 #[.slice A0 l0.length c0] (h := ?_); (with_reducible refine (laws_toSaidS.calls k _ _ l0 t731 _ (Sh.cB HR0.out) HC0.out A7.out).mono ?_); rintro e w13 ⟨v732, rfl, ho0, hb⟩; refine ⟨_, rfl, ?_⟩; have HO733 := am_ (Kd.R_lower (Kd.R_new' (Kd.R_new' ho0 (Kd.R_lt (Sh.rl HO726.out))) (Kd.R_lt (Sh.rl HO730.out))) (below_size Sh.bw)); replace HO726 := am_ (Kd.R_elder' (Sh.rl HO726.out) (Kd.R_base ho0) hb); replace HO730 := am_ (Kd.R_elder' (Sh.rl HO730.out) (Kd.R_base ho0) hb); replace HB := Sh.hb hb; (try clear hb); (try clear hb2); (try clear hk); (try clear hi); (try clear ho0); obtain ⟨Ao14, co14, eo14⟩ := Kd.R_slice HO733.out; subst eo14) | ((with_reducible refine Sh.k 29 ?_); refine Sh.gL (some 33) Try.func29 #[.slice Ao14 t731.length co14, .bool a1] (h := ?_); (with_reducible refine (impl_PushNot.calls k _ _ t731 a1 t734 t735 _ (Sh.cR (Kd.R_reads' HO733.out).2.2) (Kd.R_reads' HO733.out).2.1 A8.out).mono ?_); rintro e w15 ⟨v736, rfl, ho0, hb⟩; refine ⟨_, rfl, ?_⟩; have n0_ := am_ (Kd.R_elder' (Sh.rl HO726.out) (Kd.R_base ho0) hb); have n1_ := am_ (Kd.R_elder' (Sh.rl HO730.out) (Kd.R_base ho0) hb); have n2_ := am_ (Kd.R_elder' (Sh.rl HO733.out) (Kd.R_base ho0) hb); have n3_ := am_ (Kd.R_lower (Kd.R_new' (Kd.R_new' (Kd.R_new' ho0 (Kd.R_lt (Sh.rl HO726.out))) (Kd.R_lt (Sh.rl HO730.out))) (Kd.R_lt (Sh.rl HO733.out))) (below_size Sh.bw)); have n4_ := am_ (below_step Sh.bw hb); clear HO726; clear HO730; clear HO733; clear HB; have HO726 := n0_; have HO730 := n1_; have HO733 := n2_; have HO737 := n3_; have HB := n4_; clear n0_ n1_ n2_ n3_ n4_; (try clear hb); (try clear hb2); (try clear hk); (try clear hi); (try clear ho0)))
  (try simp only [Act.put, List.setIfInBounds_toArray, List.set_cons_zero, List.set_cons_succ])
  go_cut [44] (fun v44 wc => ∃ (kq : Nat) (x44_8 : Bool), v44 = .bool x44_8 ∧ Aside0 (laws_FnExactPushNot.j0 kq l0 a1 t727 t728 t731 t734 t735 x44_8 = some r) ∧ Aside0 (kq ≤ k) ∧ Aside0 (Kd.R k59 59 wc w.heap.size (fun k_ => some k_ ≠ ((.slice Ao14 t731.length co14) : Value).ownBlock ∧ some k_ ≠ (v736 : Value).ownBlock) v729 t727) ∧ Aside0 (Kd.R k59 59 wc w.heap.size (fun k_ => some k_ ≠ (v729 : Value).ownBlock ∧ some k_ ≠ (v736 : Value).ownBlock) (.slice Ao14 t731.length co14) t731) ∧ Aside0 (Kd.R k59 59 wc w.heap.size (fun k_ => some k_ ≠ (v729 : Value).ownBlock ∧ some k_ ≠ ((.slice Ao14 t731.length co14) : Value).ownBlock) v736 t734) ∧ Aside0 (Below w.heap.size w wc))
  case first =>
   have H := HC9.out
   clear HC9
   obtain ⟨t738, A16, H⟩ := Sh.ba H
   by_cases c17 : t738 = true
   ·subst c17
    rw [if_pos rfl] at H
    have H' := am_ H
    clear H
    obtain ⟨Ao18, co18, eo18⟩ := Kd.R_slice HO737.out
    subst eo18
    obtain ⟨Ao19, co19, eo19⟩ := Kd.R_slice HO730.out
    subst eo19
    go_wp2_with (first | ((with_reducible refine Sh.k 15 ?_); refine Sh.gB (some 38) Try.func15 #[.slice Ao18 t734.length co18, .slice Ao19 t727.length co19] (laws_eqSaidS.calls k _ _ t734 _ _ t727 true _ (Sh.cR (Kd.R_reads' HO737.out).2.2) (Kd.R_reads' HO737.out).2.1 (Sh.cR (Kd.R_reads' HO730.out).2.2) (Kd.R_reads' HO730.out).2.1 A16.out) fun w20 hb => ?_; replace HO726 := am_ (Kd.R_below (Sh.rl HO726.out) hb); replace HO730 := am_ (Kd.R_below (Sh.rl HO730.out) hb); replace HO733 := am_ (Kd.R_below (Sh.rl HO733.out) hb); replace HO737 := am_ (Kd.R_below (Sh.rl HO737.out) hb); replace HB := Sh.hb hb; (try clear hb); (try clear hb2); (try clear hk); (try clear hi)))
    go_meet
    case rel => exact ⟨_, ((t735 != t728)), (Sh.es), H', ⟨Sh.om⟩, ⟨Sh.rl (Kd.R_mono HO730.out (fun _ h => ⟨h.1.2, h.2⟩))⟩, ⟨Sh.rl (Kd.R_mono HO733.out (fun _ h => ⟨h.1.2, h.2⟩))⟩, ⟨Sh.rl (Kd.R_mono HO737.out (fun _ h => ⟨h.1.2, h.2⟩))⟩, ⟨Sh.bw⟩⟩
   ·replace c17 := Bool.eq_false_iff.mpr c17
    subst c17
    rw [Sh.nf] at H
    have H' := am_ H
    clear H
    obtain ⟨Ao21, co21, eo21⟩ := Kd.R_slice HO737.out
    subst eo21
    obtain ⟨Ao22, co22, eo22⟩ := Kd.R_slice HO730.out
    subst eo22
    go_wp2_with (first | ((with_reducible refine Sh.k 15 ?_); refine Sh.gB (some 38) Try.func15 #[.slice Ao21 t734.length co21, .slice Ao22 t727.length co22] (laws_eqSaidS.calls k _ _ t734 _ _ t727 false _ (Sh.cR (Kd.R_reads' HO737.out).2.2) (Kd.R_reads' HO737.out).2.1 (Sh.cR (Kd.R_reads' HO730.out).2.2) (Kd.R_reads' HO730.out).2.1 A16.out) fun w23 hb => ?_; replace HO726 := am_ (Kd.R_below (Sh.rl HO726.out) hb); replace HO730 := am_ (Kd.R_below (Sh.rl HO730.out) hb); replace HO733 := am_ (Kd.R_below (Sh.rl HO733.out) hb); replace HO737 := am_ (Kd.R_below (Sh.rl HO737.out) hb); replace HB := Sh.hb hb; (try clear hb); (try clear hb2); (try clear hk); (try clear hi)))
    go_meet
    case rel => exact ⟨_, (true), (Sh.es), H', ⟨Sh.om⟩, ⟨Sh.rl (Kd.R_mono HO730.out (fun _ h => ⟨h.1.2, h.2⟩))⟩, ⟨Sh.rl (Kd.R_mono HO733.out (fun _ h => ⟨h.1.2, h.2⟩))⟩, ⟨Sh.rl (Kd.R_mono HO737.out (fun _ h => ⟨h.1.2, h.2⟩))⟩, ⟨Sh.bw⟩⟩
  case rest =>
   clear HC9
   obtain ⟨kq, x44_8, rfl, HA, HJ8, HO_6, HO_8, HO_9, HB⟩ := hcut
   cases kq with
   | zero => exact absurd HA.out (by simp [laws_FnExactPushNot.j0])
   | succ kj8 =>
    have H := HA.out
    clear HA
    simp only [laws_FnExactPushNot.j0] at H
    by_cases c24 : x44_8 = true
    ·subst c24
     rw [if_pos rfl] at H
     obtain rfl := Option.some.inj H
     go_wp2
     go_ret
     exact ⟨Sh.eR, Sh.bw⟩
    ·replace c24 := Bool.eq_false_iff.mpr c24
     subst c24
     rw [Sh.nf] at H
     obtain ⟨t739, A25, H⟩ := Sh.ba H
     obtain ⟨t742, A26, H⟩ := Sh.ba H
     by_cases c27 : t742 = true
     ·subst c27
      rw [if_pos rfl] at H
      obtain ⟨⟨t743, t744⟩, A280, H⟩ := Sh.bd H
      have A28 := am_ A280
      clear A280
      have HC29 := am_ H
      clear H
      go_upto_region 14 with (first | ((with_reducible refine Sh.k 12 ?_); refine Sh.gL (some 47) Try.func12 #[.slice A0 l0.length c0] (h := ?_); (with_reducible refine (laws_toSaidS.calls kj8 _ _ l0 t739 _ (Sh.cB HR0.out) HC0.out A25.out).mono ?_); rintro e w30 ⟨v740, rfl, ho0, hb⟩; refine ⟨_, rfl, ?_⟩; have n0_ := am_ (Kd.R_elder' (Sh.rl HO_6.out) (Kd.R_base ho0) hb); have n1_ := am_ (Kd.R_elder' (Sh.rl HO_8.out) (Kd.R_base ho0) hb); have n2_ := am_ (Kd.R_elder' (Sh.rl HO_9.out) (Kd.R_base ho0) hb); have n3_ := am_ (Kd.R_lower (Kd.R_new' (Kd.R_new' (Kd.R_new' ho0 (Kd.R_lt (Sh.rl HO_6.out))) (Kd.R_lt (Sh.rl HO_8.out))) (Kd.R_lt (Sh.rl HO_9.out))) (below_size Sh.bw)); have n4_ := am_ (below_step Sh.bw hb); clear HO_6; clear HO_8; clear HO_9; clear HB; have HO_6 := n0_; have HO_8 := n1_; have HO_9 := n2_; have HO741 := n3_; have HB := n4_; clear n0_ n1_ n2_ n3_ n4_; (try clear hb); (try clear hb2); (try clear hk); (try clear hi); (try clear ho0); obtain ⟨Ao31, co31, eo31⟩ := Kd.R_slice HO741.out; subst eo31) | ((with_reducible refine Sh.k 15 ?_); refine Sh.gB (some 48) Try.func15 #[.slice Ao14 t731.length co14, .slice Ao31 t739.length co31] (laws_eqSaidS.calls kj8 _ _ t731 _ _ t739 true _ (Sh.cR (Kd.R_reads' HO_8.out).2.2) (Kd.R_reads' HO_8.out).2.1 (Sh.cR (Kd.R_reads' HO741.out).2.2) (Kd.R_reads' HO741.out).2.1 A26.out) fun w32 hb => ?_; replace HO_6 := am_ (Kd.R_below (Sh.rl HO_6.out) hb); replace HO_8 := am_ (Kd.R_below (Sh.rl HO_8.out) hb); replace HO_9 := am_ (Kd.R_below (Sh.rl HO_9.out) hb); replace HO741 := am_ (Kd.R_below (Sh.rl HO741.out) hb); replace HB := Sh.hb hb; (try clear hb); (try clear hb2); (try clear hk); (try clear hi)) | ((with_reducible refine Sh.k 16 ?_); refine Sh.gL (some 52) Try.func16 #[.slice Ao14 t731.length co14, .int .i64 1] (h := ?_); (with_reducible refine (laws_markSaidS.calls kj8 (fun k_ => some k_ = (.slice Ao14 t731.length co14 : Value).ownBlock) (.slice Ao14 t731.length co14) t731 1 t743 t744 w _ ?side1 ?side2 A28.out).mono ?_); (case side1 => repeat (first | (with_reducible first | exact HB.out | apply below_alloc | apply pw_below_drewN | apply below_drew1) | exact HB.out)); (case side2 => exact Kd.R_tight rfl HO_8.out); rintro e w33 ⟨rfl, hy0, hb, hkp⟩; refine ⟨_, rfl, ?_⟩; replace HO_6 := am_ (Kd.R_mono (ok' := fun k_ => some k_ ≠ (.slice Ao14 t731.length co14 : Value).ownBlock ∧ some k_ ≠ (v736 : Value).ownBlock ∧ some k_ ≠ (.slice Ao31 t739.length co31 : Value).ownBlock) (Kd.R_keptB (HO_6.out) hkp (fun k_ hk_ hs_ => (hk_.1.1) hs_)) (fun k_ h => ⟨h.1.1.1, h.1.1.2, h.1.2⟩)); replace HO_8 := am_ (Kd.R_reok rfl hy0 (fun k_ e_ => HO_8.out.1 k_ e_)); replace HO_9 := am_ (Kd.R_mono (ok' := fun k_ => some k_ ≠ (v729 : Value).ownBlock ∧ some k_ ≠ (.slice Ao14 t731.length co14 : Value).ownBlock ∧ some k_ ≠ (.slice Ao31 t739.length co31 : Value).ownBlock) (Kd.R_keptB (HO_9.out) hkp (fun k_ hk_ hs_ => (hk_.1.2) hs_)) (fun k_ h => ⟨h.1.1.1, h.1.1.2, h.1.2⟩)); replace HO741 := am_ (Kd.R_mono (ok' := fun k_ => some k_ ≠ (v729 : Value).ownBlock ∧ some k_ ≠ (.slice Ao14 t731.length co14 : Value).ownBlock ∧ some k_ ≠ (v736 : Value).ownBlock) (Kd.R_keptB (HO741.out) hkp (fun k_ hk_ hs_ => (hk_.1.2) hs_)) (fun k_ h => ⟨h.1.1.1.2, h.1.1.2, h.1.2⟩)); replace HB := am_ hb; (try clear hb); (try clear hkp); (try clear hy0)))
      (try simp only [Act.put, List.setIfInBounds_toArray, List.set_cons_zero, List.set_cons_succ])
      go_cut [65] (fun v65 wc => ∃ (kq : Nat) (x65_28 : Bool), v65 = .bool x65_28 ∧ Aside0 (laws_FnExactPushNot.j1 kq l0 a1 t727 t728 t734 x65_28 = some r) ∧ Aside0 (kq ≤ kj8) ∧ Aside0 (Kd.R k59 59 wc w.heap.size (fun k_ => some k_ ≠ (v736 : Value).ownBlock) v729 t727) ∧ Aside0 (Kd.R k59 59 wc w.heap.size (fun k_ => some k_ ≠ (v729 : Value).ownBlock) v736 t734) ∧ Aside0 (Below w.heap.size w wc))
      case first =>
       have H := HC29.out
       clear HC29
       by_cases c34 : t743 < 0
       ·rw [if_pos c34] at H
        have c34b0 := decide_eq_true c34
        clear c34
        first | rw [c34b0] | (simp only [i64_w, i32_w]; rw [c34b0]) | skip
        have H' := am_ H
        clear H
        go_wp2
        go_meet
        case rel => exact ⟨_, (true), (Sh.es), H', ⟨by have := HJ8.out; first | omega | exact Nat.le_refl _⟩, ⟨Sh.rl (Kd.R_mono HO_6.out (fun _ hk => hk.2.1))⟩, ⟨Sh.rl (Kd.R_mono HO_9.out (fun _ hk => hk.1))⟩, ⟨Sh.bw⟩⟩
       ·rw [if_neg c34] at H
        have c34b0 := decide_eq_false c34
        clear c34
        first | rw [c34b0] | (simp only [i64_w, i32_w]; rw [c34b0]) | skip
        obtain ⟨t745, A35, H⟩ := Sh.ba H
        by_cases c36 : t745 = true
        ·subst c36
         rw [if_pos rfl] at H
         have H' := am_ H
         clear H
         obtain ⟨Ao37, co37, eo37⟩ := Kd.R_slice HO_9.out
         subst eo37
         obtain ⟨Ao38, co38, eo38⟩ := Kd.R_slice HO_6.out
         subst eo38
         go_wp2_with (first | (go_at_call 15; (with_reducible refine (laws_eqSaidS.calls kj8 _ _ t734 _ _ t727 true _ (Sh.cR (Kd.R_reads' HO_9.out).2.2) (Kd.R_reads' HO_9.out).2.1 (Sh.cR (Kd.R_reads' HO_6.out).2.2) (Kd.R_reads' HO_6.out).2.1 A35.out).mono ?_); rintro e w39 ⟨rfl, hb⟩; replace HO_6 := am_ (Kd.R_below (Sh.rl HO_6.out) hb); replace HO_8 := am_ (Kd.R_below (Sh.rl HO_8.out) hb); replace HO_9 := am_ (Kd.R_below (Sh.rl HO_9.out) hb); replace HO741 := am_ (Kd.R_below (Sh.rl HO741.out) hb); replace HB := Sh.hb hb; (try clear hb); (try clear hb2); (try clear hk); (try clear hi)))
         go_meet
         case rel => exact ⟨_, ((t735 != t728)), (Sh.es), H', ⟨by have := HJ8.out; first | omega | exact Nat.le_refl _⟩, ⟨Sh.rl (Kd.R_mono HO_6.out (fun _ hk => hk.2.1))⟩, ⟨Sh.rl (Kd.R_mono HO_9.out (fun _ hk => hk.1))⟩, ⟨Sh.bw⟩⟩
        ·replace c36 := Bool.eq_false_iff.mpr c36
         subst c36
         rw [Sh.nf] at H
         have H' := am_ H
         clear H
         obtain ⟨Ao40, co40, eo40⟩ := Kd.R_slice HO_9.out
         subst eo40
         obtain ⟨Ao41, co41, eo41⟩ := Kd.R_slice HO_6.out
         subst eo41
         go_wp2_with (first | (go_at_call 15; (with_reducible refine (laws_eqSaidS.calls kj8 _ _ t734 _ _ t727 false _ (Sh.cR (Kd.R_reads' HO_9.out).2.2) (Kd.R_reads' HO_9.out).2.1 (Sh.cR (Kd.R_reads' HO_6.out).2.2) (Kd.R_reads' HO_6.out).2.1 A35.out).mono ?_); rintro e w42 ⟨rfl, hb⟩; replace HO_6 := am_ (Kd.R_below (Sh.rl HO_6.out) hb); replace HO_8 := am_ (Kd.R_below (Sh.rl HO_8.out) hb); replace HO_9 := am_ (Kd.R_below (Sh.rl HO_9.out) hb); replace HO741 := am_ (Kd.R_below (Sh.rl HO741.out) hb); replace HB := Sh.hb hb; (try clear hb); (try clear hb2); (try clear hk); (try clear hi)))
         go_meet
         case rel => exact ⟨_, (true), (Sh.es), H', ⟨by have := HJ8.out; first | omega | exact Nat.le_refl _⟩, ⟨Sh.rl (Kd.R_mono HO_6.out (fun _ hk => hk.2.1))⟩, ⟨Sh.rl (Kd.R_mono HO_9.out (fun _ hk => hk.1))⟩, ⟨Sh.bw⟩⟩
      case rest =>
       clear HC29
       obtain ⟨kq, x65_28, rfl, HA, HJ28, HO_6, HO_9, HB⟩ := hcut
       cases kq with
       | zero => exact absurd HA.out (by simp [laws_FnExactPushNot.j1])
       | succ kj28 =>
        have H := HA.out
        clear HA
        simp only [laws_FnExactPushNot.j1] at H
        by_cases c43 : x65_28 = true
        ·subst c43
         rw [if_pos rfl] at H
         obtain rfl := Option.some.inj H
         go_wp2
         go_ret
         exact ⟨Sh.eR, Sh.bw⟩
        ·replace c43 := Bool.eq_false_iff.mpr c43
         subst c43
         rw [Sh.nf] at H
         obtain ⟨⟨t746, t747⟩, A440, H⟩ := Sh.bd H
         have A44 := am_ A440
         clear A440
         obtain ⟨t748, A45, H⟩ := Sh.ba H
         by_cases c46 : t748 < 0
         ·rw [if_pos c46] at H
          have c46b0 := decide_eq_true c46
          clear c46
          obtain rfl := Option.some.inj H
          obtain ⟨Ao47, co47, eo47⟩ := Kd.R_slice HO_9.out
          subst eo47
          go_wp2_with (first | ((with_reducible refine Sh.k 16 ?_); refine Sh.gL (some 68) Try.func16 #[.slice Ao47 t734.length co47, .int .i64 1] (h := ?_); (with_reducible refine (laws_markSaidS.calls kj28 (fun k_ => some k_ = (.slice Ao47 t734.length co47 : Value).ownBlock) (.slice Ao47 t734.length co47) t734 1 t746 t747 w _ ?side1 ?side2 A44.out).mono ?_); (case side1 => repeat (first | (with_reducible first | exact HB.out | apply below_alloc | apply pw_below_drewN | apply below_drew1) | exact HB.out)); (case side2 => exact Kd.R_tight rfl HO_9.out); rintro e w48 ⟨rfl, hy0, hb, hkp⟩; refine ⟨_, rfl, ?_⟩; replace HO_6 := am_ (Kd.R_mono (ok' := fun k_ => some k_ ≠ (.slice Ao47 t734.length co47 : Value).ownBlock) (Kd.R_keptB (HO_6.out) hkp (fun k_ hk_ hs_ => (hk_) hs_)) (fun k_ hk_ => hk_.1)); replace HO_9 := am_ (Kd.R_reok rfl hy0 (fun k_ e_ => HO_9.out.1 k_ e_)); replace HB := am_ hb; (try clear hb); (try clear hkp); (try clear hy0)) | ((with_reducible refine Sh.k 30 ?_); refine goesL_ (some 71) rfl rfl Try.func30 (by kernel_rfl) rfl #[.slice Ao47 t747.length co47, .int .i64 1] rfl (by (try simp only [List.map_toArray, List.map_cons, List.map_nil]); first | done | (rw [show t747.length = t734.length from (Kd.R_reads' HO_9.out).1.symm] <;> rfl) | rfl | (simp only [List.length_drop, List.length_take]; rfl)) ?_; (with_reducible refine (laws_heldSaidS.calls kj28 _ _ t747 1 t748 _ (Sh.cR (Kd.R_reads' HO_9.out).2.2) ?side2 A45.out).mono ?_); (case side2 => rw [show t747.length = t734.length from (Kd.R_reads' HO_9.out).1.symm]; exact (Kd.R_reads' HO_9.out).2.1); rintro e w' ⟨rfl, ⟨nd, rfl⟩⟩; refine ⟨_, rfl, ?_⟩))
          go_ret
          exact ⟨Sh.eR, Sh.bw⟩
         ·rw [if_neg c46] at H
          have c46b0 := decide_eq_false c46
          clear c46
          by_cases c49 : t748 = t746
          ·rw [if_pos c49] at H
           have c49b0 : (t748 == t746) = true := beq_iff_eq.mpr c49
           have c49b1 : (t748 != t746) = false := bne_eq_false_iff_eq.mpr c49
           clear c49
           obtain ⟨t749, A50, H⟩ := Sh.ba H
           obtain ⟨⟨t752, t753⟩, A510, H⟩ := Sh.bd H
           have A51 := am_ A510
           clear A510
           have HC52 := am_ H
           clear H
           obtain ⟨Ao53, co53, eo53⟩ := Kd.R_slice HO_9.out
           subst eo53
           go_upto_region 25 with (first | ((with_reducible refine Sh.k 16 ?_); refine Sh.gL (some 68) Try.func16 #[.slice Ao53 t734.length co53, .int .i64 1] (h := ?_); (with_reducible refine (laws_markSaidS.calls kj28 (fun k_ => some k_ = (.slice Ao53 t734.length co53 : Value).ownBlock) (.slice Ao53 t734.length co53) t734 1 t746 t747 w _ ?side1 ?side2 A44.out).mono ?_); (case side1 => repeat (first | (with_reducible first | exact HB.out | apply below_alloc | apply pw_below_drewN | apply below_drew1) | exact HB.out)); (case side2 => exact Kd.R_tight rfl HO_9.out); rintro e w54 ⟨rfl, hy0, hb, hkp⟩; refine ⟨_, rfl, ?_⟩; replace HO_6 := am_ (Kd.R_mono (ok' := fun k_ => some k_ ≠ (.slice Ao53 t734.length co53 : Value).ownBlock) (Kd.R_keptB (HO_6.out) hkp (fun k_ hk_ hs_ => (hk_) hs_)) (fun k_ hk_ => hk_.1)); replace HO_9 := am_ (Kd.R_reok rfl hy0 (fun k_ e_ => HO_9.out.1 k_ e_)); replace HB := am_ hb; (try clear hb); (try clear hkp); (try clear hy0)) | ((with_reducible refine Sh.k 30 ?_); refine goesL_ (some 71) rfl rfl Try.func30 (by kernel_rfl) rfl #[.slice Ao53 t747.length co53, .int .i64 1] rfl (by (try simp only [List.map_toArray, List.map_cons, List.map_nil]); first | done | (rw [show t747.length = t734.length from (Kd.R_reads' HO_9.out).1.symm] <;> rfl) | rfl | (simp only [List.length_drop, List.length_take]; rfl)) ?_; (with_reducible refine (laws_heldSaidS.calls kj28 _ _ t747 1 t748 _ (Sh.cR (Kd.R_reads' HO_9.out).2.2) ?side2 A45.out).mono ?_); (case side2 => rw [show t747.length = t734.length from (Kd.R_reads' HO_9.out).1.symm]; exact (Kd.R_reads' HO_9.out).2.1); rintro e w' ⟨rfl, ⟨nd, rfl⟩⟩; refine ⟨_, rfl, ?_⟩) | ((with_reducible refine Sh.k 12 ?_); refine Sh.gL (some 79) Try.func12 #[.slice A0 l0.length c0] (h := ?_); (with_reducible refine (laws_toSaidS.calls kj28 _ _ l0 t749 _ (Sh.cB HR0.out) HC0.out A50.out).mono ?_); rintro e w55 ⟨v750, rfl, ho0, hb⟩; refine ⟨_, rfl, ?_⟩; have HO751 := am_ (Kd.R_lower (Kd.R_new' (Kd.R_new' ho0 (Kd.R_lt (Sh.rl HO_6.out))) (Kd.R_lt (Sh.rl HO_9.out))) (below_size Sh.bw)); replace HO_6 := am_ (Kd.R_elder' (Sh.rl HO_6.out) (Kd.R_base ho0) hb); replace HO_9 := am_ (Kd.R_elder' (Sh.rl HO_9.out) (Kd.R_base ho0) hb); replace HB := Sh.hb hb; (try clear hb); (try clear hb2); (try clear hk); (try clear hi); (try clear ho0); obtain ⟨Ao56, co56, eo56⟩ := Kd.R_slice HO751.out; subst eo56) | ((with_reducible refine Sh.k 29 ?_); refine Sh.gL (some 81) Try.func29 #[.slice Ao56 t749.length co56, .bool a1] (h := ?_); (with_reducible refine (impl_PushNot.calls kj28 _ _ t749 a1 t752 t753 _ (Sh.cR (Kd.R_reads' HO751.out).2.2) (Kd.R_reads' HO751.out).2.1 A51.out).mono ?_); rintro e w57 ⟨v754, rfl, ho0, hb⟩; refine ⟨_, rfl, ?_⟩; have n0_ := am_ (Kd.R_elder' (Sh.rl HO_6.out) (Kd.R_base ho0) hb); have n1_ := am_ (Kd.R_elder' (Sh.rl HO_9.out) (Kd.R_base ho0) hb); have n2_ := am_ (Kd.R_elder' (Sh.rl HO751.out) (Kd.R_base ho0) hb); have n3_ := am_ (Kd.R_lower (Kd.R_new' (Kd.R_new' (Kd.R_new' ho0 (Kd.R_lt (Sh.rl HO_6.out))) (Kd.R_lt (Sh.rl HO_9.out))) (Kd.R_lt (Sh.rl HO751.out))) (below_size Sh.bw)); have n4_ := am_ (below_step Sh.bw hb); clear HO_6; clear HO_9; clear HO751; clear HB; have HO_6 := n0_; have HO_9 := n1_; have HO751 := n2_; have HO755 := n3_; have HB := n4_; clear n0_ n1_ n2_ n3_ n4_; (try clear hb); (try clear hb2); (try clear hk); (try clear hi); (try clear ho0)))
           (try simp only [Act.put, List.setIfInBounds_toArray, List.set_cons_zero, List.set_cons_succ])
           go_cut [92] (fun v92 wc => ∃ (kq : Nat) (x92_51 : Bool), v92 = .bool x92_51 ∧ Aside0 (laws_FnExactPushNot.j2 kq t747 t746 x92_51 = some r) ∧ Aside0 (kq ≤ kj28) ∧ Aside0 (Kd.R k59 59 wc w.heap.size (fun _ => True) (.slice Ao53 t734.length co53) t747) ∧ Aside0 (Below w.heap.size w wc))
           case first =>
            have H := HC52.out
            clear HC52
            obtain ⟨t756, A58, H⟩ := Sh.ba H
            by_cases c59 : t756 = true
            ·subst c59
             rw [if_pos rfl] at H
             have H' := am_ H
             clear H
             obtain ⟨Ao60, co60, eo60⟩ := Kd.R_slice HO755.out
             subst eo60
             obtain ⟨Ao61, co61, eo61⟩ := Kd.R_slice HO_6.out
             subst eo61
             go_wp2_with (first | ((with_reducible refine Sh.k 15 ?_); refine Sh.gB (some 86) Try.func15 #[.slice Ao60 t752.length co60, .slice Ao61 t727.length co61] (laws_eqSaidS.calls kj28 _ _ t752 _ _ t727 true _ (Sh.cR (Kd.R_reads' HO755.out).2.2) (Kd.R_reads' HO755.out).2.1 (Sh.cR (Kd.R_reads' HO_6.out).2.2) (Kd.R_reads' HO_6.out).2.1 A58.out) fun w62 hb => ?_; replace HO_6 := am_ (Kd.R_below (Sh.rl HO_6.out) hb); replace HO_9 := am_ (Kd.R_below (Sh.rl HO_9.out) hb); replace HO751 := am_ (Kd.R_below (Sh.rl HO751.out) hb); replace HO755 := am_ (Kd.R_below (Sh.rl HO755.out) hb); replace HB := Sh.hb hb; (try clear hb); (try clear hb2); (try clear hk); (try clear hi)))
             go_meet
             case rel => exact ⟨_, ((t753 != t728)), (Sh.es), H', ⟨by have := HJ8.out; have := HJ28.out; first | omega | exact Nat.le_refl _⟩, ⟨Sh.rl (Kd.R_mono HO_9.out (fun _ hk => trivial))⟩, ⟨Sh.bw⟩⟩
            ·replace c59 := Bool.eq_false_iff.mpr c59
             subst c59
             rw [Sh.nf] at H
             have H' := am_ H
             clear H
             obtain ⟨Ao63, co63, eo63⟩ := Kd.R_slice HO755.out
             subst eo63
             obtain ⟨Ao64, co64, eo64⟩ := Kd.R_slice HO_6.out
             subst eo64
             go_wp2_with (first | ((with_reducible refine Sh.k 15 ?_); refine Sh.gB (some 86) Try.func15 #[.slice Ao63 t752.length co63, .slice Ao64 t727.length co64] (laws_eqSaidS.calls kj28 _ _ t752 _ _ t727 false _ (Sh.cR (Kd.R_reads' HO755.out).2.2) (Kd.R_reads' HO755.out).2.1 (Sh.cR (Kd.R_reads' HO_6.out).2.2) (Kd.R_reads' HO_6.out).2.1 A58.out) fun w65 hb => ?_; replace HO_6 := am_ (Kd.R_below (Sh.rl HO_6.out) hb); replace HO_9 := am_ (Kd.R_below (Sh.rl HO_9.out) hb); replace HO751 := am_ (Kd.R_below (Sh.rl HO751.out) hb); replace HO755 := am_ (Kd.R_below (Sh.rl HO755.out) hb); replace HB := Sh.hb hb; (try clear hb); (try clear hb2); (try clear hk); (try clear hi)))
             go_meet
             case rel => exact ⟨_, (true), (Sh.es), H', ⟨by have := HJ8.out; have := HJ28.out; first | omega | exact Nat.le_refl _⟩, ⟨Sh.rl (Kd.R_mono HO_9.out (fun _ hk => trivial))⟩, ⟨Sh.bw⟩⟩
           case rest =>
            clear HC52
            obtain ⟨kq, x92_51, rfl, HA, HJ51, HO_9, HB⟩ := hcut
            have hl9_51 := (Kd.R_reads' HO_9.out).1
            rw [hl9_51] at HO_9
            (try simp only [hl9_51])
            cases kq with
            | zero => exact absurd HA.out (by simp [laws_FnExactPushNot.j2])
            | succ kj51 =>
             have H := HA.out
             clear HA
             simp only [laws_FnExactPushNot.j2] at H
             by_cases c66 : x92_51 = true
             ·subst c66
              rw [if_pos rfl] at H
              obtain rfl := Option.some.inj H
              go_wp2
              go_ret
              exact ⟨Sh.eR, Sh.bw⟩
             ·replace c66 := Bool.eq_false_iff.mpr c66
              subst c66
              rw [Sh.nf] at H
              obtain ⟨t757, A67, H⟩ := Sh.ba H
              by_cases c68 : t757 < 0
              ·rw [if_pos c68] at H
               have c68b0 := decide_eq_true c68
               clear c68
               obtain rfl := Option.some.inj H
               go_wp2_with (first | ((with_reducible refine Sh.k 30 ?_); refine Sh.gD (some 95) Try.func30 #[.slice Ao53 t747.length co53, .int .i64 1] (laws_heldSaidS.calls kj51 _ _ t747 1 t757 _ (Sh.cR (Kd.R_reads' HO_9.out).2.2) (Kd.R_reads' HO_9.out).2.1 A67.out) fun nd => ?_))
               go_ret
               exact ⟨Sh.eR, Sh.bw⟩
              ·rw [if_neg c68] at H
               have c68b0 := decide_eq_false c68
               clear c68
               by_cases c69 : t757 = t746
               ·rw [if_pos c69] at H
                have c69b0 : (t757 == t746) = true := beq_iff_eq.mpr c69
                have c69b1 : (t757 != t746) = false := bne_eq_false_iff_eq.mpr c69
                clear c69
                obtain rfl := Option.some.inj H
                go_wp2_with (first | ((with_reducible refine Sh.k 30 ?_); refine Sh.gD (some 95) Try.func30 #[.slice Ao53 t747.length co53, .int .i64 1] (laws_heldSaidS.calls kj51 _ _ t747 1 t757 _ (Sh.cR (Kd.R_reads' HO_9.out).2.2) (Kd.R_reads' HO_9.out).2.1 A67.out) fun nd => ?_))
                go_ret
                exact ⟨Sh.eR, Sh.bw⟩
               ·rw [if_neg c69] at H
                have c69b0 : (t757 == t746) = false := beq_eq_false_iff_ne.mpr c69
                have c69b1 : (t757 != t746) = true := bne_iff_ne.mpr c69
                obtain rfl := Option.some.inj H
                go_wp2_with (first | ((with_reducible refine Sh.k 30 ?_); refine Sh.gD (some 95) Try.func30 #[.slice Ao53 t747.length co53, .int .i64 1] (laws_heldSaidS.calls kj51 _ _ t747 1 t757 _ (Sh.cR (Kd.R_reads' HO_9.out).2.2) (Kd.R_reads' HO_9.out).2.1 A67.out) fun nd => ?_))
                go_ret
                exact ⟨Sh.eR, Sh.bw⟩
          ·rw [if_neg c49] at H
           have c49b0 : (t748 == t746) = false := beq_eq_false_iff_ne.mpr c49
           have c49b1 : (t748 != t746) = true := bne_iff_ne.mpr c49
           obtain rfl := Option.some.inj H
           obtain ⟨Ao70, co70, eo70⟩ := Kd.R_slice HO_9.out
           subst eo70
           go_wp2_with (first | ((with_reducible refine Sh.k 16 ?_); refine Sh.gL (some 68) Try.func16 #[.slice Ao70 t734.length co70, .int .i64 1] (h := ?_); (with_reducible refine (laws_markSaidS.calls kj28 (fun k_ => some k_ = (.slice Ao70 t734.length co70 : Value).ownBlock) (.slice Ao70 t734.length co70) t734 1 t746 t747 w _ ?side1 ?side2 A44.out).mono ?_); (case side1 => repeat (first | (with_reducible first | exact HB.out | apply below_alloc | apply pw_below_drewN | apply below_drew1) | exact HB.out)); (case side2 => exact Kd.R_tight rfl HO_9.out); rintro e w71 ⟨rfl, hy0, hb, hkp⟩; refine ⟨_, rfl, ?_⟩; replace HO_6 := am_ (Kd.R_mono (ok' := fun k_ => some k_ ≠ (.slice Ao70 t734.length co70 : Value).ownBlock) (Kd.R_keptB (HO_6.out) hkp (fun k_ hk_ hs_ => (hk_) hs_)) (fun k_ hk_ => hk_.1)); replace HO_9 := am_ (Kd.R_reok rfl hy0 (fun k_ e_ => HO_9.out.1 k_ e_)); replace HB := am_ hb; (try clear hb); (try clear hkp); (try clear hy0)) | ((with_reducible refine Sh.k 30 ?_); refine goesL_ (some 71) rfl rfl Try.func30 (by kernel_rfl) rfl #[.slice Ao70 t747.length co70, .int .i64 1] rfl (by (try simp only [List.map_toArray, List.map_cons, List.map_nil]); first | done | (rw [show t747.length = t734.length from (Kd.R_reads' HO_9.out).1.symm] <;> rfl) | rfl | (simp only [List.length_drop, List.length_take]; rfl)) ?_; (with_reducible refine (laws_heldSaidS.calls kj28 _ _ t747 1 t748 _ (Sh.cR (Kd.R_reads' HO_9.out).2.2) ?side2 A45.out).mono ?_); (case side2 => rw [show t747.length = t734.length from (Kd.R_reads' HO_9.out).1.symm]; exact (Kd.R_reads' HO_9.out).2.1); rintro e w' ⟨rfl, ⟨nd, rfl⟩⟩; refine ⟨_, rfl, ?_⟩))
           go_ret
           exact ⟨Sh.eR, Sh.bw⟩
     ·replace c27 := Bool.eq_false_iff.mpr c27
      subst c27
      rw [Sh.nf] at H
      obtain rfl := Option.some.inj H
      go_wp2_with (first | ((with_reducible refine Sh.k 12 ?_); refine Sh.gL (some 47) Try.func12 #[.slice A0 l0.length c0] (h := ?_); (with_reducible refine (laws_toSaidS.calls kj8 _ _ l0 t739 _ (Sh.cB HR0.out) HC0.out A25.out).mono ?_); rintro e w72 ⟨v740, rfl, ho0, hb⟩; refine ⟨_, rfl, ?_⟩; have n0_ := am_ (Kd.R_elder' (Sh.rl HO_6.out) (Kd.R_base ho0) hb); have n1_ := am_ (Kd.R_elder' (Sh.rl HO_8.out) (Kd.R_base ho0) hb); have n2_ := am_ (Kd.R_elder' (Sh.rl HO_9.out) (Kd.R_base ho0) hb); have n3_ := am_ (Kd.R_lower (Kd.R_new' (Kd.R_new' (Kd.R_new' ho0 (Kd.R_lt (Sh.rl HO_6.out))) (Kd.R_lt (Sh.rl HO_8.out))) (Kd.R_lt (Sh.rl HO_9.out))) (below_size Sh.bw)); have n4_ := am_ (below_step Sh.bw hb); clear HO_6; clear HO_8; clear HO_9; clear HB; have HO_6 := n0_; have HO_8 := n1_; have HO_9 := n2_; have HO741 := n3_; have HB := n4_; clear n0_ n1_ n2_ n3_ n4_; (try clear hb); (try clear hb2); (try clear hk); (try clear hi); (try clear ho0); obtain ⟨Ao73, co73, eo73⟩ := Kd.R_slice HO741.out; subst eo73) | ((with_reducible refine Sh.k 15 ?_); refine Sh.gB (some 48) Try.func15 #[.slice Ao14 t731.length co14, .slice Ao73 t739.length co73] (laws_eqSaidS.calls kj8 _ _ t731 _ _ t739 false _ (Sh.cR (Kd.R_reads' HO_8.out).2.2) (Kd.R_reads' HO_8.out).2.1 (Sh.cR (Kd.R_reads' HO741.out).2.2) (Kd.R_reads' HO741.out).2.1 A26.out) fun w74 hb => ?_; replace HO_6 := am_ (Kd.R_below (Sh.rl HO_6.out) hb); replace HO_8 := am_ (Kd.R_below (Sh.rl HO_8.out) hb); replace HO_9 := am_ (Kd.R_below (Sh.rl HO_9.out) hb); replace HO741 := am_ (Kd.R_below (Sh.rl HO741.out) hb); replace HB := Sh.hb hb; (try clear hb); (try clear hb2); (try clear hk); (try clear hi)))
      go_ret
      exact ⟨Sh.eR, Sh.bw⟩

end Go.Proofs.Ytaacldndbjmekaa.P
