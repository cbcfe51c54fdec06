/- Go functions of this seat as Lean functions, and the proofs that the calls come to what these say; printed by a program of this session. No condition. -/
import Derived.Test.YtaacldndbjmekaaP0
import Derived.Test.YtaacldndbjmekaaP39
import Derived.Test.YtaacldndbjmekaaP40
import Derived.Test.YtaacldndbjmekaaP103
import Derived.Test.YtaacldndbjmekaaP106
import Derived.Test.YtaacldndbjmekaaP114
namespace Go.Proofs.Ytaacldndbjmekaa.P
open Go.RowKit Go.Proofs.YtaacldndbjmekaaW.PrintWords Go.Proofs.YtaacldndbjmekaaW.PrintLast Go.Proofs.YtaacldndbjmekaaW.PrintMore Go.Proofs.Ytaacldndbjmekaa.Hof
attribute [local go_sem] max2_int min2_int max_two min_two max_three min_three max_four min_four   -- for this text's walks alone
set_option linter.unusedVariables false
set_option linter.unusedSimpArgs false

/-! ### laws_FnExactReadSaid: function 9 -/
mutual
def laws_FnExactReadSaid.j0 : Nat → ByteArray → List (S59) → Int → Bool → List (S59) → Bool → Option (Bool)
 | 0, _, _, _, _, _, _ => none
 | k + 1, x0, x3, x4, x5, x6, x42 => if x42 = true then (some false) else ((laws_markSaidS.f k x6 1).bind fun bt841 => ((laws_heldSaidS.f k bt841.2 1).bind fun t843 => (if t843 < 0 then (some false) else (if t843 = bt841.1 then ((impl_ReadSaid.f k x0).bind fun bt844 => ((laws_eqSaidS.f k bt844.1 x3).bind fun t849 => (if t849 = true then (if bt844.2.1 = x4 then (laws_FnExactReadSaid.j1 k bt841.2 bt841.1 (bt844.2.2 != x5)) else (laws_FnExactReadSaid.j1 k bt841.2 bt841.1 true)) else (laws_FnExactReadSaid.j1 k bt841.2 bt841.1 true)))) else (some false)))))
def laws_FnExactReadSaid.j1 : Nat → List (S59) → Int → Bool → Option (Bool)
 | 0, _, _, _ => none
 | k + 1, x6, x9, x73 => if x73 = true then (some false) else ((laws_heldSaidS.f k x6 1).bind fun t850 => (if t850 < 0 then (some false) else (if t850 = x9 then (some true) else (some false))))
end
def laws_FnExactReadSaid.f (k : Nat) (a0 : ByteArray) : Option (Bool) := if (a0.size : Int) > 1048576 then (some true) else ((spec_ReadSaid.f k a0).bind fun bt830 => ((impl_ReadSaid.f k a0).bind fun bt835 => ((laws_eqSaidS.f k bt835.1 bt830.1).bind fun t840 => (if t840 = true then (if bt835.2.1 = bt830.2.1 then (laws_FnExactReadSaid.j0 k a0 bt830.1 bt830.2.1 bt830.2.2 bt835.1 (bt835.2.2 != bt830.2.2)) else (laws_FnExactReadSaid.j0 k a0 bt830.1 bt830.2.1 bt830.2.2 bt835.1 true)) else (laws_FnExactReadSaid.j0 k a0 bt830.1 bt830.2.1 bt830.2.2 bt835.1 true)))))
theorem laws_FnExactReadSaid.mono_l : ∀ k, (∀ y0 y1 y2 y3 y4 y5, LeO (laws_FnExactReadSaid.j0 k y0 y1 y2 y3 y4 y5) (laws_FnExactReadSaid.j0 (k + 1) y0 y1 y2 y3 y4 y5)) ∧ (∀ y0 y1 y2, LeO (laws_FnExactReadSaid.j1 k y0 y1 y2) (laws_FnExactReadSaid.j1 (k + 1) y0 y1 y2))
 | 0 => ⟨fun _ _ _ _ _ _ r h => by simp [laws_FnExactReadSaid.j0] at h, fun _ _ _ r h => by simp [laws_FnExactReadSaid.j1] at h⟩
 | k + 1 => by
  obtain ⟨ih0, ih1⟩ := laws_FnExactReadSaid.mono_l k
  and_intros <;> intros
  all_goals (first | unfold laws_FnExactReadSaid.j0 | unfold laws_FnExactReadSaid.j1)
  all_goals repeat' with_reducible first | apply ih0 | apply ih1 | apply impl_ReadSaid.mono | apply laws_eqSaidS.mono | apply laws_heldSaidS.mono | apply laws_markSaidS.mono | apply spec_ReadSaid.mono | exact LeO.refl _ | exact LeO.none _ | apply LeO.ite | refine LeO.bind ?_ fun _ => ?_
theorem laws_FnExactReadSaid.mono : ∀ a0 k, LeO (laws_FnExactReadSaid.f k a0) (laws_FnExactReadSaid.f (k + 1) a0) := by
 intro a0 k
 obtain ⟨ih0, ih1⟩ := laws_FnExactReadSaid.mono_l k
 unfold laws_FnExactReadSaid.f
 repeat' with_reducible first | apply ih0 | apply ih1 | apply impl_ReadSaid.mono | apply laws_eqSaidS.mono | apply laws_heldSaidS.mono | apply laws_markSaidS.mono | apply spec_ReadSaid.mono | exact LeO.refl _ | exact LeO.none _ | apply LeO.ite | refine LeO.bind ?_ fun _ => ?_
set_option maxHeartbeats 8000000 in
set_option maxRecDepth 100000 in
theorem laws_FnExactReadSaid.calls (k : Nat) (a0 : ByteArray) (r : Bool) (w : World) (h : laws_FnExactReadSaid.f k a0 = some r) :
  Calls Try.prog 9 #[.string a0] w fun e w' => e = .returned (.bool r) ∧ Below w.heap.size w w' := by
 have HB := am_ (Below.refl w.heap.size w)
 have H := h
 clear h
 unfold laws_FnExactReadSaid.f at H
 by_cases c2 : (a0.size : Int) > 1048576
 ·rw [if_pos c2] at H
  have c2b0 : decide (1048576 < (a0.size : Int)) = true := decide_eq_true c2
  have c2b1 : decide (1048576 < a0.size) = true := decide_eq_true (by omega)
  clear c2
  obtain rfl := Option.some.inj H
  go_enter Try.func9, Try.ntmps9
  go_wp2
  go_ret
  exact ⟨Sh.eR, Sh.bw⟩
 ·rw [if_neg c2] at H
  have c2b0 : decide (1048576 < (a0.size : Int)) = false := decide_eq_false c2
  have c2b1 : decide (1048576 < a0.size) = false := decide_eq_false (by omega)
  clear c2
  obtain ⟨⟨t830, t831, t832⟩, A30, H⟩ := Sh.bd H
  have A3 := am_ A30
  clear A30
  obtain ⟨⟨t835, t836, t837⟩, A40, H⟩ := Sh.bd H
  have A4 := am_ A40
  clear A40
  have HC5 := am_ H
  clear H
  go_enter Try.func9, Try.ntmps9
  go_upto_region 5 with (first | ((with_reducible refine Sh.k 35 ?_); refine Sh.gL (some 19) Try.func35 #[.string a0] (h := ?_); (with_reducible refine (spec_ReadSaid.calls k a0 t830 t831 t832 _ A3.out).mono ?_); rintro e w6 ⟨v833, rfl, ho0, hb⟩; refine ⟨_, rfl, ?_⟩; have HO834 := am_ (Kd.R_lower ho0 (below_size Sh.bw)); replace HB := Sh.hb hb; (try clear hb); (try clear hb2); (try clear hk); (try clear hi); (try clear ho0)) | ((with_reducible refine Sh.k 36 ?_); refine Sh.gL (some 25) Try.func36 #[.string a0] (h := ?_); (with_reducible refine (impl_ReadSaid.calls k a0 t835 t836 t837 _ A4.out).mono ?_); rintro e w7 ⟨v838, rfl, ho0, hb⟩; refine ⟨_, rfl, ?_⟩; have HO839 := am_ (Kd.R_lower (Kd.R_new' ho0 (Kd.R_lt (Sh.rl HO834.out))) (below_size Sh.bw)); replace HO834 := am_ (Kd.R_elder' (Sh.rl HO834.out) (Kd.R_base ho0) hb); replace HB := Sh.hb hb; (try clear hb); (try clear hb2); (try clear hk); (try clear hi); (try clear ho0)))
  (try simp only [Act.put, List.setIfInBounds_toArray, List.set_cons_zero, List.set_cons_succ])
  go_cut [42] (fun v42 wc => ∃ (kq : Nat) (x42_4 : Bool), v42 = .bool x42_4 ∧ Aside0 (laws_FnExactReadSaid.j0 kq a0 t830 t831 t832 t835 x42_4 = some r) ∧ Aside0 (kq ≤ k) ∧ Aside0 (Kd.R k59 59 wc w.heap.size (fun k_ => some k_ ≠ (v838 : Value).ownBlock) v833 t830) ∧ Aside0 (Kd.R k59 59 wc w.heap.size (fun k_ => some k_ ≠ (v833 : Value).ownBlock) v838 t835) ∧ Aside0 (Below w.heap.size w wc))
  case first =>
   have H := HC5.out
   clear HC5
   obtain ⟨t840, A8, H⟩ := Sh.ba H
   by_cases c9 : t840 = true
   ·subst c9
    rw [if_pos rfl] at H
    by_cases c10 : t836 = t831
    ·rw [if_pos c10] at H
     have c10b0 : (t836 == t831) = true := beq_iff_eq.mpr c10
     have c10b1 : (t836 != t831) = false := bne_eq_false_iff_eq.mpr c10
     clear c10
     first | rw [c10b0] | (simp only [i64_w, i32_w]; rw [c10b0]) | skip
     have H' := am_ H
     clear H
     obtain ⟨Ao11, co11, eo11⟩ := Kd.R_slice HO839.out
     subst eo11
     obtain ⟨Ao12, co12, eo12⟩ := Kd.R_slice HO834.out
     subst eo12
     go_wp2_with (first | ((with_reducible refine Sh.k 15 ?_); refine Sh.gB (some 31) Try.func15 #[.slice Ao11 t835.length co11, .slice Ao12 t830.length co12] (laws_eqSaidS.calls k _ _ t835 _ _ t830 true _ (Sh.cR (Kd.R_reads' HO839.out).2.2) (Kd.R_reads' HO839.out).2.1 (Sh.cR (Kd.R_reads' HO834.out).2.2) (Kd.R_reads' HO834.out).2.1 A8.out) fun w13 hb => ?_; replace HO834 := am_ (Kd.R_below (Sh.rl HO834.out) hb); replace HO839 := am_ (Kd.R_below (Sh.rl HO839.out) hb); replace HB := Sh.hb hb; (try clear hb); (try clear hb2); (try clear hk); (try clear hi)))
     go_meet
     case rel => exact ⟨_, ((t837 != t832)), (Sh.es), H', ⟨Sh.om⟩, ⟨Sh.rl (Kd.R_mono HO834.out (fun _ hk => hk.2))⟩, ⟨Sh.rl (Kd.R_mono HO839.out (fun _ hk => hk.2))⟩, ⟨Sh.bw⟩⟩
    ·rw [if_neg c10] at H
     have c10b0 : (t836 == t831) = false := beq_eq_false_iff_ne.mpr c10
     have c10b1 : (t836 != t831) = true := bne_iff_ne.mpr c10
     first | rw [c10b0] | (simp only [i64_w, i32_w]; rw [c10b0]) | skip
     have H' := am_ H
     clear H
     obtain ⟨Ao14, co14, eo14⟩ := Kd.R_slice HO839.out
     subst eo14
     obtain ⟨Ao15, co15, eo15⟩ := Kd.R_slice HO834.out
     subst eo15
     go_wp2_with (first | ((with_reducible refine Sh.k 15 ?_); refine Sh.gB (some 31) Try.func15 #[.slice Ao14 t835.length co14, .slice Ao15 t830.length co15] (laws_eqSaidS.calls k _ _ t835 _ _ t830 true _ (Sh.cR (Kd.R_reads' HO839.out).2.2) (Kd.R_reads' HO839.out).2.1 (Sh.cR (Kd.R_reads' HO834.out).2.2) (Kd.R_reads' HO834.out).2.1 A8.out) fun w16 hb => ?_; replace HO834 := am_ (Kd.R_below (Sh.rl HO834.out) hb); replace HO839 := am_ (Kd.R_below (Sh.rl HO839.out) hb); replace HB := Sh.hb hb; (try clear hb); (try clear hb2); (try clear hk); (try clear hi)))
     go_meet
     case rel => exact ⟨_, (true), (Sh.es), H', ⟨Sh.om⟩, ⟨Sh.rl (Kd.R_mono HO834.out (fun _ hk => hk.2))⟩, ⟨Sh.rl (Kd.R_mono HO839.out (fun _ hk => hk.2))⟩, ⟨Sh.bw⟩⟩
   ·replace c9 := Bool.eq_false_iff.mpr c9
    subst c9
    rw [Sh.nf] at H
    have H' := am_ H
    clear H
    obtain ⟨Ao17, co17, eo17⟩ := Kd.R_slice HO839.out
    subst eo17
    obtain ⟨Ao18, co18, eo18⟩ := Kd.R_slice HO834.out
    subst eo18
    go_wp2_with (first | ((with_reducible refine Sh.k 15 ?_); refine Sh.gB (some 31) Try.func15 #[.slice Ao17 t835.length co17, .slice Ao18 t830.length co18] (laws_eqSaidS.calls k _ _ t835 _ _ t830 false _ (Sh.cR (Kd.R_reads' HO839.out).2.2) (Kd.R_reads' HO839.out).2.1 (Sh.cR (Kd.R_reads' HO834.out).2.2) (Kd.R_reads' HO834.out).2.1 A8.out) fun w19 hb => ?_; replace HO834 := am_ (Kd.R_below (Sh.rl HO834.out) hb); replace HO839 := am_ (Kd.R_below (Sh.rl HO839.out) hb); replace HB := Sh.hb hb; (try clear hb); (try clear hb2); (try clear hk); (try clear hi)))
    go_meet
    case rel => exact ⟨_, (true), (Sh.es), H', ⟨Sh.om⟩, ⟨Sh.rl (Kd.R_mono HO834.out (fun _ hk => hk.2))⟩, ⟨Sh.rl (Kd.R_mono HO839.out (fun _ hk => hk.2))⟩, ⟨Sh.bw⟩⟩
  case rest =>
   clear HC5
   obtain ⟨kq, x42_4, rfl, HA, HJ4, HO_3, HO_6, HB⟩ := hcut
   cases kq with
   | zero => exact absurd HA.out (by simp [laws_FnExactReadSaid.j0])
   | succ kj4 =>
    have H := HA.out
    clear HA
    simp only [laws_FnExactReadSaid.j0] at H
    by_cases c20 : x42_4 = true
    ·subst c20
     rw [if_pos rfl] at H
     obtain rfl := Option.some.inj H
     go_wp2
     go_ret
     exact ⟨Sh.eR, Sh.bw⟩
    ·replace c20 := Bool.eq_false_iff.mpr c20
     subst c20
     rw [Sh.nf] at H
     obtain ⟨⟨t841, t842⟩, A210, H⟩ := Sh.bd H
     have A21 := am_ A210
     clear A210
     obtain ⟨t843, A22, H⟩ := Sh.ba H
     by_cases c23 : t843 < 0
     ·rw [if_pos c23] at H
      have c23b0 := decide_eq_true c23
      clear c23
      obtain rfl := Option.some.inj H
      obtain ⟨Ao24, co24, eo24⟩ := Kd.R_slice HO_6.out
      subst eo24
      go_wp2_with (first | ((with_reducible refine Sh.k 16 ?_); refine Sh.gL (some 45) Try.func16 #[.slice Ao24 t835.length co24, .int .i64 1] (h := ?_); (with_reducible refine (laws_markSaidS.calls kj4 (fun k_ => some k_ = (.slice Ao24 t835.length co24 : Value).ownBlock) (.slice Ao24 t835.length co24) t835 1 t841 t842 w _ ?side1 ?side2 A21.out).mono ?_); (case side1 => repeat (first | (with_reducible first | exact HB.out | apply below_alloc | apply pw_below_drewN | apply below_drew1) | exact HB.out)); (case side2 => exact Kd.R_tight rfl HO_6.out); rintro e w25 ⟨rfl, hy0, hb, hkp⟩; refine ⟨_, rfl, ?_⟩; replace HO_3 := am_ (Kd.R_mono (ok' := fun k_ => some k_ ≠ (.slice Ao24 t835.length co24 : Value).ownBlock) (Kd.R_keptB (HO_3.out) hkp (fun k_ hk_ hs_ => (hk_) hs_)) (fun k_ hk_ => hk_.1)); replace HO_6 := am_ (Kd.R_reok rfl hy0 (fun k_ e_ => HO_6.out.1 k_ e_)); replace HB := am_ hb; (try clear hb); (try clear hkp); (try clear hy0)) | ((with_reducible refine Sh.k 30 ?_); refine goesL_ (some 48) rfl rfl Try.func30 (by kernel_rfl) rfl #[.slice Ao24 t842.length co24, .int .i64 1] rfl (by (try simp only [List.map_toArray, List.map_cons, List.map_nil]); first | done | (rw [show t842.length = t835.length from (Kd.R_reads' HO_6.out).1.symm] <;> rfl) | rfl | (simp only [List.length_drop, List.length_take]; rfl)) ?_; (with_reducible refine (laws_heldSaidS.calls kj4 _ _ t842 1 t843 _ (Sh.cR (Kd.R_reads' HO_6.out).2.2) ?side2 A22.out).mono ?_); (case side2 => rw [show t842.length = t835.length from (Kd.R_reads' HO_6.out).1.symm]; exact (Kd.R_reads' HO_6.out).2.1); rintro e w' ⟨rfl, ⟨nd, rfl⟩⟩; refine ⟨_, rfl, ?_⟩))
      go_ret
      exact ⟨Sh.eR, Sh.bw⟩
     ·rw [if_neg c23] at H
      have c23b0 := decide_eq_false c23
      clear c23
      by_cases c26 : t843 = t841
      ·rw [if_pos c26] at H
       have c26b0 : (t843 == t841) = true := beq_iff_eq.mpr c26
       have c26b1 : (t843 != t841) = false := bne_eq_false_iff_eq.mpr c26
       clear c26
       obtain ⟨⟨t844, t845, t846⟩, A270, H⟩ := Sh.bd H
       have A27 := am_ A270
       clear A270
       have HC28 := am_ H
       clear H
       obtain ⟨Ao29, co29, eo29⟩ := Kd.R_slice HO_6.out
       subst eo29
       go_upto_region 16 with (first | ((with_reducible refine Sh.k 16 ?_); refine Sh.gL (some 45) Try.func16 #[.slice Ao29 t835.length co29, .int .i64 1] (h := ?_); (with_reducible refine (laws_markSaidS.calls kj4 (fun k_ => some k_ = (.slice Ao29 t835.length co29 : Value).ownBlock) (.slice Ao29 t835.length co29) t835 1 t841 t842 w _ ?side1 ?side2 A21.out).mono ?_); (case side1 => repeat (first | (with_reducible first | exact HB.out | apply below_alloc | apply pw_below_drewN | apply below_drew1) | exact HB.out)); (case side2 => exact Kd.R_tight rfl HO_6.out); rintro e w30 ⟨rfl, hy0, hb, hkp⟩; refine ⟨_, rfl, ?_⟩; replace HO_3 := am_ (Kd.R_mono (ok' := fun k_ => some k_ ≠ (.slice Ao29 t835.length co29 : Value).ownBlock) (Kd.R_keptB (HO_3.out) hkp (fun k_ hk_ hs_ => (hk_) hs_)) (fun k_ hk_ => hk_.1)); replace HO_6 := am_ (Kd.R_reok rfl hy0 (fun k_ e_ => HO_6.out.1 k_ e_)); replace HB := am_ hb; (try clear hb); (try clear hkp); (try clear hy0)) | ((with_reducible refine Sh.k 30 ?_); refine goesL_ (some 48) rfl rfl Try.func30 (by kernel_rfl) rfl #[.slice Ao29 t842.length co29, .int .i64 1] rfl (by (try simp only [List.map_toArray, List.map_cons, List.map_nil]); first | done | (rw [show t842.length = t835.length from (Kd.R_reads' HO_6.out).1.symm] <;> rfl) | rfl | (simp only [List.length_drop, List.length_take]; rfl)) ?_; (with_reducible refine (laws_heldSaidS.calls kj4 _ _ t842 1 t843 _ (Sh.cR (Kd.R_reads' HO_6.out).2.2) ?side2 A22.out).mono ?_); (case side2 => rw [show t842.length = t835.length from (Kd.R_reads' HO_6.out).1.symm]; exact (Kd.R_reads' HO_6.out).2.1); rintro e w' ⟨rfl, ⟨nd, rfl⟩⟩; refine ⟨_, rfl, ?_⟩) | ((with_reducible refine Sh.k 36 ?_); refine Sh.gL (some 56) Try.func36 #[.string a0] (h := ?_); (with_reducible refine (impl_ReadSaid.calls kj4 a0 t844 t845 t846 _ A27.out).mono ?_); rintro e w31 ⟨v847, rfl, ho0, hb⟩; refine ⟨_, rfl, ?_⟩; have HO848 := am_ (Kd.R_lower (Kd.R_new' (Kd.R_new' ho0 (Kd.R_lt (Sh.rl HO_3.out))) (Kd.R_lt (Sh.rl HO_6.out))) (below_size Sh.bw)); replace HO_3 := am_ (Kd.R_elder' (Sh.rl HO_3.out) (Kd.R_base ho0) hb); replace HO_6 := am_ (Kd.R_elder' (Sh.rl HO_6.out) (Kd.R_base ho0) hb); replace HB := Sh.hb hb; (try clear hb); (try clear hb2); (try clear hk); (try clear hi); (try clear ho0)))
       (try simp only [Act.put, List.setIfInBounds_toArray, List.set_cons_zero, List.set_cons_succ])
       go_cut [73] (fun v73 wc => ∃ (kq : Nat) (x73_27 : Bool), v73 = .bool x73_27 ∧ Aside0 (laws_FnExactReadSaid.j1 kq t842 t841 x73_27 = some r) ∧ Aside0 (kq ≤ kj4) ∧ Aside0 (Kd.R k59 59 wc w.heap.size (fun _ => True) (.slice Ao29 t835.length co29) t842) ∧ Aside0 (Below w.heap.size w wc))
       case first =>
        have H := HC28.out
        clear HC28
        obtain ⟨t849, A32, H⟩ := Sh.ba H
        by_cases c33 : t849 = true
        ·subst c33
         rw [if_pos rfl] at H
         by_cases c34 : t845 = t831
         ·rw [if_pos c34] at H
          have c34b0 : (t845 == t831) = true := beq_iff_eq.mpr c34
          have c34b1 : (t845 != t831) = false := bne_eq_false_iff_eq.mpr c34
          clear c34
          first | rw [c34b0] | (simp only [i64_w, i32_w]; rw [c34b0]) | skip
          have H' := am_ H
          clear H
          obtain ⟨Ao35, co35, eo35⟩ := Kd.R_slice HO848.out
          subst eo35
          obtain ⟨Ao36, co36, eo36⟩ := Kd.R_slice HO_3.out
          subst eo36
          go_wp2_with (first | ((with_reducible refine Sh.k 15 ?_); refine Sh.gB (some 62) Try.func15 #[.slice Ao35 t844.length co35, .slice Ao36 t830.length co36] (laws_eqSaidS.calls kj4 _ _ t844 _ _ t830 true _ (Sh.cR (Kd.R_reads' HO848.out).2.2) (Kd.R_reads' HO848.out).2.1 (Sh.cR (Kd.R_reads' HO_3.out).2.2) (Kd.R_reads' HO_3.out).2.1 A32.out) fun w37 hb => ?_; replace HO_3 := am_ (Kd.R_below (Sh.rl HO_3.out) hb); replace HO_6 := am_ (Kd.R_below (Sh.rl HO_6.out) hb); replace HO848 := am_ (Kd.R_below (Sh.rl HO848.out) hb); replace HB := Sh.hb hb; (try clear hb); (try clear hb2); (try clear hk); (try clear hi)))
          go_meet
          case rel => exact ⟨_, ((t846 != t832)), (Sh.es), H', ⟨by have := HJ4.out; first | omega | exact Nat.le_refl _⟩, ⟨Sh.rl (Kd.R_mono HO_6.out (fun _ hk => trivial))⟩, ⟨Sh.bw⟩⟩
         ·rw [if_neg c34] at H
          have c34b0 : (t845 == t831) = false := beq_eq_false_iff_ne.mpr c34
          have c34b1 : (t845 != t831) = true := bne_iff_ne.mpr c34
          first | rw [c34b0] | (simp only [i64_w, i32_w]; rw [c34b0]) | skip
          have H' := am_ H
          clear H
          obtain ⟨Ao38, co38, eo38⟩ := Kd.R_slice HO848.out
          subst eo38
          obtain ⟨Ao39, co39, eo39⟩ := Kd.R_slice HO_3.out
          subst eo39
          go_wp2_with (first | ((with_reducible refine Sh.k 15 ?_); refine Sh.gB (some 62) Try.func15 #[.slice Ao38 t844.length co38, .slice Ao39 t830.length co39] (laws_eqSaidS.calls kj4 _ _ t844 _ _ t830 true _ (Sh.cR (Kd.R_reads' HO848.out).2.2) (Kd.R_reads' HO848.out).2.1 (Sh.cR (Kd.R_reads' HO_3.out).2.2) (Kd.R_reads' HO_3.out).2.1 A32.out) fun w40 hb => ?_; replace HO_3 := am_ (Kd.R_below (Sh.rl HO_3.out) hb); replace HO_6 := am_ (Kd.R_below (Sh.rl HO_6.out) hb); replace HO848 := am_ (Kd.R_below (Sh.rl HO848.out) hb); replace HB := Sh.hb hb; (try clear hb); (try clear hb2); (try clear hk); (try clear hi)))
          go_meet
          case rel => exact ⟨_, (true), (Sh.es), H', ⟨by have := HJ4.out; first | omega | exact Nat.le_refl _⟩, ⟨Sh.rl (Kd.R_mono HO_6.out (fun _ hk => trivial))⟩, ⟨Sh.bw⟩⟩
        ·replace c33 := Bool.eq_false_iff.mpr c33
         subst c33
         rw [Sh.nf] at H
         have H' := am_ H
         clear H
         obtain ⟨Ao41, co41, eo41⟩ := Kd.R_slice HO848.out
         subst eo41
         obtain ⟨Ao42, co42, eo42⟩ := Kd.R_slice HO_3.out
         subst eo42
         go_wp2_with (first | ((with_reducible refine Sh.k 15 ?_); refine Sh.gB (some 62) Try.func15 #[.slice Ao41 t844.length co41, .slice Ao42 t830.length co42] (laws_eqSaidS.calls kj4 _ _ t844 _ _ t830 false _ (Sh.cR (Kd.R_reads' HO848.out).2.2) (Kd.R_reads' HO848.out).2.1 (Sh.cR (Kd.R_reads' HO_3.out).2.2) (Kd.R_reads' HO_3.out).2.1 A32.out) fun w43 hb => ?_; replace HO_3 := am_ (Kd.R_below (Sh.rl HO_3.out) hb); replace HO_6 := am_ (Kd.R_below (Sh.rl HO_6.out) hb); replace HO848 := am_ (Kd.R_below (Sh.rl HO848.out) hb); replace HB := Sh.hb hb; (try clear hb); (try clear hb2); (try clear hk); (try clear hi)))
         go_meet
         case rel => exact ⟨_, (true), (Sh.es), H', ⟨by have := HJ4.out; first | omega | exact Nat.le_refl _⟩, ⟨Sh.rl (Kd.R_mono HO_6.out (fun _ hk => trivial))⟩, ⟨Sh.bw⟩⟩
       case rest =>
        clear HC28
        obtain ⟨kq, x73_27, rfl, HA, HJ27, HO_6, HB⟩ := hcut
        have hl6_27 := (Kd.R_reads' HO_6.out).1
        rw [hl6_27] at HO_6
        (try simp only [hl6_27])
        cases kq with
        | zero => exact absurd HA.out (by simp [laws_FnExactReadSaid.j1])
        | succ kj27 =>
         have H := HA.out
         clear HA
         simp only [laws_FnExactReadSaid.j1] at H
         by_cases c44 : x73_27 = true
         ·subst c44
          rw [if_pos rfl] at H
          obtain rfl := Option.some.inj H
          go_wp2
          go_ret
          exact ⟨Sh.eR, Sh.bw⟩
         ·replace c44 := Bool.eq_false_iff.mpr c44
          subst c44
          rw [Sh.nf] at H
          obtain ⟨t850, A45, H⟩ := Sh.ba H
          by_cases c46 : t850 < 0
          ·rw [if_pos c46] at H
           have c46b0 := decide_eq_true c46
           clear c46
           obtain rfl := Option.some.inj H
           go_wp2_with (first | ((with_reducible refine Sh.k 30 ?_); refine Sh.gD (some 76) Try.func30 #[.slice Ao29 t842.length co29, .int .i64 1] (laws_heldSaidS.calls kj27 _ _ t842 1 t850 _ (Sh.cR (Kd.R_reads' HO_6.out).2.2) (Kd.R_reads' HO_6.out).2.1 A45.out) fun nd => ?_))
           go_ret
           exact ⟨Sh.eR, Sh.bw⟩
          ·rw [if_neg c46] at H
           have c46b0 := decide_eq_false c46
           clear c46
           by_cases c47 : t850 = t841
           ·rw [if_pos c47] at H
            have c47b0 : (t850 == t841) = true := beq_iff_eq.mpr c47
            have c47b1 : (t850 != t841) = false := bne_eq_false_iff_eq.mpr c47
            clear c47
            obtain rfl := Option.some.inj H
            go_wp2_with (first | ((with_reducible refine Sh.k 30 ?_); refine Sh.gD (some 76) Try.func30 #[.slice Ao29 t842.length co29, .int .i64 1] (laws_heldSaidS.calls kj27 _ _ t842 1 t850 _ (Sh.cR (Kd.R_reads' HO_6.out).2.2) (Kd.R_reads' HO_6.out).2.1 A45.out) fun nd => ?_))
            go_ret
            exact ⟨Sh.eR, Sh.bw⟩
           ·rw [if_neg c47] at H
            have c47b0 : (t850 == t841) = false := beq_eq_false_iff_ne.mpr c47
            have c47b1 : (t850 != t841) = true := bne_iff_ne.mpr c47
            obtain rfl := Option.some.inj H
            go_wp2_with (first | ((with_reducible refine Sh.k 30 ?_); refine Sh.gD (some 76) Try.func30 #[.slice Ao29 t842.length co29, .int .i64 1] (laws_heldSaidS.calls kj27 _ _ t842 1 t850 _ (Sh.cR (Kd.R_reads' HO_6.out).2.2) (Kd.R_reads' HO_6.out).2.1 A45.out) fun nd => ?_))
            go_ret
            exact ⟨Sh.eR, Sh.bw⟩
      ·rw [if_neg c26] at H
       have c26b0 : (t843 == t841) = false := beq_eq_false_iff_ne.mpr c26
       have c26b1 : (t843 != t841) = true := bne_iff_ne.mpr c26
       obtain rfl := Option.some.inj H
       obtain ⟨Ao48, co48, eo48⟩ := Kd.R_slice HO_6.out
       subst eo48
       go_wp2_with (first | ((with_reducible refine Sh.k 16 ?_); refine Sh.gL (some 45) Try.func16 #[.slice Ao48 t835.length co48, .int .i64 1] (h := ?_); (with_reducible refine (laws_markSaidS.calls kj4 (fun k_ => some k_ = (.slice Ao48 t835.length co48 : Value).ownBlock) (.slice Ao48 t835.length co48) t835 1 t841 t842 w _ ?side1 ?side2 A21.out).mono ?_); (case side1 => repeat (first | (with_reducible first | exact HB.out | apply below_alloc | apply pw_below_drewN | apply below_drew1) | exact HB.out)); (case side2 => exact Kd.R_tight rfl HO_6.out); rintro e w49 ⟨rfl, hy0, hb, hkp⟩; refine ⟨_, rfl, ?_⟩; replace HO_3 := am_ (Kd.R_mono (ok' := fun k_ => some k_ ≠ (.slice Ao48 t835.length co48 : Value).ownBlock) (Kd.R_keptB (HO_3.out) hkp (fun k_ hk_ hs_ => (hk_) hs_)) (fun k_ hk_ => hk_.1)); replace HO_6 := am_ (Kd.R_reok rfl hy0 (fun k_ e_ => HO_6.out.1 k_ e_)); replace HB := am_ hb; (try clear hb); (try clear hkp); (try clear hy0)) | ((with_reducible refine Sh.k 30 ?_); refine goesL_ (some 48) rfl rfl Try.func30 (by kernel_rfl) rfl #[.slice Ao48 t842.length co48, .int .i64 1] rfl (by (try simp only [List.map_toArray, List.map_cons, List.map_nil]); first | done | (rw [show t842.length = t835.length from (Kd.R_reads' HO_6.out).1.symm] <;> rfl) | rfl | (simp only [List.length_drop, List.length_take]; rfl)) ?_; (with_reducible refine (laws_heldSaidS.calls kj4 _ _ t842 1 t843 _ (Sh.cR (Kd.R_reads' HO_6.out).2.2) ?side2 A22.out).mono ?_); (case side2 => rw [show t842.length = t835.length from (Kd.R_reads' HO_6.out).1.symm]; exact (Kd.R_reads' HO_6.out).2.1); rintro e w' ⟨rfl, ⟨nd, rfl⟩⟩; refine ⟨_, rfl, ?_⟩))
       go_ret
       exact ⟨Sh.eR, Sh.bw⟩

end Go.Proofs.Ytaacldndbjmekaa.P
