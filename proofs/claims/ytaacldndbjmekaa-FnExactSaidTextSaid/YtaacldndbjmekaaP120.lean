/- Go functions of this seat as Lean functions, and the proofs that the calls come to what these say; printed by a program of this session. No condition. -/
import Derived.Test.YtaacldndbjmekaaP0
import Derived.Test.YtaacldndbjmekaaP1
import Derived.Test.YtaacldndbjmekaaP9
import Derived.Test.YtaacldndbjmekaaP39
import Derived.Test.YtaacldndbjmekaaP118
import Derived.Test.YtaacldndbjmekaaP119
namespace Go.Proofs.Ytaacldndbjmekaa.P
open Go.RowKit Go.Proofs.YtaacldndbjmekaaW.PrintWords Go.Proofs.YtaacldndbjmekaaW.PrintLast Go.Proofs.YtaacldndbjmekaaW.PrintMore Go.Proofs.Ytaacldndbjmekaa.Hof
attribute [local go_sem] max2_int min2_int max_two min_two max_three min_three max_four min_four   -- for this text's walks alone
set_option linter.unusedVariables false
set_option linter.unusedSimpArgs false

/-! ### laws_FnExactSaidText: function 7 -/
def laws_FnExactSaidText.j0 : Nat → List (S62) → List (S59) → Bool → Option (Bool)
 | 0, _, _, _ => none
 | k + 1, x0, x6, x34 => if x34 = true then (some false) else ((laws_toSaidS.f k x0).bind fun t935 => ((laws_eqSaidS.f k x6 t935).bind fun t938 => (if t938 = true then (some true) else (some false))))
def laws_FnExactSaidText.f (k : Nat) (l0 : List (S62)) : Option (Bool) := (laws_szSaidS.f l0 1048576).bind fun t924 => (if t924 < 0 then (some true) else ((laws_toSaidS.f k l0).bind fun t925 => ((spec_SaidText.f k t925).bind fun bt928 => ((laws_toSaidS.f k l0).bind fun t930 => ((impl_SaidText.f k t930).bind fun bt933 => (if bt933.1.toList = bt928.1.toList then (laws_FnExactSaidText.j0 k l0 t930 (bt933.2 != bt928.2)) else (laws_FnExactSaidText.j0 k l0 t930 true)))))))
theorem laws_FnExactSaidText.mono_l : ∀ k, (∀ y0 y1 y2, LeO (laws_FnExactSaidText.j0 k y0 y1 y2) (laws_FnExactSaidText.j0 (k + 1) y0 y1 y2))
 | 0 => fun _ _ _ r h => by simp [laws_FnExactSaidText.j0] at h
 | k + 1 => by
  have ih0 := laws_FnExactSaidText.mono_l k
  ·intro y0 y1 y2
   unfold laws_FnExactSaidText.j0
   repeat' with_reducible first | apply ih0 | apply impl_SaidText.mono | apply laws_eqSaidS.mono | apply laws_toSaidS.mono | apply spec_SaidText.mono | exact LeO.refl _ | exact LeO.none _ | apply LeO.ite | refine LeO.bind ?_ fun _ => ?_
theorem laws_FnExactSaidText.mono : ∀ a0 k, LeO (laws_FnExactSaidText.f k a0) (laws_FnExactSaidText.f (k + 1) a0) := by
 intro a0 k
 have ih0 := laws_FnExactSaidText.mono_l k
 unfold laws_FnExactSaidText.f
 repeat' with_reducible first | apply ih0 | apply impl_SaidText.mono | apply laws_eqSaidS.mono | apply laws_toSaidS.mono | apply spec_SaidText.mono | exact LeO.refl _ | exact LeO.none _ | apply LeO.ite | refine LeO.bind ?_ fun _ => ?_
set_option maxHeartbeats 8000000 in
set_option maxRecDepth 100000 in
theorem laws_FnExactSaidText.calls (k : Nat) (A0 : Option Addr) (c0 : Nat) (l0 : List (S62)) (r : Bool) (w : World) (hr0 : Kd.C k62 w A0 l0.length l0) (hc0 : l0.length ≤ c0) (h : laws_FnExactSaidText.f k l0 = some r) :
  Calls Try.prog 7 #[.slice A0 l0.length c0] w fun e w' => e = .returned (.bool r) ∧ Below w.heap.size w w' := by
 have HR0 := am_ hr0
 have HC0 := am_ hc0
 clear hr0 hc0
 have HB := am_ (Below.refl w.heap.size w)
 have H := h
 clear h
 unfold laws_FnExactSaidText.f at H
 obtain ⟨t924, A2, H⟩ := Sh.ba H
 by_cases c3 : t924 < 0
 ·rw [if_pos c3] at H
  have c3b0 := decide_eq_true c3
  clear c3
  obtain rfl := Option.some.inj H
  go_enter Try.func7, Try.ntmps7
  go_wp2_with (first | ((with_reducible refine Sh.k 10 ?_); refine Sh.gL (some 11) Try.func10 #[.slice A0 l0.length c0, .int .i64 1048576] (h := ?_); (with_reducible refine (laws_szSaidS.calls _ _ l0 1048576 t924 _ ?side1 ?side2 A2.out).mono ?_); (case side1 => repeat (first | exact HR0.out | (with_reducible first | refine Kd.C_alloc ?_ _ | refine Kd.C_drewN ?_ _ | refine Kd.C_drew ?_))); (case side2 => exact HC0.out); rintro e w' ⟨rfl, ⟨nd, rfl⟩⟩; refine ⟨_, rfl, ?_⟩))
  go_ret
  exact ⟨Sh.eR, Sh.bw⟩
 ·rw [if_neg c3] at H
  have c3b0 := decide_eq_false c3
  clear c3
  obtain ⟨t925, A4, H⟩ := Sh.ba H
  obtain ⟨⟨t928, t929⟩, A50, H⟩ := Sh.bd H
  have A5 := am_ A50
  clear A50
  obtain ⟨t930, A6, H⟩ := Sh.ba H
  obtain ⟨⟨t933, t934⟩, A70, H⟩ := Sh.bd H
  have A7 := am_ A70
  clear A70
  have HC8 := am_ H
  clear H
  go_enter Try.func7, Try.ntmps7
  go_upto_region 8 with (first | ((with_reducible refine Sh.k 10 ?_); refine Sh.gL (some 11) Try.func10 #[.slice A0 l0.length c0, .int .i64 1048576] (h := ?_); (with_reducible refine (laws_szSaidS.calls _ _ l0 1048576 t924 _ ?side1 ?side2 A2.out).mono ?_); (case side1 => repeat (first | exact HR0.out | (with_reducible first | refine Kd.C_alloc ?_ _ | refine Kd.C_drewN ?_ _ | refine Kd.C_drew ?_))); (case side2 => exact HC0.out); rintro e w' ⟨rfl, ⟨nd, rfl⟩⟩; refine ⟨_, rfl, ?_⟩) | ((with_reducible refine Sh.k 12 ?_); refine Sh.gL (some 16) Try.func12 #[.slice A0 l0.length c0] (h := ?_); (with_reducible refine (laws_toSaidS.calls k _ _ l0 t925 _ ?side1 ?side2 A4.out).mono ?_); (case side1 => repeat (first | exact HR0.out | (with_reducible first | refine Kd.C_alloc ?_ _ | refine Kd.C_drewN ?_ _ | refine Kd.C_drew ?_))); (case side2 => exact HC0.out); rintro e w9 ⟨v926, rfl, ho0, hb⟩; refine ⟨_, rfl, ?_⟩; have HO927 := am_ (Kd.R_lower ho0 (below_size Sh.bw)); replace HB := Sh.hb hb; (try clear hb); (try clear hb2); (try clear hk); (try clear hi); (try clear ho0); obtain ⟨Ao10, co10, eo10⟩ := Kd.R_slice HO927.out; subst eo10) | ((with_reducible refine Sh.k 31 ?_); refine Sh.gB (some 17) Try.func31 #[.slice Ao10 t925.length co10] (spec_SaidText.calls k _ _ t925 t928 t929 _ (Sh.cR (Kd.R_reads' HO927.out).2.2) (Kd.R_reads' HO927.out).2.1 A5.out) fun w11 hb => ?_; replace HO927 := am_ (Kd.R_below (Sh.rl HO927.out) hb); replace HB := Sh.hb hb; (try clear hb); (try clear hb2); (try clear hk); (try clear hi)) | ((with_reducible refine Sh.k 12 ?_); refine Sh.gL (some 21) Try.func12 #[.slice A0 l0.length c0] (h := ?_); (with_reducible refine (laws_toSaidS.calls k _ _ l0 t930 _ (Sh.cB HR0.out) HC0.out A6.out).mono ?_); rintro e w12 ⟨v931, rfl, ho0, hb⟩; refine ⟨_, rfl, ?_⟩; have HO932 := am_ (Kd.R_lower (Kd.R_new' ho0 (Kd.R_lt (Sh.rl HO927.out))) (below_size Sh.bw)); replace HO927 := am_ (Kd.R_elder' (Sh.rl HO927.out) (Kd.R_base ho0) hb); replace HB := Sh.hb hb; (try clear hb); (try clear hb2); (try clear hk); (try clear hi); (try clear ho0); obtain ⟨Ao13, co13, eo13⟩ := Kd.R_slice HO932.out; subst eo13) | ((with_reducible refine Sh.k 32 ?_); refine Sh.gB (some 24) Try.func32 #[.slice Ao13 t930.length co13] (impl_SaidText.calls k _ _ t930 t933 t934 _ (Sh.cR (Kd.R_reads' HO932.out).2.2) (Kd.R_reads' HO932.out).2.1 A7.out) fun w14 hb => ?_; replace HO927 := am_ (Kd.R_below (Sh.rl HO927.out) hb); replace HO932 := am_ (Kd.R_below (Sh.rl HO932.out) hb); replace HB := Sh.hb hb; (try clear hb); (try clear hb2); (try clear hk); (try clear hi)))
  (try simp only [Act.put, List.setIfInBounds_toArray, List.set_cons_zero, List.set_cons_succ])
  go_cut [34] (fun v34 wc => ∃ (kq : Nat) (x34_7 : Bool), v34 = .bool x34_7 ∧ Aside0 (laws_FnExactSaidText.j0 kq l0 t930 x34_7 = some r) ∧ Aside0 (kq ≤ k) ∧ Aside0 (Kd.R k59 59 wc w.heap.size (fun _ => True) (.slice Ao13 t930.length co13) t930) ∧ Aside0 (Below w.heap.size w wc))
  case first =>
   have H := HC8.out
   clear HC8
   by_cases c15 : t933.toList = t928.toList
   ·rw [if_pos c15] at H
    have c15b0 : (t933.toList == t928.toList) = true := beq_iff_eq.mpr c15
    have c15b1 : (t933.toList != t928.toList) = false := bne_eq_false_iff_eq.mpr c15
    clear c15
    first | rw [c15b0] | (simp only [i64_w, i32_w]; rw [c15b0]) | skip
    have H' := am_ H
    clear H
    go_wp2
    go_meet
    case rel => exact ⟨_, ((t934 != t929)), (Sh.es), H', ⟨Sh.om⟩, ⟨Sh.rl (Kd.R_mono HO932.out (fun _ hk => trivial))⟩, ⟨Sh.bw⟩⟩
   ·rw [if_neg c15] at H
    have c15b0 : (t933.toList == t928.toList) = false := beq_eq_false_iff_ne.mpr c15
    have c15b1 : (t933.toList != t928.toList) = true := bne_iff_ne.mpr c15
    first | rw [c15b0] | (simp only [i64_w, i32_w]; rw [c15b0]) | skip
    have H' := am_ H
    clear H
    go_wp2
    go_meet
    case rel => exact ⟨_, (true), (Sh.es), H', ⟨Sh.om⟩, ⟨Sh.rl (Kd.R_mono HO932.out (fun _ hk => trivial))⟩, ⟨Sh.bw⟩⟩
  case rest =>
   clear HC8
   obtain ⟨kq, x34_7, rfl, HA, HJ7, HO_6, HB⟩ := hcut
   cases kq with
   | zero => exact absurd HA.out (by simp [laws_FnExactSaidText.j0])
   | succ kj7 =>
    have H := HA.out
    clear HA
    simp only [laws_FnExactSaidText.j0] at H
    by_cases c16 : x34_7 = true
    ·subst c16
     rw [if_pos rfl] at H
     obtain rfl := Option.some.inj H
     go_wp2
     go_ret
     exact ⟨Sh.eR, Sh.bw⟩
    ·replace c16 := Bool.eq_false_iff.mpr c16
     subst c16
     rw [Sh.nf] at H
     obtain ⟨t935, A17, H⟩ := Sh.ba H
     obtain ⟨t938, A18, H⟩ := Sh.ba H
     by_cases c19 : t938 = true
     ·subst c19
      rw [if_pos rfl] at H
      obtain rfl := Option.some.inj H
      go_wp2_with (first | ((with_reducible refine Sh.k 12 ?_); refine Sh.gL (some 37) Try.func12 #[.slice A0 l0.length c0] (h := ?_); (with_reducible refine (laws_toSaidS.calls kj7 _ _ l0 t935 _ (Sh.cB HR0.out) HC0.out A17.out).mono ?_); rintro e w20 ⟨v936, rfl, ho0, hb⟩; refine ⟨_, rfl, ?_⟩; have HO937 := am_ (Kd.R_lower (Kd.R_new' ho0 (Kd.R_lt (Sh.rl HO_6.out))) (below_size Sh.bw)); replace HO_6 := am_ (Kd.R_elder' (Sh.rl HO_6.out) (Kd.R_base ho0) hb); replace HB := Sh.hb hb; (try clear hb); (try clear hb2); (try clear hk); (try clear hi); (try clear ho0); obtain ⟨Ao21, co21, eo21⟩ := Kd.R_slice HO937.out; subst eo21) | ((with_reducible refine Sh.k 15 ?_); refine Sh.gB (some 38) Try.func15 #[.slice Ao13 t930.length co13, .slice Ao21 t935.length co21] (laws_eqSaidS.calls kj7 _ _ t930 _ _ t935 true _ (Sh.cR (Kd.R_reads' HO_6.out).2.2) (Kd.R_reads' HO_6.out).2.1 (Sh.cR (Kd.R_reads' HO937.out).2.2) (Kd.R_reads' HO937.out).2.1 A18.out) fun w22 hb => ?_; replace HO_6 := am_ (Kd.R_below (Sh.rl HO_6.out) hb); replace HO937 := am_ (Kd.R_below (Sh.rl HO937.out) hb); replace HB := Sh.hb hb; (try clear hb); (try clear hb2); (try clear hk); (try clear hi)))
      go_ret
      exact ⟨Sh.eR, Sh.bw⟩
     ·replace c19 := Bool.eq_false_iff.mpr c19
      subst c19
      rw [Sh.nf] at H
      obtain rfl := Option.some.inj H
      go_wp2_with (first | ((with_reducible refine Sh.k 12 ?_); refine Sh.gL (some 37) Try.func12 #[.slice A0 l0.length c0] (h := ?_); (with_reducible refine (laws_toSaidS.calls kj7 _ _ l0 t935 _ (Sh.cB HR0.out) HC0.out A17.out).mono ?_); rintro e w23 ⟨v936, rfl, ho0, hb⟩; refine ⟨_, rfl, ?_⟩; have HO937 := am_ (Kd.R_lower (Kd.R_new' ho0 (Kd.R_lt (Sh.rl HO_6.out))) (below_size Sh.bw)); replace HO_6 := am_ (Kd.R_elder' (Sh.rl HO_6.out) (Kd.R_base ho0) hb); replace HB := Sh.hb hb; (try clear hb); (try clear hb2); (try clear hk); (try clear hi); (try clear ho0); obtain ⟨Ao24, co24, eo24⟩ := Kd.R_slice HO937.out; subst eo24) | ((with_reducible refine Sh.k 15 ?_); refine Sh.gB (some 38) Try.func15 #[.slice Ao13 t930.length co13, .slice Ao24 t935.length co24] (laws_eqSaidS.calls kj7 _ _ t930 _ _ t935 false _ (Sh.cR (Kd.R_reads' HO_6.out).2.2) (Kd.R_reads' HO_6.out).2.1 (Sh.cR (Kd.R_reads' HO937.out).2.2) (Kd.R_reads' HO937.out).2.1 A18.out) fun w25 hb => ?_; replace HO_6 := am_ (Kd.R_below (Sh.rl HO_6.out) hb); replace HO937 := am_ (Kd.R_below (Sh.rl HO937.out) hb); replace HB := Sh.hb hb; (try clear hb); (try clear hb2); (try clear hk); (try clear hi)))
      go_ret
      exact ⟨Sh.eR, Sh.bw⟩

end Go.Proofs.Ytaacldndbjmekaa.P
