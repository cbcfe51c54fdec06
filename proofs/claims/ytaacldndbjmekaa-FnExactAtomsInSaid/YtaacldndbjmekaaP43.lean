/- Go functions of this seat as Lean functions, and the proofs that the calls come to what these say; printed by a program of this session. No condition. -/
import Derived.Test.YtaacldndbjmekaaP0
import Derived.Test.YtaacldndbjmekaaP1
import Derived.Test.YtaacldndbjmekaaP7
import Derived.Test.YtaacldndbjmekaaP9
import Derived.Test.YtaacldndbjmekaaP36
import Derived.Test.YtaacldndbjmekaaP37
import Derived.Test.YtaacldndbjmekaaP39
import Derived.Test.YtaacldndbjmekaaP40
import Derived.Test.YtaacldndbjmekaaP41
import Derived.Test.YtaacldndbjmekaaP42
namespace Go.Proofs.Ytaacldndbjmekaa.P
open Go.RowKit Go.Proofs.YtaacldndbjmekaaW.PrintWords Go.Proofs.YtaacldndbjmekaaW.PrintLast Go.Proofs.YtaacldndbjmekaaW.PrintMore Go.Proofs.Ytaacldndbjmekaa.Hof
attribute [local go_sem] max2_int min2_int max_two min_two max_three min_three max_four min_four   -- for this text's walks alone
set_option linter.unusedVariables false
set_option linter.unusedSimpArgs false

/-! ### laws_FnExactAtomsIn: function 3 -/
mutual
def laws_FnExactAtomsIn.j0 : Nat → List (S62) → List Int → Bool → List (S59) → List Int → Bool → Bool → Option (Bool)
 | 0, _, _, _, _, _, _, _ => none
 | k + 1, x0, x4, x5, x6, x7, x8, x40 => if x40 = true then (some false) else ((laws_toSaidS.f k x0).bind fun t338 => ((laws_eqSaidS.f k x6 t338).bind fun t341 => (if t341 = true then ((laws_markSaidS.f k x6 1).bind fun bt342 => (if bt342.1 < 0 then (laws_FnExactAtomsIn.j1 k x0 x4 x5 x7 true) else ((laws_eqIntS.f k x7 x4).bind fun t344 => (if t344 = true then (laws_FnExactAtomsIn.j1 k x0 x4 x5 x7 (x8 != x5)) else (laws_FnExactAtomsIn.j1 k x0 x4 x5 x7 true))))) else (some false))))
def laws_FnExactAtomsIn.j1 : Nat → List (S62) → List Int → Bool → List Int → Bool → Option (Bool)
 | 0, _, _, _, _, _ => none
 | k + 1, x0, x4, x5, x7, x61 => if x61 = true then (some false) else ((laws_markIntS.f k x7 1).bind fun bt345 => ((laws_heldIntS.f k bt345.2 1).bind fun t347 => (if t347 < 0 then (some false) else (if t347 = bt345.1 then ((laws_toSaidS.f k x0).bind fun t348 => ((impl_AtomsIn.f k t348).bind fun bt351 => ((laws_eqIntS.f k bt351.1 x4).bind fun t355 => (if t355 = true then (laws_FnExactAtomsIn.j2 k bt345.2 bt345.1 (bt351.2 != x5)) else (laws_FnExactAtomsIn.j2 k bt345.2 bt345.1 true))))) else (some false)))))
def laws_FnExactAtomsIn.j2 : Nat → List Int → Int → Bool → Option (Bool)
 | 0, _, _, _ => none
 | k + 1, x7, x10, x87 => if x87 = true then (some false) else ((laws_heldIntS.f k x7 1).bind fun t356 => (if t356 < 0 then (some false) else (if t356 = x10 then (some true) else (some false))))
end
def laws_FnExactAtomsIn.f (k : Nat) (l0 : List (S62)) : Option (Bool) := (laws_szSaidS.f l0 1048576).bind fun t322 => (if t322 < 0 then (some true) else ((laws_toSaidS.f k l0).bind fun t323 => ((spec_AtomsIn.f k t323).bind fun bt326 => ((laws_toSaidS.f k l0).bind fun t330 => ((impl_AtomsIn.f k t330).bind fun bt333 => ((laws_eqIntS.f k bt333.1 bt326.1).bind fun t337 => (if t337 = true then (laws_FnExactAtomsIn.j0 k l0 bt326.1 bt326.2 t330 bt333.1 bt333.2 (bt333.2 != bt326.2)) else (laws_FnExactAtomsIn.j0 k l0 bt326.1 bt326.2 t330 bt333.1 bt333.2 true))))))))
theorem laws_FnExactAtomsIn.mono_l : ∀ k, (∀ y0 y1 y2 y3 y4 y5 y6, LeO (laws_FnExactAtomsIn.j0 k y0 y1 y2 y3 y4 y5 y6) (laws_FnExactAtomsIn.j0 (k + 1) y0 y1 y2 y3 y4 y5 y6)) ∧ (∀ y0 y1 y2 y3 y4, LeO (laws_FnExactAtomsIn.j1 k y0 y1 y2 y3 y4) (laws_FnExactAtomsIn.j1 (k + 1) y0 y1 y2 y3 y4)) ∧ (∀ y0 y1 y2, LeO (laws_FnExactAtomsIn.j2 k y0 y1 y2) (laws_FnExactAtomsIn.j2 (k + 1) y0 y1 y2))
 | 0 => ⟨fun _ _ _ _ _ _ _ r h => by simp [laws_FnExactAtomsIn.j0] at h, fun _ _ _ _ _ r h => by simp [laws_FnExactAtomsIn.j1] at h, fun _ _ _ r h => by simp [laws_FnExactAtomsIn.j2] at h⟩
 | k + 1 => by
  obtain ⟨ih0, ih1, ih2⟩ := laws_FnExactAtomsIn.mono_l k
  and_intros <;> intros
  all_goals (first | unfold laws_FnExactAtomsIn.j0 | unfold laws_FnExactAtomsIn.j1 | unfold laws_FnExactAtomsIn.j2)
  all_goals repeat' with_reducible first | apply ih0 | apply ih1 | apply ih2 | apply impl_AtomsIn.mono | apply laws_eqIntS.mono | apply laws_eqSaidS.mono | apply laws_heldIntS.mono | apply laws_markIntS.mono | apply laws_markSaidS.mono | apply laws_toSaidS.mono | apply spec_AtomsIn.mono | exact LeO.refl _ | exact LeO.none _ | apply LeO.ite | refine LeO.bind ?_ fun _ => ?_
theorem laws_FnExactAtomsIn.mono : ∀ a0 k, LeO (laws_FnExactAtomsIn.f k a0) (laws_FnExactAtomsIn.f (k + 1) a0) := by
 intro a0 k
 obtain ⟨ih0, ih1, ih2⟩ := laws_FnExactAtomsIn.mono_l k
 unfold laws_FnExactAtomsIn.f
 repeat' with_reducible first | apply ih0 | apply ih1 | apply ih2 | apply impl_AtomsIn.mono | apply laws_eqIntS.mono | apply laws_eqSaidS.mono | apply laws_heldIntS.mono | apply laws_markIntS.mono | apply laws_markSaidS.mono | apply laws_toSaidS.mono | apply spec_AtomsIn.mono | exact LeO.refl _ | exact LeO.none _ | apply LeO.ite | refine LeO.bind ?_ fun _ => ?_
set_option maxHeartbeats 8000000 in
set_option maxRecDepth 100000 in
theorem laws_FnExactAtomsIn.calls (k : Nat) (A0 : Option Addr) (c0 : Nat) (l0 : List (S62)) (r : Bool) (w : World) (hr0 : Kd.C k62 w A0 l0.length l0) (hc0 : l0.length ≤ c0) (h : laws_FnExactAtomsIn.f k l0 = some r) :
  Calls Try.prog 3 #[.slice A0 l0.length c0] w fun e w' => e = .returned (.bool r) ∧ Below w.heap.size w w' := by
 have HR0 := am_ hr0
 have HC0 := am_ hc0
 clear hr0 hc0
 have HB := am_ (Below.refl w.heap.size w)
 have H := h
 clear h
 unfold laws_FnExactAtomsIn.f at H
 obtain ⟨t322, A2, H⟩ := Sh.ba H
 by_cases c3 : t322 < 0
 ·rw [if_pos c3] at H
  have c3b0 := decide_eq_true c3
  clear c3
  obtain rfl := Option.some.inj H
  go_enter Try.func3, Try.ntmps3
  go_wp2_with (first | ((with_reducible refine Sh.k 10 ?_); refine Sh.gL (some 16) Try.func10 #[.slice A0 l0.length c0, .int .i64 1048576] (h := ?_); (with_reducible refine (laws_szSaidS.calls _ _ l0 1048576 t322 _ ?side1 ?side2 A2.out).mono ?_); (case side1 => repeat (first | exact HR0.out | (with_reducible first | refine Kd.C_alloc ?_ _ | refine Kd.C_drewN ?_ _ | refine Kd.C_drew ?_))); (case side2 => exact HC0.out); rintro e w' ⟨rfl, ⟨nd, rfl⟩⟩; refine ⟨_, rfl, ?_⟩))
  go_ret
  exact ⟨Sh.eR, Sh.bw⟩
 ·rw [if_neg c3] at H
  have c3b0 := decide_eq_false c3
  clear c3
  obtain ⟨t323, A4, H⟩ := Sh.ba H
  obtain ⟨⟨t326, t327⟩, A50, H⟩ := Sh.bd H
  have A5 := am_ A50
  clear A50
  obtain ⟨t330, A6, H⟩ := Sh.ba H
  obtain ⟨⟨t333, t334⟩, A70, H⟩ := Sh.bd H
  have A7 := am_ A70
  clear A70
  have HC8 := am_ H
  clear H
  go_enter Try.func3, Try.ntmps3
  go_upto_region 8 with (first | ((with_reducible refine Sh.k 10 ?_); refine Sh.gL (some 16) Try.func10 #[.slice A0 l0.length c0, .int .i64 1048576] (h := ?_); (with_reducible refine (laws_szSaidS.calls _ _ l0 1048576 t322 _ ?side1 ?side2 A2.out).mono ?_); (case side1 => repeat (first | exact HR0.out | (with_reducible first | refine Kd.C_alloc ?_ _ | refine Kd.C_drewN ?_ _ | refine Kd.C_drew ?_))); (case side2 => exact HC0.out); rintro e w' ⟨rfl, ⟨nd, rfl⟩⟩; refine ⟨_, rfl, ?_⟩) | ((with_reducible refine Sh.k 12 ?_); refine Sh.gL (some 21) Try.func12 #[.slice A0 l0.length c0] (h := ?_); (with_reducible refine (laws_toSaidS.calls k _ _ l0 t323 _ ?side1 ?side2 A4.out).mono ?_); (case side1 => repeat (first | exact HR0.out | (with_reducible first | refine Kd.C_alloc ?_ _ | refine Kd.C_drewN ?_ _ | refine Kd.C_drew ?_))); (case side2 => exact HC0.out); rintro e w9 ⟨v324, rfl, ho0, hb⟩; refine ⟨_, rfl, ?_⟩; have HO325 := am_ (Kd.R_lower ho0 (below_size Sh.bw)); replace HB := Sh.hb hb; (try clear hb); (try clear hb2); (try clear hk); (try clear hi); (try clear ho0); obtain ⟨Ao10, co10, eo10⟩ := Kd.R_slice HO325.out; subst eo10) | ((with_reducible refine Sh.k 11 ?_); refine Sh.gL (some 22) Try.func11 #[.slice Ao10 t323.length co10] (h := ?_); (with_reducible refine (spec_AtomsIn.calls k _ _ t323 t326 t327 _ (Sh.cR (Kd.R_reads' HO325.out).2.2) (Kd.R_reads' HO325.out).2.1 A5.out).mono ?_); rintro e w11 ⟨v328, rfl, ho0, hb⟩; refine ⟨_, rfl, ?_⟩; replace HO325 := am_ (Kd.R_below (Sh.rl HO325.out) hb); have HO329 := am_ (Kd.R_lower ho0 (below_size Sh.bw)); replace HB := Sh.hb hb; (try clear hb); (try clear hb2); (try clear hk); (try clear hi); (try clear ho0)) | ((with_reducible refine Sh.k 12 ?_); refine Sh.gL (some 26) Try.func12 #[.slice A0 l0.length c0] (h := ?_); (with_reducible refine (laws_toSaidS.calls k _ _ l0 t330 _ (Sh.cB HR0.out) HC0.out A6.out).mono ?_); rintro e w12 ⟨v331, rfl, ho0, hb⟩; refine ⟨_, rfl, ?_⟩; replace HO329 := am_ (Kd.R_below (Sh.rl HO329.out) hb); have HO332 := am_ (Kd.R_lower (Kd.R_new' ho0 (Kd.R_lt (Sh.rl HO325.out))) (below_size Sh.bw)); replace HO325 := am_ (Kd.R_elder' (Sh.rl HO325.out) (Kd.R_base ho0) hb); replace HB := Sh.hb hb; (try clear hb); (try clear hb2); (try clear hk); (try clear hi); (try clear ho0); obtain ⟨Ao13, co13, eo13⟩ := Kd.R_slice HO332.out; subst eo13) | ((with_reducible refine Sh.k 13 ?_); refine Sh.gL (some 29) Try.func13 #[.slice Ao13 t330.length co13] (h := ?_); (with_reducible refine (impl_AtomsIn.calls k _ _ t330 t333 t334 _ (Sh.cR (Kd.R_reads' HO332.out).2.2) (Kd.R_reads' HO332.out).2.1 A7.out).mono ?_); rintro e w14 ⟨v335, rfl, ho0, hb⟩; refine ⟨_, rfl, ?_⟩; replace HO325 := am_ (Kd.R_below (Sh.rl HO325.out) hb); replace HO332 := am_ (Kd.R_below (Sh.rl HO332.out) hb); have HO336 := am_ (Kd.R_lower (Kd.R_new' ho0 (Kd.R_lt (Sh.rl HO329.out))) (below_size Sh.bw)); replace HO329 := am_ (Kd.R_elder' (Sh.rl HO329.out) (Kd.R_base ho0) hb); replace HB := Sh.hb hb; (try clear hb); (try clear hb2); (try clear hk); (try clear hi); (try clear ho0)))
  (try simp only [Act.put, List.setIfInBounds_toArray, List.set_cons_zero, List.set_cons_succ])
  go_cut [40] (fun v40 wc => ∃ (kq : Nat) (x40_7 : Bool), v40 = .bool x40_7 ∧ Aside0 (laws_FnExactAtomsIn.j0 kq l0 t326 t327 t330 t333 t334 x40_7 = some r) ∧ Aside0 (kq ≤ k) ∧ Aside0 (Kd.R (Kd.int .i64) 3 wc w.heap.size (fun k_ => some k_ ≠ (v335 : Value).ownBlock) v328 t326) ∧ Aside0 (Kd.R k59 59 wc w.heap.size (fun _ => True) (.slice Ao13 t330.length co13) t330) ∧ Aside0 (Kd.R (Kd.int .i64) 3 wc w.heap.size (fun k_ => some k_ ≠ (v328 : Value).ownBlock) v335 t333) ∧ Aside0 (Below w.heap.size w wc))
  case first =>
   have H := HC8.out
   clear HC8
   obtain ⟨t337, A15, H⟩ := Sh.ba H
   by_cases c16 : t337 = true
   ·subst c16
    rw [if_pos rfl] at H
    have H' := am_ H
    clear H
    obtain ⟨Ao17, co17, eo17⟩ := Kd.R_slice HO336.out
    subst eo17
    obtain ⟨Ao18, co18, eo18⟩ := Kd.R_slice HO329.out
    subst eo18
    go_wp2_with (first | ((with_reducible refine Sh.k 14 ?_); refine Sh.gD (some 34) Try.func14 #[.slice Ao17 t333.length co17, .slice Ao18 t326.length co18] (laws_eqIntS.calls k _ _ t333 _ _ t326 true _ (Sh.cR (Kd.R_reads' HO336.out).2.2) (Kd.R_reads' HO336.out).2.1 (Sh.cR (Kd.R_reads' HO329.out).2.2) (Kd.R_reads' HO329.out).2.1 A15.out) fun nd => ?_))
    go_meet
    case rel => exact ⟨_, ((t334 != t327)), (Sh.es), H', ⟨Sh.om⟩, ⟨Sh.rl (Kd.R_mono HO329.out (fun _ hk => hk.2))⟩, ⟨Sh.rl (Kd.R_mono HO332.out (fun _ hk => trivial))⟩, ⟨Sh.rl (Kd.R_mono HO336.out (fun _ hk => hk.2))⟩, ⟨Sh.bw⟩⟩
   ·replace c16 := Bool.eq_false_iff.mpr c16
    subst c16
    rw [Sh.nf] at H
    have H' := am_ H
    clear H
    obtain ⟨Ao19, co19, eo19⟩ := Kd.R_slice HO336.out
    subst eo19
    obtain ⟨Ao20, co20, eo20⟩ := Kd.R_slice HO329.out
    subst eo20
    go_wp2_with (first | ((with_reducible refine Sh.k 14 ?_); refine Sh.gD (some 34) Try.func14 #[.slice Ao19 t333.length co19, .slice Ao20 t326.length co20] (laws_eqIntS.calls k _ _ t333 _ _ t326 false _ (Sh.cR (Kd.R_reads' HO336.out).2.2) (Kd.R_reads' HO336.out).2.1 (Sh.cR (Kd.R_reads' HO329.out).2.2) (Kd.R_reads' HO329.out).2.1 A15.out) fun nd => ?_))
    go_meet
    case rel => exact ⟨_, (true), (Sh.es), H', ⟨Sh.om⟩, ⟨Sh.rl (Kd.R_mono HO329.out (fun _ hk => hk.2))⟩, ⟨Sh.rl (Kd.R_mono HO332.out (fun _ hk => trivial))⟩, ⟨Sh.rl (Kd.R_mono HO336.out (fun _ hk => hk.2))⟩, ⟨Sh.bw⟩⟩
  case rest =>
   clear HC8
   obtain ⟨kq, x40_7, rfl, HA, HJ7, HO_4, HO_6, HO_7, HB⟩ := hcut
   cases kq with
   | zero => exact absurd HA.out (by simp [laws_FnExactAtomsIn.j0])
   | succ kj7 =>
    have H := HA.out
    clear HA
    simp only [laws_FnExactAtomsIn.j0] at H
    by_cases c21 : x40_7 = true
    ·subst c21
     rw [if_pos rfl] at H
     obtain rfl := Option.some.inj H
     go_wp2
     go_ret
     exact ⟨Sh.eR, Sh.bw⟩
    ·replace c21 := Bool.eq_false_iff.mpr c21
     subst c21
     rw [Sh.nf] at H
     obtain ⟨t338, A22, H⟩ := Sh.ba H
     obtain ⟨t341, A23, H⟩ := Sh.ba H
     by_cases c24 : t341 = true
     ·subst c24
      rw [if_pos rfl] at H
      obtain ⟨⟨t342, t343⟩, A250, H⟩ := Sh.bd H
      have A25 := am_ A250
      clear A250
      have HC26 := am_ H
      clear H
      go_upto_region 14 with (first | ((with_reducible refine Sh.k 12 ?_); refine Sh.gL (some 43) Try.func12 #[.slice A0 l0.length c0] (h := ?_); (with_reducible refine (laws_toSaidS.calls kj7 _ _ l0 t338 _ (Sh.cB HR0.out) HC0.out A22.out).mono ?_); rintro e w27 ⟨v339, rfl, ho0, hb⟩; refine ⟨_, rfl, ?_⟩; replace HO_4 := am_ (Kd.R_below (Sh.rl HO_4.out) hb); replace HO_7 := am_ (Kd.R_below (Sh.rl HO_7.out) hb); have HO340 := am_ (Kd.R_lower (Kd.R_new' ho0 (Kd.R_lt (Sh.rl HO_6.out))) (below_size Sh.bw)); replace HO_6 := am_ (Kd.R_elder' (Sh.rl HO_6.out) (Kd.R_base ho0) hb); replace HB := Sh.hb hb; (try clear hb); (try clear hb2); (try clear hk); (try clear hi); (try clear ho0); obtain ⟨Ao28, co28, eo28⟩ := Kd.R_slice HO340.out; subst eo28) | ((with_reducible refine Sh.k 15 ?_); refine Sh.gB (some 44) Try.func15 #[.slice Ao13 t330.length co13, .slice Ao28 t338.length co28] (laws_eqSaidS.calls kj7 _ _ t330 _ _ t338 true _ (Sh.cR (Kd.R_reads' HO_6.out).2.2) (Kd.R_reads' HO_6.out).2.1 (Sh.cR (Kd.R_reads' HO340.out).2.2) (Kd.R_reads' HO340.out).2.1 A23.out) fun w29 hb => ?_; replace HO_4 := am_ (Kd.R_below (Sh.rl HO_4.out) hb); replace HO_6 := am_ (Kd.R_below (Sh.rl HO_6.out) hb); replace HO_7 := am_ (Kd.R_below (Sh.rl HO_7.out) hb); replace HO340 := am_ (Kd.R_below (Sh.rl HO340.out) hb); replace HB := Sh.hb hb; (try clear hb); (try clear hb2); (try clear hk); (try clear hi)) | ((with_reducible refine Sh.k 16 ?_); refine Sh.gL (some 48) Try.func16 #[.slice Ao13 t330.length co13, .int .i64 1] (h := ?_); (with_reducible refine (laws_markSaidS.calls kj7 (fun k_ => some k_ = (.slice Ao13 t330.length co13 : Value).ownBlock) (.slice Ao13 t330.length co13) t330 1 t342 t343 w _ ?side1 ?side2 A25.out).mono ?_); (case side1 => repeat (first | (with_reducible first | exact HB.out | apply below_alloc | apply pw_below_drewN | apply below_drew1) | exact HB.out)); (case side2 => exact Kd.R_tight rfl HO_6.out); rintro e w30 ⟨rfl, hy0, hb, hkp⟩; refine ⟨_, rfl, ?_⟩; replace HO_4 := am_ (Kd.R_mono (ok' := fun k_ => some k_ ≠ (v335 : Value).ownBlock) (Kd.R_keptB ((Kd.R_apart' HO_4.out (Kd.R_typed HO_6.out) (by decide))) hkp (fun k_ hk_ hs_ => (hk_.2) hs_)) (fun k_ hk_ => hk_.1.1)); replace HO_7 := am_ (Kd.R_mono (ok' := fun k_ => some k_ ≠ (v328 : Value).ownBlock) (Kd.R_keptB ((Kd.R_apart' HO_7.out (Kd.R_typed HO_6.out) (by decide))) hkp (fun k_ hk_ hs_ => (hk_.2) hs_)) (fun k_ hk_ => hk_.1.1)); replace HO_6 := am_ (Kd.R_reok rfl hy0 (fun k_ e_ => HO_6.out.1 k_ e_)); replace HO340 := am_ (Kd.R_mono (ok' := fun k_ => some k_ ≠ (.slice Ao13 t330.length co13 : Value).ownBlock) (Kd.R_keptB (HO340.out) hkp (fun k_ hk_ hs_ => (hk_.2) hs_)) (fun k_ hk_ => hk_.1.2)); replace HB := am_ hb; (try clear hb); (try clear hkp); (try clear hy0)))
      (try simp only [Act.put, List.setIfInBounds_toArray, List.set_cons_zero, List.set_cons_succ])
      go_cut [61] (fun v61 wc => ∃ (kq : Nat) (x61_25 : Bool), v61 = .bool x61_25 ∧ Aside0 (laws_FnExactAtomsIn.j1 kq l0 t326 t327 t333 x61_25 = some r) ∧ Aside0 (kq ≤ kj7) ∧ Aside0 (Kd.R (Kd.int .i64) 3 wc w.heap.size (fun k_ => some k_ ≠ (v335 : Value).ownBlock) v328 t326) ∧ Aside0 (Kd.R (Kd.int .i64) 3 wc w.heap.size (fun k_ => some k_ ≠ (v328 : Value).ownBlock) v335 t333) ∧ Aside0 (Below w.heap.size w wc))
      case first =>
       have H := HC26.out
       clear HC26
       by_cases c31 : t342 < 0
       ·rw [if_pos c31] at H
        have c31b0 := decide_eq_true c31
        clear c31
        first | rw [c31b0] | (simp only [i64_w, i32_w]; rw [c31b0]) | skip
        have H' := am_ H
        clear H
        go_wp2
        go_meet
        case rel => exact ⟨_, (true), (Sh.es), H', ⟨by have := HJ7.out; first | omega | exact Nat.le_refl _⟩, ⟨Sh.rl HO_4.out⟩, ⟨Sh.rl HO_7.out⟩, ⟨Sh.bw⟩⟩
       ·rw [if_neg c31] at H
        have c31b0 := decide_eq_false c31
        clear c31
        first | rw [c31b0] | (simp only [i64_w, i32_w]; rw [c31b0]) | skip
        obtain ⟨t344, A32, H⟩ := Sh.ba H
        by_cases c33 : t344 = true
        ·subst c33
         rw [if_pos rfl] at H
         have H' := am_ H
         clear H
         obtain ⟨Ao34, co34, eo34⟩ := Kd.R_slice HO_7.out
         subst eo34
         obtain ⟨Ao35, co35, eo35⟩ := Kd.R_slice HO_4.out
         subst eo35
         go_wp2_with (first | (go_at_call 14; (with_reducible refine (laws_eqIntS.calls kj7 _ _ t333 _ _ t326 true _ (Sh.cR (Kd.R_reads' HO_7.out).2.2) (Kd.R_reads' HO_7.out).2.1 (Sh.cR (Kd.R_reads' HO_4.out).2.2) (Kd.R_reads' HO_4.out).2.1 A32.out).mono ?_); rintro e w' ⟨rfl, ⟨nd, rfl⟩⟩))
         go_meet
         case rel => exact ⟨_, ((t334 != t327)), (Sh.es), H', ⟨by have := HJ7.out; first | omega | exact Nat.le_refl _⟩, ⟨Sh.rl HO_4.out⟩, ⟨Sh.rl HO_7.out⟩, ⟨Sh.bw⟩⟩
        ·replace c33 := Bool.eq_false_iff.mpr c33
         subst c33
         rw [Sh.nf] at H
         have H' := am_ H
         clear H
         obtain ⟨Ao36, co36, eo36⟩ := Kd.R_slice HO_7.out
         subst eo36
         obtain ⟨Ao37, co37, eo37⟩ := Kd.R_slice HO_4.out
         subst eo37
         go_wp2_with (first | (go_at_call 14; (with_reducible refine (laws_eqIntS.calls kj7 _ _ t333 _ _ t326 false _ (Sh.cR (Kd.R_reads' HO_7.out).2.2) (Kd.R_reads' HO_7.out).2.1 (Sh.cR (Kd.R_reads' HO_4.out).2.2) (Kd.R_reads' HO_4.out).2.1 A32.out).mono ?_); rintro e w' ⟨rfl, ⟨nd, rfl⟩⟩))
         go_meet
         case rel => exact ⟨_, (true), (Sh.es), H', ⟨by have := HJ7.out; first | omega | exact Nat.le_refl _⟩, ⟨Sh.rl HO_4.out⟩, ⟨Sh.rl HO_7.out⟩, ⟨Sh.bw⟩⟩
      case rest =>
       clear HC26
       obtain ⟨kq, x61_25, rfl, HA, HJ25, HO_4, HO_7, HB⟩ := hcut
       cases kq with
       | zero => exact absurd HA.out (by simp [laws_FnExactAtomsIn.j1])
       | succ kj25 =>
        have H := HA.out
        clear HA
        simp only [laws_FnExactAtomsIn.j1] at H
        by_cases c38 : x61_25 = true
        ·subst c38
         rw [if_pos rfl] at H
         obtain rfl := Option.some.inj H
         go_wp2
         go_ret
         exact ⟨Sh.eR, Sh.bw⟩
        ·replace c38 := Bool.eq_false_iff.mpr c38
         subst c38
         rw [Sh.nf] at H
         obtain ⟨⟨t345, t346⟩, A390, H⟩ := Sh.bd H
         have A39 := am_ A390
         clear A390
         obtain ⟨t347, A40, H⟩ := Sh.ba H
         by_cases c41 : t347 < 0
         ·rw [if_pos c41] at H
          have c41b0 := decide_eq_true c41
          clear c41
          obtain rfl := Option.some.inj H
          obtain ⟨Ao42, co42, eo42⟩ := Kd.R_slice HO_7.out
          subst eo42
          go_wp2_with (first | ((with_reducible refine Sh.k 17 ?_); refine Sh.gL (some 64) Try.func17 #[.slice Ao42 t333.length co42, .int .i64 1] (h := ?_); (with_reducible refine (laws_markIntS.calls kj25 (fun k_ => some k_ = (.slice Ao42 t333.length co42 : Value).ownBlock) (.slice Ao42 t333.length co42) t333 1 t345 t346 w _ ?side1 ?side2 A39.out).mono ?_); (case side1 => repeat (first | (with_reducible first | exact HB.out | apply below_alloc | apply pw_below_drewN | apply below_drew1) | exact HB.out)); (case side2 => exact Kd.R_tight rfl HO_7.out); rintro e w43 ⟨rfl, hy0, hb, hkp⟩; refine ⟨_, rfl, ?_⟩; replace HO_4 := am_ (Kd.R_mono (ok' := fun k_ => some k_ ≠ (.slice Ao42 t333.length co42 : Value).ownBlock) (Kd.R_keptB (HO_4.out) hkp (fun k_ hk_ hs_ => (hk_) hs_)) (fun k_ hk_ => hk_.1)); replace HO_7 := am_ (Kd.R_reok rfl hy0 (fun k_ e_ => HO_7.out.1 k_ e_)); replace HB := am_ hb; (try clear hb); (try clear hkp); (try clear hy0)) | ((with_reducible refine Sh.k 18 ?_); refine goesL_ (some 67) rfl rfl Try.func18 (by kernel_rfl) rfl #[.slice Ao42 t346.length co42, .int .i64 1] rfl (by (try simp only [List.map_toArray, List.map_cons, List.map_nil]); first | done | (rw [show t346.length = t333.length from (Kd.R_reads' HO_7.out).1.symm] <;> rfl) | rfl | (simp only [List.length_drop, List.length_take]; rfl)) ?_; (with_reducible refine (laws_heldIntS.calls kj25 _ _ t346 1 t347 _ (Sh.cR (Kd.R_reads' HO_7.out).2.2) ?side2 A40.out).mono ?_); (case side2 => rw [show t346.length = t333.length from (Kd.R_reads' HO_7.out).1.symm]; exact (Kd.R_reads' HO_7.out).2.1); rintro e w' ⟨rfl, ⟨nd, rfl⟩⟩; refine ⟨_, rfl, ?_⟩))
          go_ret
          exact ⟨Sh.eR, Sh.bw⟩
         ·rw [if_neg c41] at H
          have c41b0 := decide_eq_false c41
          clear c41
          by_cases c44 : t347 = t345
          ·rw [if_pos c44] at H
           have c44b0 : (t347 == t345) = true := beq_iff_eq.mpr c44
           have c44b1 : (t347 != t345) = false := bne_eq_false_iff_eq.mpr c44
           clear c44
           obtain ⟨t348, A45, H⟩ := Sh.ba H
           obtain ⟨⟨t351, t352⟩, A460, H⟩ := Sh.bd H
           have A46 := am_ A460
           clear A460
           have HC47 := am_ H
           clear H
           obtain ⟨Ao48, co48, eo48⟩ := Kd.R_slice HO_7.out
           subst eo48
           go_upto_region 25 with (first | ((with_reducible refine Sh.k 17 ?_); refine Sh.gL (some 64) Try.func17 #[.slice Ao48 t333.length co48, .int .i64 1] (h := ?_); (with_reducible refine (laws_markIntS.calls kj25 (fun k_ => some k_ = (.slice Ao48 t333.length co48 : Value).ownBlock) (.slice Ao48 t333.length co48) t333 1 t345 t346 w _ ?side1 ?side2 A39.out).mono ?_); (case side1 => repeat (first | (with_reducible first | exact HB.out | apply below_alloc | apply pw_below_drewN | apply below_drew1) | exact HB.out)); (case side2 => exact Kd.R_tight rfl HO_7.out); rintro e w49 ⟨rfl, hy0, hb, hkp⟩; refine ⟨_, rfl, ?_⟩; replace HO_4 := am_ (Kd.R_mono (ok' := fun k_ => some k_ ≠ (.slice Ao48 t333.length co48 : Value).ownBlock) (Kd.R_keptB (HO_4.out) hkp (fun k_ hk_ hs_ => (hk_) hs_)) (fun k_ hk_ => hk_.1)); replace HO_7 := am_ (Kd.R_reok rfl hy0 (fun k_ e_ => HO_7.out.1 k_ e_)); replace HB := am_ hb; (try clear hb); (try clear hkp); (try clear hy0)) | ((with_reducible refine Sh.k 18 ?_); refine goesL_ (some 67) rfl rfl Try.func18 (by kernel_rfl) rfl #[.slice Ao48 t346.length co48, .int .i64 1] rfl (by (try simp only [List.map_toArray, List.map_cons, List.map_nil]); first | done | (rw [show t346.length = t333.length from (Kd.R_reads' HO_7.out).1.symm] <;> rfl) | rfl | (simp only [List.length_drop, List.length_take]; rfl)) ?_; (with_reducible refine (laws_heldIntS.calls kj25 _ _ t346 1 t347 _ (Sh.cR (Kd.R_reads' HO_7.out).2.2) ?side2 A40.out).mono ?_); (case side2 => rw [show t346.length = t333.length from (Kd.R_reads' HO_7.out).1.symm]; exact (Kd.R_reads' HO_7.out).2.1); rintro e w' ⟨rfl, ⟨nd, rfl⟩⟩; refine ⟨_, rfl, ?_⟩) | ((with_reducible refine Sh.k 12 ?_); refine Sh.gL (some 75) Try.func12 #[.slice A0 l0.length c0] (h := ?_); (with_reducible refine (laws_toSaidS.calls kj25 _ _ l0 t348 _ (Sh.cB HR0.out) HC0.out A45.out).mono ?_); rintro e w50 ⟨v349, rfl, ho0, hb⟩; refine ⟨_, rfl, ?_⟩; replace HO_4 := am_ (Kd.R_below (Sh.rl HO_4.out) hb); replace HO_7 := am_ (Kd.R_below (Sh.rl HO_7.out) hb); have HO350 := am_ (Kd.R_lower ho0 (below_size Sh.bw)); replace HB := Sh.hb hb; (try clear hb); (try clear hb2); (try clear hk); (try clear hi); (try clear ho0); obtain ⟨Ao51, co51, eo51⟩ := Kd.R_slice HO350.out; subst eo51) | ((with_reducible refine Sh.k 13 ?_); refine Sh.gL (some 76) Try.func13 #[.slice Ao51 t348.length co51] (h := ?_); (with_reducible refine (impl_AtomsIn.calls kj25 _ _ t348 t351 t352 _ (Sh.cR (Kd.R_reads' HO350.out).2.2) (Kd.R_reads' HO350.out).2.1 A46.out).mono ?_); rintro e w52 ⟨v353, rfl, ho0, hb⟩; refine ⟨_, rfl, ?_⟩; replace HO350 := am_ (Kd.R_below (Sh.rl HO350.out) hb); have HO354 := am_ (Kd.R_lower (Kd.R_new' (Kd.R_new' ho0 (Kd.R_lt (Sh.rl HO_4.out))) (Kd.R_lt (Sh.rl HO_7.out))) (below_size Sh.bw)); replace HO_4 := am_ (Kd.R_elder' (Sh.rl HO_4.out) (Kd.R_base ho0) hb); replace HO_7 := am_ (Kd.R_elder' (Sh.rl HO_7.out) (Kd.R_base ho0) hb); replace HB := Sh.hb hb; (try clear hb); (try clear hb2); (try clear hk); (try clear hi); (try clear ho0)))
           (try simp only [Act.put, List.setIfInBounds_toArray, List.set_cons_zero, List.set_cons_succ])
           go_cut [87] (fun v87 wc => ∃ (kq : Nat) (x87_46 : Bool), v87 = .bool x87_46 ∧ Aside0 (laws_FnExactAtomsIn.j2 kq t346 t345 x87_46 = some r) ∧ Aside0 (kq ≤ kj25) ∧ Aside0 (Kd.R (Kd.int .i64) 3 wc w.heap.size (fun _ => True) (.slice Ao48 t333.length co48) t346) ∧ Aside0 (Below w.heap.size w wc))
           case first =>
            have H := HC47.out
            clear HC47
            obtain ⟨t355, A53, H⟩ := Sh.ba H
            by_cases c54 : t355 = true
            ·subst c54
             rw [if_pos rfl] at H
             have H' := am_ H
             clear H
             obtain ⟨Ao55, co55, eo55⟩ := Kd.R_slice HO354.out
             subst eo55
             obtain ⟨Ao56, co56, eo56⟩ := Kd.R_slice HO_4.out
             subst eo56
             go_wp2_with (first | ((with_reducible refine Sh.k 14 ?_); refine Sh.gD (some 81) Try.func14 #[.slice Ao55 t351.length co55, .slice Ao56 t326.length co56] (laws_eqIntS.calls kj25 _ _ t351 _ _ t326 true _ (Sh.cR (Kd.R_reads' HO354.out).2.2) (Kd.R_reads' HO354.out).2.1 (Sh.cR (Kd.R_reads' HO_4.out).2.2) (Kd.R_reads' HO_4.out).2.1 A53.out) fun nd => ?_))
             go_meet
             case rel => exact ⟨_, ((t352 != t327)), (Sh.es), H', ⟨by have := HJ7.out; have := HJ25.out; first | omega | exact Nat.le_refl _⟩, ⟨Sh.rl (Kd.R_mono HO_7.out (fun _ hk => trivial))⟩, ⟨Sh.bw⟩⟩
            ·replace c54 := Bool.eq_false_iff.mpr c54
             subst c54
             rw [Sh.nf] at H
             have H' := am_ H
             clear H
             obtain ⟨Ao57, co57, eo57⟩ := Kd.R_slice HO354.out
             subst eo57
             obtain ⟨Ao58, co58, eo58⟩ := Kd.R_slice HO_4.out
             subst eo58
             go_wp2_with (first | ((with_reducible refine Sh.k 14 ?_); refine Sh.gD (some 81) Try.func14 #[.slice Ao57 t351.length co57, .slice Ao58 t326.length co58] (laws_eqIntS.calls kj25 _ _ t351 _ _ t326 false _ (Sh.cR (Kd.R_reads' HO354.out).2.2) (Kd.R_reads' HO354.out).2.1 (Sh.cR (Kd.R_reads' HO_4.out).2.2) (Kd.R_reads' HO_4.out).2.1 A53.out) fun nd => ?_))
             go_meet
             case rel => exact ⟨_, (true), (Sh.es), H', ⟨by have := HJ7.out; have := HJ25.out; first | omega | exact Nat.le_refl _⟩, ⟨Sh.rl (Kd.R_mono HO_7.out (fun _ hk => trivial))⟩, ⟨Sh.bw⟩⟩
           case rest =>
            clear HC47
            obtain ⟨kq, x87_46, rfl, HA, HJ46, HO_7, HB⟩ := hcut
            have hl7_46 := (Kd.R_reads' HO_7.out).1
            rw [hl7_46] at HO_7
            (try simp only [hl7_46])
            cases kq with
            | zero => exact absurd HA.out (by simp [laws_FnExactAtomsIn.j2])
            | succ kj46 =>
             have H := HA.out
             clear HA
             simp only [laws_FnExactAtomsIn.j2] at H
             by_cases c59 : x87_46 = true
             ·subst c59
              rw [if_pos rfl] at H
              obtain rfl := Option.some.inj H
              go_wp2
              go_ret
              exact ⟨Sh.eR, Sh.bw⟩
             ·replace c59 := Bool.eq_false_iff.mpr c59
              subst c59
              rw [Sh.nf] at H
              obtain ⟨t356, A60, H⟩ := Sh.ba H
              by_cases c61 : t356 < 0
              ·rw [if_pos c61] at H
               have c61b0 := decide_eq_true c61
               clear c61
               obtain rfl := Option.some.inj H
               go_wp2_with (first | ((with_reducible refine Sh.k 18 ?_); refine Sh.gD (some 90) Try.func18 #[.slice Ao48 t346.length co48, .int .i64 1] (laws_heldIntS.calls kj46 _ _ t346 1 t356 _ (Sh.cR (Kd.R_reads' HO_7.out).2.2) (Kd.R_reads' HO_7.out).2.1 A60.out) fun nd => ?_))
               go_ret
               exact ⟨Sh.eR, Sh.bw⟩
              ·rw [if_neg c61] at H
               have c61b0 := decide_eq_false c61
               clear c61
               by_cases c62 : t356 = t345
               ·rw [if_pos c62] at H
                have c62b0 : (t356 == t345) = true := beq_iff_eq.mpr c62
                have c62b1 : (t356 != t345) = false := bne_eq_false_iff_eq.mpr c62
                clear c62
                obtain rfl := Option.some.inj H
                go_wp2_with (first | ((with_reducible refine Sh.k 18 ?_); refine Sh.gD (some 90) Try.func18 #[.slice Ao48 t346.length co48, .int .i64 1] (laws_heldIntS.calls kj46 _ _ t346 1 t356 _ (Sh.cR (Kd.R_reads' HO_7.out).2.2) (Kd.R_reads' HO_7.out).2.1 A60.out) fun nd => ?_))
                go_ret
                exact ⟨Sh.eR, Sh.bw⟩
               ·rw [if_neg c62] at H
                have c62b0 : (t356 == t345) = false := beq_eq_false_iff_ne.mpr c62
                have c62b1 : (t356 != t345) = true := bne_iff_ne.mpr c62
                obtain rfl := Option.some.inj H
                go_wp2_with (first | ((with_reducible refine Sh.k 18 ?_); refine Sh.gD (some 90) Try.func18 #[.slice Ao48 t346.length co48, .int .i64 1] (laws_heldIntS.calls kj46 _ _ t346 1 t356 _ (Sh.cR (Kd.R_reads' HO_7.out).2.2) (Kd.R_reads' HO_7.out).2.1 A60.out) fun nd => ?_))
                go_ret
                exact ⟨Sh.eR, Sh.bw⟩
          ·rw [if_neg c44] at H
           have c44b0 : (t347 == t345) = false := beq_eq_false_iff_ne.mpr c44
           have c44b1 : (t347 != t345) = true := bne_iff_ne.mpr c44
           obtain rfl := Option.some.inj H
           obtain ⟨Ao63, co63, eo63⟩ := Kd.R_slice HO_7.out
           subst eo63
           go_wp2_with (first | ((with_reducible refine Sh.k 17 ?_); refine Sh.gL (some 64) Try.func17 #[.slice Ao63 t333.length co63, .int .i64 1] (h := ?_); (with_reducible refine (laws_markIntS.calls kj25 (fun k_ => some k_ = (.slice Ao63 t333.length co63 : Value).ownBlock) (.slice Ao63 t333.length co63) t333 1 t345 t346 w _ ?side1 ?side2 A39.out).mono ?_); (case side1 => repeat (first | (with_reducible first | exact HB.out | apply below_alloc | apply pw_below_drewN | apply below_drew1) | exact HB.out)); (case side2 => exact Kd.R_tight rfl HO_7.out); rintro e w64 ⟨rfl, hy0, hb, hkp⟩; refine ⟨_, rfl, ?_⟩; replace HO_4 := am_ (Kd.R_mono (ok' := fun k_ => some k_ ≠ (.slice Ao63 t333.length co63 : Value).ownBlock) (Kd.R_keptB (HO_4.out) hkp (fun k_ hk_ hs_ => (hk_) hs_)) (fun k_ hk_ => hk_.1)); replace HO_7 := am_ (Kd.R_reok rfl hy0 (fun k_ e_ => HO_7.out.1 k_ e_)); replace HB := am_ hb; (try clear hb); (try clear hkp); (try clear hy0)) | ((with_reducible refine Sh.k 18 ?_); refine goesL_ (some 67) rfl rfl Try.func18 (by kernel_rfl) rfl #[.slice Ao63 t346.length co63, .int .i64 1] rfl (by (try simp only [List.map_toArray, List.map_cons, List.map_nil]); first | done | (rw [show t346.length = t333.length from (Kd.R_reads' HO_7.out).1.symm] <;> rfl) | rfl | (simp only [List.length_drop, List.length_take]; rfl)) ?_; (with_reducible refine (laws_heldIntS.calls kj25 _ _ t346 1 t347 _ (Sh.cR (Kd.R_reads' HO_7.out).2.2) ?side2 A40.out).mono ?_); (case side2 => rw [show t346.length = t333.length from (Kd.R_reads' HO_7.out).1.symm]; exact (Kd.R_reads' HO_7.out).2.1); rintro e w' ⟨rfl, ⟨nd, rfl⟩⟩; refine ⟨_, rfl, ?_⟩))
           go_ret
           exact ⟨Sh.eR, Sh.bw⟩
     ·replace c24 := Bool.eq_false_iff.mpr c24
      subst c24
      rw [Sh.nf] at H
      obtain rfl := Option.some.inj H
      go_wp2_with (first | ((with_reducible refine Sh.k 12 ?_); refine Sh.gL (some 43) Try.func12 #[.slice A0 l0.length c0] (h := ?_); (with_reducible refine (laws_toSaidS.calls kj7 _ _ l0 t338 _ (Sh.cB HR0.out) HC0.out A22.out).mono ?_); rintro e w65 ⟨v339, rfl, ho0, hb⟩; refine ⟨_, rfl, ?_⟩; replace HO_4 := am_ (Kd.R_below (Sh.rl HO_4.out) hb); replace HO_7 := am_ (Kd.R_below (Sh.rl HO_7.out) hb); have HO340 := am_ (Kd.R_lower (Kd.R_new' ho0 (Kd.R_lt (Sh.rl HO_6.out))) (below_size Sh.bw)); replace HO_6 := am_ (Kd.R_elder' (Sh.rl HO_6.out) (Kd.R_base ho0) hb); replace HB := Sh.hb hb; (try clear hb); (try clear hb2); (try clear hk); (try clear hi); (try clear ho0); obtain ⟨Ao66, co66, eo66⟩ := Kd.R_slice HO340.out; subst eo66) | ((with_reducible refine Sh.k 15 ?_); refine Sh.gB (some 44) Try.func15 #[.slice Ao13 t330.length co13, .slice Ao66 t338.length co66] (laws_eqSaidS.calls kj7 _ _ t330 _ _ t338 false _ (Sh.cR (Kd.R_reads' HO_6.out).2.2) (Kd.R_reads' HO_6.out).2.1 (Sh.cR (Kd.R_reads' HO340.out).2.2) (Kd.R_reads' HO340.out).2.1 A23.out) fun w67 hb => ?_; replace HO_4 := am_ (Kd.R_below (Sh.rl HO_4.out) hb); replace HO_6 := am_ (Kd.R_below (Sh.rl HO_6.out) hb); replace HO_7 := am_ (Kd.R_below (Sh.rl HO_7.out) hb); replace HO340 := am_ (Kd.R_below (Sh.rl HO340.out) hb); replace HB := Sh.hb hb; (try clear hb); (try clear hb2); (try clear hk); (try clear hi)))
      go_ret
      exact ⟨Sh.eR, Sh.bw⟩

end Go.Proofs.Ytaacldndbjmekaa.P
