/- Go functions of this seat as Lean functions, and the proofs that the calls come to what these say; printed by a program of this session. No condition. -/
import Derived.Test.YtfjbdmeokbfhaaaP0
import Derived.Test.YtfjbdmeokbfhaaaMFnBitsBack1
set_option linter.unusedVariables false
set_option linter.unusedSimpArgs false
set_option maxHeartbeats 40000000
set_option maxRecDepth 100000
namespace Go.Proofs.Ytfjbdmeokbfhaaa.P
open Go.RowKit Go.Proofs.YtfjbdmeokbfhaaaW.PrintWords Go.Proofs.YtfjbdmeokbfhaaaW.PrintLast Go.Proofs.YtfjbdmeokbfhaaaW.PrintMore Go.Proofs.Ytfjbdmeokbfhaaa.Hof
attribute [local go_sem] max2_int min2_int max_two min_two max_three min_three max_four min_four
mutual
def laws_FnBitsBack.j0 : Nat → List Int → Int → List Int → List Bool → Bool → Bool → Option (Bool)
 | 0, _, _, _, _, _, _ => none
 | k + 1, x1, x5, x6, x7, x8, x49 => if x49 = true then (some false) else (if x8 = true then ((impl_StateFrom.f k x5 x7).bind fun bt243 => (if bt243.2 = true then ((laws_sameWords.f k bt243.1 x6).bind fun t247 => (if t247 = true then (if (x7.length : Int) = (wrap64 (x5 * (x6.length : Int))) then (laws_FnBitsBack.j1 k x1) else (some false)) else (some false))) else (some false))) else (laws_FnBitsBack.j1 k x1))
def laws_FnBitsBack.j1 : Nat → List Int → Option (Bool)
 | 0, _ => none
 | k + 1, x1 => (spec_DrawStateFrom.f k x1).bind fun bt248 => ((impl_StateFrom.f k bt248.1 bt248.2).bind fun bt252 => ((spec_StateFrom.f k bt248.1 bt248.2).bind fun bt256 => (if (bt252.2 != bt256.2) = true then (laws_FnBitsBack.j2 k bt248.1 bt248.2 bt252.1 bt252.2 true) else ((laws_sameWords.f k bt252.1 bt256.1).bind fun t260 => (laws_FnBitsBack.j2 k bt248.1 bt248.2 bt252.1 bt252.2 (!t260))))))
def laws_FnBitsBack.j2 : Nat → Int → List Bool → List Int → Bool → Bool → Option (Bool)
 | 0, _, _, _, _, _ => none
 | k + 1, x13, x14, x15, x16, x99 => if x99 = true then (some false) else (if x16 = true then ((impl_BitsOf.f k x13 x15).bind fun bt261 => (if bt261.2 = true then ((laws_sameBools.f k bt261.1 x14).bind fun t265 => (some t265)) else (some false))) else (some true))
end
def laws_FnBitsBack.f (k : Nat) (l0 : List Int) (l1 : List Int) : Option (Bool) := (laws_big.f l0 l1).bind fun t229 => (if t229 = true then (some true) else ((spec_DrawBitsOf.f k l0).bind fun bt230 => ((impl_BitsOf.f k bt230.1 bt230.2).bind fun bt234 => ((spec_BitsOf.f k bt230.1 bt230.2).bind fun bt238 => (if (bt234.2 != bt238.2) = true then (laws_FnBitsBack.j0 k l1 bt230.1 bt230.2 bt234.1 bt234.2 true) else ((laws_sameBools.f k bt234.1 bt238.1).bind fun t242 => (laws_FnBitsBack.j0 k l1 bt230.1 bt230.2 bt234.1 bt234.2 (!t242))))))))
theorem laws_FnBitsBack.mono_l : ∀ k, (∀ y0 y1 y2 y3 y4 y5, LeO (laws_FnBitsBack.j0 k y0 y1 y2 y3 y4 y5) (laws_FnBitsBack.j0 (k + 1) y0 y1 y2 y3 y4 y5)) ∧ (∀ y0, LeO (laws_FnBitsBack.j1 k y0) (laws_FnBitsBack.j1 (k + 1) y0)) ∧ (∀ y0 y1 y2 y3 y4, LeO (laws_FnBitsBack.j2 k y0 y1 y2 y3 y4) (laws_FnBitsBack.j2 (k + 1) y0 y1 y2 y3 y4))
 | 0 => ⟨fun _ _ _ _ _ _ r h => by simp [laws_FnBitsBack.j0] at h, fun _ r h => by simp [laws_FnBitsBack.j1] at h, fun _ _ _ _ _ r h => by simp [laws_FnBitsBack.j2] at h⟩
 | k + 1 => by
  obtain ⟨ih0, ih1, ih2⟩ := laws_FnBitsBack.mono_l k
  and_intros <;> intros
  all_goals (first | unfold laws_FnBitsBack.j0 | unfold laws_FnBitsBack.j1 | unfold laws_FnBitsBack.j2)
  all_goals repeat' with_reducible first | apply ih0 | apply ih1 | apply ih2 | apply impl_BitsOf.mono | apply impl_StateFrom.mono | apply laws_sameBools.mono | apply laws_sameWords.mono | apply spec_BitsOf.mono | apply spec_DrawBitsOf.mono | apply spec_DrawStateFrom.mono | apply spec_StateFrom.mono | exact LeO.refl _ | exact LeO.none _ | apply LeO.ite | refine LeO.bind ?_ fun _ => ?_
theorem laws_FnBitsBack.mono : ∀ a0 a1 k, LeO (laws_FnBitsBack.f k a0 a1) (laws_FnBitsBack.f (k + 1) a0 a1) := by
 intro a0 a1 k
 obtain ⟨ih0, ih1, ih2⟩ := laws_FnBitsBack.mono_l k
 unfold laws_FnBitsBack.f
 repeat' with_reducible first | apply ih0 | apply ih1 | apply ih2 | apply impl_BitsOf.mono | apply impl_StateFrom.mono | apply laws_sameBools.mono | apply laws_sameWords.mono | apply spec_BitsOf.mono | apply spec_DrawBitsOf.mono | apply spec_DrawStateFrom.mono | apply spec_StateFrom.mono | exact LeO.refl _ | exact LeO.none _ | apply LeO.ite | refine LeO.bind ?_ fun _ => ?_
theorem laws_FnBitsBack.calls (k : Nat) (A0 : Option Addr) (c0 : Nat) (l0 : List Int) (A1 : Option Addr) (c1 : Nat) (l1 : List Int) (r : Bool) (w : World) (hr0 : Kd.C (Kd.int .u8) w A0 l0.length l0) (hc0 : l0.length ≤ c0) (hr1 : Kd.C (Kd.int .u8) w A1 l1.length l1) (hc1 : l1.length ≤ c1) (h : laws_FnBitsBack.f k l0 l1 = some r) :
  Calls Try.prog 3 #[.slice A0 l0.length c0, .slice A1 l1.length c1] w fun e w' => e = .returned (.bool r) ∧ Below w.heap.size w w' := by
 have HR0 := am_ hr0
 have HC0 := am_ hc0
 clear hr0 hc0
 have HR1 := am_ hr1
 have HC1 := am_ hc1
 clear hr1 hc1
 have HB := am_ (Below.refl w.heap.size w)
 have H := h
 clear h
 unfold laws_FnBitsBack.f at H
 obtain ⟨t229, A3, H⟩ := Sh.ba H
 by_cases c4 : t229 = true
 ·subst c4
  rw [if_pos rfl] at H
  obtain rfl := Option.some.inj H
  go_enter Try.func3, Try.ntmps3
  go_wp2_with (first | ((with_reducible refine Sh.k 4 ?_); refine Sh.gL (some 23) Try.func4 #[.slice A0 l0.length c0, .slice A1 l1.length c1] (h := ?_); (with_reducible refine (laws_big.calls _ _ l0 _ _ l1 true _ ?side1 ?side2 ?side3 ?side4 A3.out).mono ?_); (case side1 => repeat (first | exact HR0.out | (with_reducible first | refine Kd.C_alloc ?_ _ | refine Kd.C_drewN ?_ _ | refine Kd.C_drew ?_))); (case side2 => exact HC0.out); (case side3 => repeat (first | exact HR1.out | (with_reducible first | refine Kd.C_alloc ?_ _ | refine Kd.C_drewN ?_ _ | refine Kd.C_drew ?_))); (case side4 => exact HC1.out); rintro e w' ⟨rfl, ⟨nd, rfl⟩⟩; refine ⟨_, rfl, ?_⟩))
  go_ret
  exact ⟨Sh.eR, Sh.bw⟩
 ·replace c4 := Bool.eq_false_iff.mpr c4
  subst c4
  rw [Sh.nf] at H
  obtain ⟨⟨t230, t231⟩, A50, H⟩ := Sh.bd H
  have A5 := am_ A50
  clear A50
  obtain ⟨⟨t234, t235⟩, A60, H⟩ := Sh.bd H
  have A6 := am_ A60
  clear A60
  obtain ⟨⟨t238, t239⟩, A70, H⟩ := Sh.bd H
  have A7 := am_ A70
  clear A70
  have HC8 := am_ H
  clear H
  go_enter Try.func3, Try.ntmps3
  go_upto_region 6 with (first | ((with_reducible refine Sh.k 4 ?_); refine Sh.gL (some 23) Try.func4 #[.slice A0 l0.length c0, .slice A1 l1.length c1] (h := ?_); (with_reducible refine (laws_big.calls _ _ l0 _ _ l1 false _ ?side1 ?side2 ?side3 ?side4 A3.out).mono ?_); (case side1 => repeat (first | exact HR0.out | (with_reducible first | refine Kd.C_alloc ?_ _ | refine Kd.C_drewN ?_ _ | refine Kd.C_drew ?_))); (case side2 => exact HC0.out); (case side3 => repeat (first | exact HR1.out | (with_reducible first | refine Kd.C_alloc ?_ _ | refine Kd.C_drewN ?_ _ | refine Kd.C_drew ?_))); (case side4 => exact HC1.out); rintro e w' ⟨rfl, ⟨nd, rfl⟩⟩; refine ⟨_, rfl, ?_⟩) | ((with_reducible refine Sh.k 5 ?_); refine Sh.gL (some 26) Try.func5 #[.slice A0 l0.length c0] (h := ?_); (with_reducible refine (spec_DrawBitsOf.calls k _ _ l0 t230 t231 _ ?side1 ?side2 A5.out).mono ?_); (case side1 => repeat (first | exact HR0.out | (with_reducible first | refine Kd.C_alloc ?_ _ | refine Kd.C_drewN ?_ _ | refine Kd.C_drew ?_))); (case side2 => exact HC0.out); rintro e w9 ⟨v232, rfl, ho0, hb⟩; refine ⟨_, rfl, ?_⟩; have HO233 := am_ (Kd.R_lower ho0 (below_size Sh.bw)); replace HB := Sh.hb hb; (try clear hb); (try clear hb2); (try clear hk); (try clear hi); (try clear ho0); obtain ⟨Ao10, co10, eo10⟩ := Kd.R_slice HO233.out; subst eo10) | ((with_reducible refine Sh.k 6 ?_); refine Sh.gL (some 32) Try.func6 #[.int .i64 t230, .slice Ao10 t231.length co10] (h := ?_); (with_reducible refine (impl_BitsOf.calls k t230 _ _ t231 t234 t235 _ (Sh.cR (Kd.R_reads' HO233.out).2.2) (Kd.R_reads' HO233.out).2.1 A6.out).mono ?_); rintro e w11 ⟨v236, rfl, ho0, hb⟩; refine ⟨_, rfl, ?_⟩; replace HO233 := am_ (Kd.R_below (Sh.rl HO233.out) hb); have HO237 := am_ (Kd.R_lower ho0 (below_size Sh.bw)); replace HB := Sh.hb hb; (try clear hb); (try clear hb2); (try clear hk); (try clear hi); (try clear ho0)) | ((with_reducible refine Sh.k 7 ?_); refine Sh.gL (some 38) Try.func7 #[.int .i64 t230, .slice Ao10 t231.length co10] (h := ?_); (with_reducible refine (spec_BitsOf.calls k t230 _ _ t231 t238 t239 _ (Sh.cR (Kd.R_reads' HO233.out).2.2) (Kd.R_reads' HO233.out).2.1 A7.out).mono ?_); rintro e w12 ⟨v240, rfl, ho0, hb⟩; refine ⟨_, rfl, ?_⟩; replace HO233 := am_ (Kd.R_below (Sh.rl HO233.out) hb); have HO241 := am_ (Kd.R_lower (Kd.R_new' ho0 (Kd.R_lt (Sh.rl HO237.out))) (below_size Sh.bw)); replace HO237 := am_ (Kd.R_elder' (Sh.rl HO237.out) (Kd.R_base ho0) hb); replace HB := Sh.hb hb; (try clear hb); (try clear hb2); (try clear hk); (try clear hi); (try clear ho0)))
  (try simp only [Act.put, List.setIfInBounds_toArray, List.set_cons_zero, List.set_cons_succ])
  go_cut [49] (fun v49 wc => ∃ (kq : Nat) (x49_7 : Bool), v49 = .bool x49_7 ∧ Aside0 (laws_FnBitsBack.j0 kq l1 t230 t231 t234 t235 x49_7 = some r) ∧ Aside0 (kq ≤ k) ∧ Aside0 (Kd.R (Kd.int .u64) 37 wc w.heap.size (fun _ => True) (.slice Ao10 t231.length co10) t231) ∧ Aside0 (Kd.R Kd.bool 4 wc w.heap.size (fun _ => True) v236 t234) ∧ Aside0 (Below w.heap.size w wc))
  case first =>
   have H := HC8.out
   clear HC8
   by_cases c13 : (t235 != t239) = true
   ·rw [if_pos c13] at H
    have c13b0 : (t235 != t239) = true := c13
    (try (have c13b1 : decide (t235 = t239) = false := by simpa using c13))
    (try (have c13b2 : (t235 == t239) = false := by simpa using c13))
    (try (have c13b3 : ¬ (t235 = t239) := by simpa using c13))
    clear c13
    first | rw [c13b0] | (simp only [i64_w, i32_w]; rw [c13b0]) | skip
    have H' := am_ H
    clear H
    go_wp2
    go_meet
    case rel => exact ⟨_, (true), (Sh.es), H', ⟨Sh.om⟩, ⟨Sh.rl HO233.out⟩, ⟨Sh.rl (Kd.R_mono HO237.out (fun _ hk => trivial))⟩, ⟨Sh.bw⟩⟩
   ·rw [if_neg c13] at H
    have c13b0 : (t235 != t239) = false := by simpa using c13
    (try (have c13b1 : decide (t235 = t239) = true := by simpa using c13))
    (try (have c13b2 : (t235 == t239) = true := by simpa using c13))
    clear c13
    first | rw [c13b0] | (simp only [i64_w, i32_w]; rw [c13b0]) | skip
    obtain ⟨t242, A14, H⟩ := Sh.ba H
    have H' := am_ H
    clear H
    obtain ⟨Ao15, co15, eo15⟩ := Kd.R_slice HO237.out
    subst eo15
    obtain ⟨Ao16, co16, eo16⟩ := Kd.R_slice HO241.out
    subst eo16
    go_wp2_with (first | (go_at_call 8; (with_reducible refine (laws_sameBools.calls k _ _ t234 _ _ t238 t242 _ (Sh.cR (Kd.R_reads' HO237.out).2.2) (Kd.R_reads' HO237.out).2.1 (Sh.cR (Kd.R_reads' HO241.out).2.2) (Kd.R_reads' HO241.out).2.1 A14.out).mono ?_); rintro e w' ⟨rfl, ⟨nd, rfl⟩⟩))
    go_meet
    case rel => exact ⟨_, (!t242), (Sh.es), H', ⟨Sh.om⟩, ⟨Sh.rl HO233.out⟩, ⟨Sh.rl (Kd.R_mono HO237.out (fun _ hk => trivial))⟩, ⟨Sh.bw⟩⟩
  case rest =>
   clear HC8
   obtain ⟨kq, x49_7, rfl, HA, HJ7, HO_6, HO_7, HB⟩ := hcut
   cases kq with
   | zero => exact absurd HA.out (by simp [laws_FnBitsBack.j0])
   | succ kj7 =>
    have H := HA.out
    clear HA
    simp only [laws_FnBitsBack.j0] at H
    by_cases c17 : x49_7 = true
    ·subst c17
     rw [if_pos rfl] at H
     obtain rfl := Option.some.inj H
     go_wp2
     go_ret
     exact ⟨Sh.eR, Sh.bw⟩
    ·replace c17 := Bool.eq_false_iff.mpr c17
     subst c17
     rw [Sh.nf] at H
     have HC18 := am_ H
     clear H
     go_upto_if 50 with (fail)
     go_cut [] (fun wc => ∃ (kq : Nat), Aside0 (laws_FnBitsBack.j1 kq l1 = some r) ∧ Aside0 (kq ≤ kj7) ∧ Aside0 (Below w.heap.size w wc))
     case first =>
      have H := HC18.out
      clear HC18
      by_cases c19 : t235 = true
      ·subst c19
       rw [if_pos rfl] at H
       obtain ⟨⟨t243, t244⟩, A200, H⟩ := Sh.bd H
       have A20 := am_ A200
       clear A200
       by_cases c21 : t244 = true
       ·subst c21
        rw [if_pos rfl] at H
        obtain ⟨t247, A22, H⟩ := Sh.ba H
        by_cases c23 : t247 = true
        ·subst c23
         rw [if_pos rfl] at H
         by_cases c24 : (t234.length : Int) = (wrap64 (t230 * (t231.length : Int)))
         ·rw [if_pos c24] at H
          have c24b0 : ((t234.length : Int) == (wrap64 (t230 * (t231.length : Int)))) = true := beq_iff_eq.mpr c24
          have c24b1 : ((t234.length : Int) != (wrap64 (t230 * (t231.length : Int)))) = false := bne_eq_false_iff_eq.mpr c24
          clear c24
          first | rw [c24b0] | (simp only [i64_w, i32_w]; rw [c24b0]) | skip
          have H' := am_ H
          clear H
          obtain ⟨Ao25, co25, eo25⟩ := Kd.R_slice HO_7.out
          subst eo25
          go_wp2_with (first | ((with_reducible refine Sh.k 9 ?_); refine Sh.gL (some 54) Try.func9 #[.int .i64 t230, .slice Ao25 t234.length co25] (h := ?_); (with_reducible refine (impl_StateFrom.calls kj7 t230 _ _ t234 t243 true _ (Sh.cR (Kd.R_reads' HO_7.out).2.2) (Kd.R_reads' HO_7.out).2.1 A20.out).mono ?_); rintro e w26 ⟨v245, rfl, ho0, hb⟩; refine ⟨_, rfl, ?_⟩; replace HO_7 := am_ (Kd.R_below (Sh.rl HO_7.out) hb); have HO246 := am_ (Kd.R_lower (Kd.R_new' ho0 (Kd.R_lt (Sh.rl HO_6.out))) (below_size Sh.bw)); replace HO_6 := am_ (Kd.R_elder' (Sh.rl HO_6.out) (Kd.R_base ho0) hb); replace HB := Sh.hb hb; (try clear hb); (try clear hb2); (try clear hk); (try clear hi); (try clear ho0); obtain ⟨Ao27, co27, eo27⟩ := Kd.R_slice HO246.out; subst eo27) | (go_at_call 10; (with_reducible refine (laws_sameWords.calls kj7 _ _ t243 _ _ t231 true _ (Sh.cR (Kd.R_reads' HO246.out).2.2) (Kd.R_reads' HO246.out).2.1 (Sh.cR (Kd.R_reads' HO_6.out).2.2) (Kd.R_reads' HO_6.out).2.1 A22.out).mono ?_); rintro e w' ⟨rfl, ⟨nd, rfl⟩⟩))
          go_meet
          case rel => exact ⟨_, H', ⟨by have := HJ7.out; first | omega | exact Nat.le_refl _⟩, ⟨Sh.bw⟩⟩
         ·rw [if_neg c24] at H
          have c24b0 : ((t234.length : Int) == (wrap64 (t230 * (t231.length : Int)))) = false := beq_eq_false_iff_ne.mpr c24
          have c24b1 : ((t234.length : Int) != (wrap64 (t230 * (t231.length : Int)))) = true := bne_iff_ne.mpr c24
          first | rw [c24b0] | (simp only [i64_w, i32_w]; rw [c24b0]) | skip
          obtain rfl := Option.some.inj H
          obtain ⟨Ao28, co28, eo28⟩ := Kd.R_slice HO_7.out
          subst eo28
          go_wp2_with (first | ((with_reducible refine Sh.k 9 ?_); refine Sh.gL (some 54) Try.func9 #[.int .i64 t230, .slice Ao28 t234.length co28] (h := ?_); (with_reducible refine (impl_StateFrom.calls kj7 t230 _ _ t234 t243 true _ (Sh.cR (Kd.R_reads' HO_7.out).2.2) (Kd.R_reads' HO_7.out).2.1 A20.out).mono ?_); rintro e w29 ⟨v245, rfl, ho0, hb⟩; refine ⟨_, rfl, ?_⟩; replace HO_7 := am_ (Kd.R_below (Sh.rl HO_7.out) hb); have HO246 := am_ (Kd.R_lower (Kd.R_new' ho0 (Kd.R_lt (Sh.rl HO_6.out))) (below_size Sh.bw)); replace HO_6 := am_ (Kd.R_elder' (Sh.rl HO_6.out) (Kd.R_base ho0) hb); replace HB := Sh.hb hb; (try clear hb); (try clear hb2); (try clear hk); (try clear hi); (try clear ho0); obtain ⟨Ao30, co30, eo30⟩ := Kd.R_slice HO246.out; subst eo30) | (go_at_call 10; (with_reducible refine (laws_sameWords.calls kj7 _ _ t243 _ _ t231 true _ (Sh.cR (Kd.R_reads' HO246.out).2.2) (Kd.R_reads' HO246.out).2.1 (Sh.cR (Kd.R_reads' HO_6.out).2.2) (Kd.R_reads' HO_6.out).2.1 A22.out).mono ?_); rintro e w' ⟨rfl, ⟨nd, rfl⟩⟩))
          go_ret
          exact ⟨Sh.eR, Sh.bw⟩
        ·replace c23 := Bool.eq_false_iff.mpr c23
         subst c23
         rw [Sh.nf] at H
         obtain rfl := Option.some.inj H
         obtain ⟨Ao31, co31, eo31⟩ := Kd.R_slice HO_7.out
         subst eo31
         go_wp2_with (first | ((with_reducible refine Sh.k 9 ?_); refine Sh.gL (some 54) Try.func9 #[.int .i64 t230, .slice Ao31 t234.length co31] (h := ?_); (with_reducible refine (impl_StateFrom.calls kj7 t230 _ _ t234 t243 true _ (Sh.cR (Kd.R_reads' HO_7.out).2.2) (Kd.R_reads' HO_7.out).2.1 A20.out).mono ?_); rintro e w32 ⟨v245, rfl, ho0, hb⟩; refine ⟨_, rfl, ?_⟩; replace HO_7 := am_ (Kd.R_below (Sh.rl HO_7.out) hb); have HO246 := am_ (Kd.R_lower (Kd.R_new' ho0 (Kd.R_lt (Sh.rl HO_6.out))) (below_size Sh.bw)); replace HO_6 := am_ (Kd.R_elder' (Sh.rl HO_6.out) (Kd.R_base ho0) hb); replace HB := Sh.hb hb; (try clear hb); (try clear hb2); (try clear hk); (try clear hi); (try clear ho0); obtain ⟨Ao33, co33, eo33⟩ := Kd.R_slice HO246.out; subst eo33) | (go_at_call 10; (with_reducible refine (laws_sameWords.calls kj7 _ _ t243 _ _ t231 false _ (Sh.cR (Kd.R_reads' HO246.out).2.2) (Kd.R_reads' HO246.out).2.1 (Sh.cR (Kd.R_reads' HO_6.out).2.2) (Kd.R_reads' HO_6.out).2.1 A22.out).mono ?_); rintro e w' ⟨rfl, ⟨nd, rfl⟩⟩))
         go_ret
         exact ⟨Sh.eR, Sh.bw⟩
       ·replace c21 := Bool.eq_false_iff.mpr c21
        subst c21
        rw [Sh.nf] at H
        obtain rfl := Option.some.inj H
        obtain ⟨Ao34, co34, eo34⟩ := Kd.R_slice HO_7.out
        subst eo34
        go_wp2_with (first | ((with_reducible refine Sh.k 9 ?_); refine Sh.gL (some 54) Try.func9 #[.int .i64 t230, .slice Ao34 t234.length co34] (h := ?_); (with_reducible refine (impl_StateFrom.calls kj7 t230 _ _ t234 t243 false _ (Sh.cR (Kd.R_reads' HO_7.out).2.2) (Kd.R_reads' HO_7.out).2.1 A20.out).mono ?_); rintro e w35 ⟨v245, rfl, ho0, hb⟩; refine ⟨_, rfl, ?_⟩; replace HO_7 := am_ (Kd.R_below (Sh.rl HO_7.out) hb); have HO246 := am_ (Kd.R_lower (Kd.R_new' ho0 (Kd.R_lt (Sh.rl HO_6.out))) (below_size Sh.bw)); replace HO_6 := am_ (Kd.R_elder' (Sh.rl HO_6.out) (Kd.R_base ho0) hb); replace HB := Sh.hb hb; (try clear hb); (try clear hb2); (try clear hk); (try clear hi); (try clear ho0)))
        go_ret
        exact ⟨Sh.eR, Sh.bw⟩
      ·replace c19 := Bool.eq_false_iff.mpr c19
       subst c19
       rw [Sh.nf] at H
       have H' := am_ H
       clear H
       go_wp2
       go_meet
       case rel => exact ⟨_, H', ⟨by have := HJ7.out; first | omega | exact Nat.le_refl _⟩, ⟨Sh.bw⟩⟩
     case rest =>
      clear HC18
      obtain ⟨kq, HA, HJ17, HB⟩ := hcut
      cases kq with
      | zero => exact absurd HA.out (by simp [laws_FnBitsBack.j1])
      | succ kj17 =>
       have H := HA.out
       clear HA
       simp only [laws_FnBitsBack.j1] at H
       obtain ⟨⟨t248, t249⟩, A360, H⟩ := Sh.bd H
       have A36 := am_ A360
       clear A360
       obtain ⟨⟨t252, t253⟩, A370, H⟩ := Sh.bd H
       have A37 := am_ A370
       clear A370
       obtain ⟨⟨t256, t257⟩, A380, H⟩ := Sh.bd H
       have A38 := am_ A380
       clear A380
       have HC39 := am_ H
       clear H
       go_upto_region 15 with (first | ((with_reducible refine Sh.k 11 ?_); refine Sh.gL (some 76) Try.func11 #[.slice A1 l1.length c1] (h := ?_); (with_reducible refine (spec_DrawStateFrom.calls kj17 _ _ l1 t248 t249 _ (Sh.cB HR1.out) HC1.out A36.out).mono ?_); rintro e w40 ⟨v250, rfl, ho0, hb⟩; refine ⟨_, rfl, ?_⟩; have HO251 := am_ (Kd.R_lower ho0 (below_size Sh.bw)); replace HB := Sh.hb hb; (try clear hb); (try clear hb2); (try clear hk); (try clear hi); (try clear ho0); obtain ⟨Ao41, co41, eo41⟩ := Kd.R_slice HO251.out; subst eo41) | ((with_reducible refine Sh.k 9 ?_); refine Sh.gL (some 82) Try.func9 #[.int .i64 t248, .slice Ao41 t249.length co41] (h := ?_); (with_reducible refine (impl_StateFrom.calls kj17 t248 _ _ t249 t252 t253 _ (Sh.cR (Kd.R_reads' HO251.out).2.2) (Kd.R_reads' HO251.out).2.1 A37.out).mono ?_); rintro e w42 ⟨v254, rfl, ho0, hb⟩; refine ⟨_, rfl, ?_⟩; replace HO251 := am_ (Kd.R_below (Sh.rl HO251.out) hb); have HO255 := am_ (Kd.R_lower ho0 (below_size Sh.bw)); replace HB := Sh.hb hb; (try clear hb); (try clear hb2); (try clear hk); (try clear hi); (try clear ho0)) | ((with_reducible refine Sh.k 12 ?_); refine Sh.gL (some 88) Try.func12 #[.int .i64 t248, .slice Ao41 t249.length co41] (h := ?_); (with_reducible refine (spec_StateFrom.calls kj17 t248 _ _ t249 t256 t257 _ (Sh.cR (Kd.R_reads' HO251.out).2.2) (Kd.R_reads' HO251.out).2.1 A38.out).mono ?_); rintro e w43 ⟨v258, rfl, ho0, hb⟩; refine ⟨_, rfl, ?_⟩; replace HO251 := am_ (Kd.R_below (Sh.rl HO251.out) hb); have HO259 := am_ (Kd.R_lower (Kd.R_new' ho0 (Kd.R_lt (Sh.rl HO255.out))) (below_size Sh.bw)); replace HO255 := am_ (Kd.R_elder' (Sh.rl HO255.out) (Kd.R_base ho0) hb); replace HB := Sh.hb hb; (try clear hb); (try clear hb2); (try clear hk); (try clear hi); (try clear ho0)))
       (try simp only [Act.put, List.setIfInBounds_toArray, List.set_cons_zero, List.set_cons_succ])
       go_cut [99] (fun v99 wc => ∃ (kq : Nat) (x99_38 : Bool), v99 = .bool x99_38 ∧ Aside0 (laws_FnBitsBack.j2 kq t248 t249 t252 t253 x99_38 = some r) ∧ Aside0 (kq ≤ kj17) ∧ Aside0 (Kd.R Kd.bool 4 wc w.heap.size (fun _ => True) (.slice Ao41 t249.length co41) t249) ∧ Aside0 (Kd.R (Kd.int .u64) 37 wc w.heap.size (fun _ => True) v254 t252) ∧ Aside0 (Below w.heap.size w wc))
       case first =>
        have H := HC39.out
        clear HC39
        by_cases c44 : (t253 != t257) = true
        ·rw [if_pos c44] at H
         have c44b0 : (t253 != t257) = true := c44
         (try (have c44b1 : decide (t253 = t257) = false := by simpa using c44))
         (try (have c44b2 : (t253 == t257) = false := by simpa using c44))
         (try (have c44b3 : ¬ (t253 = t257) := by simpa using c44))
         clear c44
         first | rw [c44b0] | (simp only [i64_w, i32_w]; rw [c44b0]) | skip
         have H' := am_ H
         clear H
         go_wp2
         go_meet
         case rel => exact ⟨_, (true), (Sh.es), H', ⟨by have := HJ7.out; have := HJ17.out; first | omega | exact Nat.le_refl _⟩, ⟨Sh.rl HO251.out⟩, ⟨Sh.rl (Kd.R_mono HO255.out (fun _ hk => trivial))⟩, ⟨Sh.bw⟩⟩
        ·rw [if_neg c44] at H
         have c44b0 : (t253 != t257) = false := by simpa using c44
         (try (have c44b1 : decide (t253 = t257) = true := by simpa using c44))
         (try (have c44b2 : (t253 == t257) = true := by simpa using c44))
         clear c44
         first | rw [c44b0] | (simp only [i64_w, i32_w]; rw [c44b0]) | skip
         obtain ⟨t260, A45, H⟩ := Sh.ba H
         have H' := am_ H
         clear H
         obtain ⟨Ao46, co46, eo46⟩ := Kd.R_slice HO255.out
         subst eo46
         obtain ⟨Ao47, co47, eo47⟩ := Kd.R_slice HO259.out
         subst eo47
         go_wp2_with (first | (go_at_call 10; (with_reducible refine (laws_sameWords.calls kj17 _ _ t252 _ _ t256 t260 _ (Sh.cR (Kd.R_reads' HO255.out).2.2) (Kd.R_reads' HO255.out).2.1 (Sh.cR (Kd.R_reads' HO259.out).2.2) (Kd.R_reads' HO259.out).2.1 A45.out).mono ?_); rintro e w' ⟨rfl, ⟨nd, rfl⟩⟩))
         go_meet
         case rel => exact ⟨_, (!t260), (Sh.es), H', ⟨by have := HJ7.out; have := HJ17.out; first | omega | exact Nat.le_refl _⟩, ⟨Sh.rl HO251.out⟩, ⟨Sh.rl (Kd.R_mono HO255.out (fun _ hk => trivial))⟩, ⟨Sh.bw⟩⟩
       case rest =>
        clear HC39
        obtain ⟨kq, x99_38, rfl, HA, HJ38, HO_14, HO_15, HB⟩ := hcut
        cases kq with
        | zero => exact absurd HA.out (by simp [laws_FnBitsBack.j2])
        | succ kj38 =>
         have H := HA.out
         clear HA
         simp only [laws_FnBitsBack.j2] at H
         by_cases c48 : x99_38 = true
         ·subst c48
          rw [if_pos rfl] at H
          obtain rfl := Option.some.inj H
          go_wp2
          go_ret
          exact ⟨Sh.eR, Sh.bw⟩
         ·replace c48 := Bool.eq_false_iff.mpr c48
          subst c48
          rw [Sh.nf] at H
          by_cases c49 : t253 = true
          ·subst c49
           rw [if_pos rfl] at H
           obtain ⟨⟨t261, t262⟩, A500, H⟩ := Sh.bd H
           have A50 := am_ A500
           clear A500
           by_cases c51 : t262 = true
           ·subst c51
            rw [if_pos rfl] at H
            obtain ⟨t265, A52, H⟩ := Sh.ba H
            obtain rfl := Option.some.inj H
            obtain ⟨Ao53, co53, eo53⟩ := Kd.R_slice HO_15.out
            subst eo53
            go_wp2_with (first | ((with_reducible refine Sh.k 6 ?_); refine Sh.gL (some 104) Try.func6 #[.int .i64 t248, .slice Ao53 t252.length co53] (h := ?_); (with_reducible refine (impl_BitsOf.calls kj38 t248 _ _ t252 t261 true _ (Sh.cR (Kd.R_reads' HO_15.out).2.2) (Kd.R_reads' HO_15.out).2.1 A50.out).mono ?_); rintro e w54 ⟨v263, rfl, ho0, hb⟩; refine ⟨_, rfl, ?_⟩; replace HO_15 := am_ (Kd.R_below (Sh.rl HO_15.out) hb); have HO264 := am_ (Kd.R_lower (Kd.R_new' ho0 (Kd.R_lt (Sh.rl HO_14.out))) (below_size Sh.bw)); replace HO_14 := am_ (Kd.R_elder' (Sh.rl HO_14.out) (Kd.R_base ho0) hb); replace HB := Sh.hb hb; (try clear hb); (try clear hb2); (try clear hk); (try clear hi); (try clear ho0); obtain ⟨Ao55, co55, eo55⟩ := Kd.R_slice HO264.out; subst eo55) | (go_at_call 8; (with_reducible refine (laws_sameBools.calls kj38 _ _ t261 _ _ t249 t265 _ (Sh.cR (Kd.R_reads' HO264.out).2.2) (Kd.R_reads' HO264.out).2.1 (Sh.cR (Kd.R_reads' HO_14.out).2.2) (Kd.R_reads' HO_14.out).2.1 A52.out).mono ?_); rintro e w' ⟨rfl, ⟨nd, rfl⟩⟩))
            go_ret
            exact ⟨Sh.eR, Sh.bw⟩
           ·replace c51 := Bool.eq_false_iff.mpr c51
            subst c51
            rw [Sh.nf] at H
            obtain rfl := Option.some.inj H
            obtain ⟨Ao56, co56, eo56⟩ := Kd.R_slice HO_15.out
            subst eo56
            go_wp2_with (first | ((with_reducible refine Sh.k 6 ?_); refine Sh.gL (some 104) Try.func6 #[.int .i64 t248, .slice Ao56 t252.length co56] (h := ?_); (with_reducible refine (impl_BitsOf.calls kj38 t248 _ _ t252 t261 false _ (Sh.cR (Kd.R_reads' HO_15.out).2.2) (Kd.R_reads' HO_15.out).2.1 A50.out).mono ?_); rintro e w57 ⟨v263, rfl, ho0, hb⟩; refine ⟨_, rfl, ?_⟩; replace HO_15 := am_ (Kd.R_below (Sh.rl HO_15.out) hb); have HO264 := am_ (Kd.R_lower (Kd.R_new' ho0 (Kd.R_lt (Sh.rl HO_14.out))) (below_size Sh.bw)); replace HO_14 := am_ (Kd.R_elder' (Sh.rl HO_14.out) (Kd.R_base ho0) hb); replace HB := Sh.hb hb; (try clear hb); (try clear hb2); (try clear hk); (try clear hi); (try clear ho0)))
            go_ret
            exact ⟨Sh.eR, Sh.bw⟩
          ·replace c49 := Bool.eq_false_iff.mpr c49
           subst c49
           rw [Sh.nf] at H
           obtain rfl := Option.some.inj H
           go_wp2
           go_ret
           exact ⟨Sh.eR, Sh.bw⟩
end Go.Proofs.Ytfjbdmeokbfhaaa.P
