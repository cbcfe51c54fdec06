/- Go functions of this seat as Lean functions, and the proofs that the calls come to what these say; printed by a program of this session. No condition. -/
import Derived.Test.YtjenmoopbmklfaaP0
import Derived.Test.YtjenmoopbmklfaaMFnExactApart6
import Derived.Test.YtjenmoopbmklfaaMFnExactApart1
import Derived.Test.YtjenmoopbmklfaaMFnExactApart2
import Derived.Test.YtjenmoopbmklfaaMFnExactApart4
set_option linter.unusedVariables false
set_option linter.unusedSimpArgs false
set_option maxHeartbeats 40000000
set_option maxRecDepth 100000
namespace Go.Proofs.Ytjenmoopbmklfaa.P
open Go.RowKit Go.Proofs.YtjenmoopbmklfaaW.PrintWords Go.Proofs.YtjenmoopbmklfaaW.PrintLast Go.Proofs.YtjenmoopbmklfaaW.PrintMore Go.Proofs.Ytjenmoopbmklfaa.Hof
attribute [local go_sem] max2_int min2_int max_two min_two max_three min_three max_four min_four
def impl_Apart.j0 : Nat → List Int → List Int → List Int → List Int → Bool → Option (Bool × Bool)
 | 0, _, _, _, _, _ => none
 | k + 1, x8, x9, x11, x12, x34 => if x34 = true then (some (false, false)) else ((impl_Apart_1.f k x9 x11).bind fun t552 => (if t552 = true then (some (false, true)) else ((impl_Apart_1.f k x9 x12).bind fun t553 => (if t553 = true then (some (false, true)) else ((impl_Apart_1.f k x12 x8).bind fun t554 => (some (!t554, true)))))))
def impl_Apart.f (k : Nat) (a0_0 : Int) (a0_1 : Int) (l0_2 : List (S73)) (l0_3 : List (S50)) (a1 : Int) (a2 : Int) : Option (Bool × Bool) := (impl_TouchedBy.f k a0_0 a0_1 l0_2 l0_3 a1).bind fun bt538 => ((impl_TouchedBy.f k a0_0 a0_1 l0_2 l0_3 a2).bind fun bt545 => (if bt538.2.2 = true then (impl_Apart.j0 k bt538.1 bt538.2.1 bt545.1 bt545.2.1 (!bt545.2.2)) else (impl_Apart.j0 k bt538.1 bt538.2.1 bt545.1 bt545.2.1 true)))
theorem impl_Apart.mono_l : ∀ k, (∀ y0 y1 y2 y3 y4, LeO (impl_Apart.j0 k y0 y1 y2 y3 y4) (impl_Apart.j0 (k + 1) y0 y1 y2 y3 y4))
 | 0 => fun _ _ _ _ _ r h => by simp [impl_Apart.j0] at h
 | k + 1 => by
  have ih0 := impl_Apart.mono_l k
  ·intro y0 y1 y2 y3 y4
   unfold impl_Apart.j0
   repeat' with_reducible first | apply ih0 | apply impl_Apart_1.mono | apply impl_TouchedBy.mono | exact LeO.refl _ | exact LeO.none _ | apply LeO.ite | refine LeO.bind ?_ fun _ => ?_
theorem impl_Apart.mono : ∀ a0 a1 a2 a3 a4 a5 k, LeO (impl_Apart.f k a0 a1 a2 a3 a4 a5) (impl_Apart.f (k + 1) a0 a1 a2 a3 a4 a5) := by
 intro a0 a1 a2 a3 a4 a5 k
 have ih0 := impl_Apart.mono_l k
 unfold impl_Apart.f
 repeat' with_reducible first | apply ih0 | apply impl_Apart_1.mono | apply impl_TouchedBy.mono | exact LeO.refl _ | exact LeO.none _ | apply LeO.ite | refine LeO.bind ?_ fun _ => ?_
theorem impl_Apart.calls (k : Nat) (a0_0 : Int) (a0_1 : Int) (A0_2 : Option Addr) (c0_2 : Nat) (l0_2 : List (S73)) (A0_3 : Option Addr) (c0_3 : Nat) (l0_3 : List (S50)) (a1 : Int) (a2 : Int) (r1 : Bool) (r2 : Bool) (w : World) (hr0_2 : Kd.C k73 w A0_2 l0_2.length l0_2) (hc0_2 : l0_2.length ≤ c0_2) (hr0_3 : Kd.C k50 w A0_3 l0_3.length l0_3) (hc0_3 : l0_3.length ≤ c0_3) (h : impl_Apart.f k a0_0 a0_1 l0_2 l0_3 a1 a2 = some (r1, r2)) :
  Calls Try.prog 15 #[.agg #[.int .i64 a0_0, .int .i64 a0_1, .slice A0_2 l0_2.length c0_2, .slice A0_3 l0_3.length c0_3], .int .i64 a1, .int .i64 a2] w fun e w' => e = .returned (.tuple #[.bool r1, .bool r2]) ∧ Below w.heap.size w w' := by
 have hu33 := Try.underlying33
 have HR0_2 := am_ hr0_2
 have HC0_2 := am_ hc0_2
 clear hr0_2 hc0_2
 have HR0_3 := am_ hr0_3
 have HC0_3 := am_ hc0_3
 clear hr0_3 hc0_3
 have HB := am_ (Below.refl w.heap.size w)
 have H := h
 clear h
 unfold impl_Apart.f at H
 obtain ⟨⟨t538, t541, t544⟩, A40, H⟩ := Sh.bd H
 have A4 := am_ A40
 clear A40
 obtain ⟨⟨t545, t548, t551⟩, A50, H⟩ := Sh.bd H
 have A5 := am_ A50
 clear A50
 have HC6 := am_ H
 clear H
 go_enter Try.func15, Try.ntmps15
 go_upto_region 3 with (first | ((with_reducible refine Sh.d 3 ?_); refine Sh.bz w (N := 3) (cs := #[.int .i64 a0_0, .int .i64 a0_1, .slice A0_2 l0_2.length c0_2, .slice A0_3 l0_3.length c0_3]) (t := 33) (h := ?_); clear HB; intro gb537 w7 BK537 GE537 HB; obtain ⟨hcz8_0, hcz8_1, hcz8_2, hcz8_3, hfz8_0, hfz8_1, hfz8_2, hfz8_3⟩ := Sh.b4 BK537.out) | ((with_reducible refine Sh.k 8 ?_); refine Sh.gL (some 18) Try.func8 #[.agg #[.int .i64 a0_0, .int .i64 a0_1, .slice A0_2 l0_2.length c0_2, .slice A0_3 l0_3.length c0_3], .int .i64 a1] (h := ?_); (with_reducible refine (impl_TouchedBy.calls k a0_0 a0_1 _ _ l0_2 _ _ l0_3 a1 t538 t541 t544 _ (Sh.cB HR0_2.out) HC0_2.out (Sh.cB HR0_3.out) HC0_3.out A4.out).mono ?_); rintro e w9 ⟨v539, v542, rfl, ho0, ho1, hb⟩; refine ⟨_, rfl, ?_⟩; have HO540 := am_ (Kd.R_lower ho0 (below_size Sh.bw)); have HO543 := am_ (Kd.R_lower ho1 (below_size Sh.bw)); replace BK537 := Sh.ab BK537 hb; replace HB := Sh.hb hb; (try clear hb); (try clear hb2); (try clear hk); (try clear hi); (try clear ho0); (try clear ho1); obtain ⟨hcz10_0, hcz10_1, hcz10_2, hcz10_3, hfz10_0, hfz10_1, hfz10_2, hfz10_3⟩ := Sh.b4 BK537.out) | ((with_reducible refine Sh.k 8 ?_); refine Sh.gL (some 25) Try.func8 #[.agg #[.int .i64 a0_0, .int .i64 a0_1, .slice A0_2 l0_2.length c0_2, .slice A0_3 l0_3.length c0_3], .int .i64 a2] (h := ?_); (with_reducible refine (impl_TouchedBy.calls k a0_0 a0_1 _ _ l0_2 _ _ l0_3 a2 t545 t548 t551 _ (Sh.cB HR0_2.out) HC0_2.out (Sh.cB HR0_3.out) HC0_3.out A5.out).mono ?_); rintro e w11 ⟨v546, v549, rfl, ho0, ho1, hb⟩; refine ⟨_, rfl, ?_⟩; have HO547 := am_ (Kd.R_lower (Kd.R_new' (Kd.R_new' ho0 (Kd.R_lt (Sh.rl HO540.out))) (Kd.R_lt (Sh.rl HO543.out))) (below_size Sh.bw)); have HO550 := am_ (Kd.R_lower (Kd.R_new' (Kd.R_new' ho1 (Kd.R_lt (Sh.rl HO540.out))) (Kd.R_lt (Sh.rl HO543.out))) (below_size Sh.bw)); replace HO540 := am_ (Kd.R_mono (Kd.R_told (Kd.R_told (Kd.R_old (Sh.rl HO540.out) hb) (Kd.R_base ho0)) (Kd.R_base ho1)) (fun _ h_ => h_.1)); replace HO543 := am_ (Kd.R_mono (Kd.R_told (Kd.R_told (Kd.R_old (Sh.rl HO543.out) hb) (Kd.R_base ho0)) (Kd.R_base ho1)) (fun _ h_ => h_.1)); replace BK537 := Sh.ab BK537 hb; replace HB := Sh.hb hb; (try clear hb); (try clear hb2); (try clear hk); (try clear hi); (try clear ho0); (try clear ho1)))
 (try simp only [Act.put, List.setIfInBounds_toArray, List.set_cons_zero, List.set_cons_succ])
 go_cut [34] (fun v34 wc => ∃ (kq : Nat) (x34_5 : Bool), v34 = .bool x34_5 ∧ Aside0 (impl_Apart.j0 kq t538 t541 t545 t548 x34_5 = some (r1, r2)) ∧ Aside0 (kq ≤ k) ∧ Aside0 (Kd.R (Kd.int .i64) 3 wc w.heap.size (fun k_ => some k_ ≠ (v542 : Value).ownBlock ∧ some k_ ≠ (v546 : Value).ownBlock ∧ some k_ ≠ (v549 : Value).ownBlock) v539 t538) ∧ Aside0 (Kd.R (Kd.int .i64) 3 wc w.heap.size (fun k_ => some k_ ≠ (v539 : Value).ownBlock ∧ some k_ ≠ (v546 : Value).ownBlock ∧ some k_ ≠ (v549 : Value).ownBlock) v542 t541) ∧ Aside0 (Kd.R (Kd.int .i64) 3 wc w.heap.size (fun k_ => some k_ ≠ (v539 : Value).ownBlock ∧ some k_ ≠ (v542 : Value).ownBlock ∧ some k_ ≠ (v549 : Value).ownBlock) v546 t545) ∧ Aside0 (Kd.R (Kd.int .i64) 3 wc w.heap.size (fun k_ => some k_ ≠ (v539 : Value).ownBlock ∧ some k_ ≠ (v542 : Value).ownBlock ∧ some k_ ≠ (v546 : Value).ownBlock) v549 t548) ∧ Aside0 (wc.heap[gb537]? = some (.cells #[.int .i64 a0_0, .int .i64 a0_1, (.slice A0_2 l0_2.length c0_2), (.slice A0_3 l0_3.length c0_3)] 33 (0, 0))) ∧ Aside0 (Below w.heap.size w wc))
 case first =>
  have H := HC6.out
  clear HC6
  by_cases c12 : t544 = true
  ·subst c12
   rw [if_pos rfl] at H
   have H' := am_ H
   clear H
   go_wp2
   go_meet
   case rel => exact ⟨_, (!t551), (Sh.es), H', ⟨Sh.om⟩, ⟨Sh.rl (Kd.R_mono HO540.out (fun _ h => ⟨h.1.1, h.1.2, h.2⟩))⟩, ⟨Sh.rl (Kd.R_mono HO543.out (fun _ h => ⟨h.1.1, h.1.2, h.2⟩))⟩, ⟨Sh.rl (Kd.R_mono HO547.out (fun _ h => ⟨h.1.2, h.2, h.1.1⟩))⟩, ⟨Sh.rl (Kd.R_mono HO550.out (fun _ h => ⟨h.1.2, h.2, h.1.1⟩))⟩, ⟨by refine Sh.pl ?_; exact BK537.out⟩, ⟨Sh.bw⟩⟩
  ·replace c12 := Bool.eq_false_iff.mpr c12
   subst c12
   rw [Sh.nf] at H
   have H' := am_ H
   clear H
   go_wp2
   go_meet
   case rel => exact ⟨_, (true), (Sh.es), H', ⟨Sh.om⟩, ⟨Sh.rl (Kd.R_mono HO540.out (fun _ h => ⟨h.1.1, h.1.2, h.2⟩))⟩, ⟨Sh.rl (Kd.R_mono HO543.out (fun _ h => ⟨h.1.1, h.1.2, h.2⟩))⟩, ⟨Sh.rl (Kd.R_mono HO547.out (fun _ h => ⟨h.1.2, h.2, h.1.1⟩))⟩, ⟨Sh.rl (Kd.R_mono HO550.out (fun _ h => ⟨h.1.2, h.2, h.1.1⟩))⟩, ⟨by refine Sh.pl ?_; exact BK537.out⟩, ⟨Sh.bw⟩⟩
 case rest =>
  clear HC6
  try clear hcz10_0
  try clear hcz10_1
  try clear hcz10_2
  try clear hcz10_3
  try clear hcz8_0
  try clear hcz8_1
  try clear hcz8_2
  try clear hcz8_3
  try clear hfz10_0
  try clear hfz10_1
  try clear hfz10_2
  try clear hfz10_3
  try clear hfz8_0
  try clear hfz8_1
  try clear hfz8_2
  try clear hfz8_3
  obtain ⟨kq, x34_5, rfl, HA, HJ5, HO_8, HO_9, HO_11, HO_12, BK537, HB⟩ := hcut
  cases kq with
  | zero => exact absurd HA.out (by simp [impl_Apart.j0])
  | succ kj5 =>
   have H := HA.out
   clear HA
   simp only [impl_Apart.j0] at H
   by_cases c13 : x34_5 = true
   ·subst c13
    rw [if_pos rfl] at H
    simp only [Option.some.injEq, Prod.mk.injEq] at H
    obtain ⟨rfl, rfl⟩ := H
    go_wp2
    go_ret2
    exact ⟨Sh.eR, Sh.bw⟩
   ·replace c13 := Bool.eq_false_iff.mpr c13
    subst c13
    rw [Sh.nf] at H
    obtain ⟨t552, A14, H⟩ := Sh.ba H
    by_cases c15 : t552 = true
    ·subst c15
     rw [if_pos rfl] at H
     simp only [Option.some.injEq, Prod.mk.injEq] at H
     obtain ⟨rfl, rfl⟩ := H
     obtain ⟨Ao16, co16, eo16⟩ := Kd.R_slice HO_9.out
     subst eo16
     obtain ⟨Ao17, co17, eo17⟩ := Kd.R_slice HO_11.out
     subst eo17
     go_wp2_with (first | (go_at_call 34; (with_reducible refine (impl_Apart_1.calls kj5 _ _ t541 _ _ t545 true _ (Sh.cR (Kd.R_reads' HO_9.out).2.2) (Kd.R_reads' HO_9.out).2.1 (Sh.cR (Kd.R_reads' HO_11.out).2.2) (Kd.R_reads' HO_11.out).2.1 A14.out).mono ?_); rintro e w18 ⟨rfl, hb⟩; replace HO_8 := am_ (Kd.R_below (Sh.rl HO_8.out) hb); replace HO_9 := am_ (Kd.R_below (Sh.rl HO_9.out) hb); replace HO_11 := am_ (Kd.R_below (Sh.rl HO_11.out) hb); replace HO_12 := am_ (Kd.R_below (Sh.rl HO_12.out) hb); replace BK537 := Sh.ab BK537 hb; replace HB := Sh.hb hb; (try clear hb); (try clear hb2); (try clear hk); (try clear hi)))
     go_ret2
     exact ⟨Sh.eR, Sh.bw⟩
    ·replace c15 := Bool.eq_false_iff.mpr c15
     subst c15
     rw [Sh.nf] at H
     obtain ⟨t553, A19, H⟩ := Sh.ba H
     by_cases c20 : t553 = true
     ·subst c20
      rw [if_pos rfl] at H
      simp only [Option.some.injEq, Prod.mk.injEq] at H
      obtain ⟨rfl, rfl⟩ := H
      obtain ⟨Ao21, co21, eo21⟩ := Kd.R_slice HO_9.out
      subst eo21
      obtain ⟨Ao22, co22, eo22⟩ := Kd.R_slice HO_11.out
      subst eo22
      go_wp2_with (first | (go_at_call 34; (with_reducible refine (impl_Apart_1.calls kj5 _ _ t541 _ _ t545 false _ (Sh.cR (Kd.R_reads' HO_9.out).2.2) (Kd.R_reads' HO_9.out).2.1 (Sh.cR (Kd.R_reads' HO_11.out).2.2) (Kd.R_reads' HO_11.out).2.1 A14.out).mono ?_); rintro e w23 ⟨rfl, hb⟩; replace HO_8 := am_ (Kd.R_below (Sh.rl HO_8.out) hb); replace HO_9 := am_ (Kd.R_below (Sh.rl HO_9.out) hb); replace HO_11 := am_ (Kd.R_below (Sh.rl HO_11.out) hb); replace HO_12 := am_ (Kd.R_below (Sh.rl HO_12.out) hb); replace BK537 := Sh.ab BK537 hb; replace HB := Sh.hb hb; (try clear hb); (try clear hb2); (try clear hk); (try clear hi); obtain ⟨Ao24, co24, eo24⟩ := Kd.R_slice HO_12.out; subst eo24) | (go_at_call 34; (with_reducible refine (impl_Apart_1.calls kj5 _ _ t541 _ _ t548 true _ (Sh.cR (Kd.R_reads' HO_9.out).2.2) (Kd.R_reads' HO_9.out).2.1 (Sh.cR (Kd.R_reads' HO_12.out).2.2) (Kd.R_reads' HO_12.out).2.1 A19.out).mono ?_); rintro e w25 ⟨rfl, hb⟩; replace HO_8 := am_ (Kd.R_below (Sh.rl HO_8.out) hb); replace HO_9 := am_ (Kd.R_below (Sh.rl HO_9.out) hb); replace HO_11 := am_ (Kd.R_below (Sh.rl HO_11.out) hb); replace HO_12 := am_ (Kd.R_below (Sh.rl HO_12.out) hb); replace BK537 := Sh.ab BK537 hb; replace HB := Sh.hb hb; (try clear hb); (try clear hb2); (try clear hk); (try clear hi)))
      go_ret2
      exact ⟨Sh.eR, Sh.bw⟩
     ·replace c20 := Bool.eq_false_iff.mpr c20
      subst c20
      rw [Sh.nf] at H
      obtain ⟨t554, A26, H⟩ := Sh.ba H
      simp only [Option.some.injEq, Prod.mk.injEq] at H
      obtain ⟨rfl, rfl⟩ := H
      obtain ⟨Ao27, co27, eo27⟩ := Kd.R_slice HO_9.out
      subst eo27
      obtain ⟨Ao28, co28, eo28⟩ := Kd.R_slice HO_11.out
      subst eo28
      go_wp2_with (first | (go_at_call 34; (with_reducible refine (impl_Apart_1.calls kj5 _ _ t541 _ _ t545 false _ (Sh.cR (Kd.R_reads' HO_9.out).2.2) (Kd.R_reads' HO_9.out).2.1 (Sh.cR (Kd.R_reads' HO_11.out).2.2) (Kd.R_reads' HO_11.out).2.1 A14.out).mono ?_); rintro e w29 ⟨rfl, hb⟩; replace HO_8 := am_ (Kd.R_below (Sh.rl HO_8.out) hb); replace HO_9 := am_ (Kd.R_below (Sh.rl HO_9.out) hb); replace HO_11 := am_ (Kd.R_below (Sh.rl HO_11.out) hb); replace HO_12 := am_ (Kd.R_below (Sh.rl HO_12.out) hb); replace BK537 := Sh.ab BK537 hb; replace HB := Sh.hb hb; (try clear hb); (try clear hb2); (try clear hk); (try clear hi); obtain ⟨Ao30, co30, eo30⟩ := Kd.R_slice HO_12.out; subst eo30) | (go_at_call 34; (with_reducible refine (impl_Apart_1.calls kj5 _ _ t541 _ _ t548 false _ (Sh.cR (Kd.R_reads' HO_9.out).2.2) (Kd.R_reads' HO_9.out).2.1 (Sh.cR (Kd.R_reads' HO_12.out).2.2) (Kd.R_reads' HO_12.out).2.1 A19.out).mono ?_); rintro e w31 ⟨rfl, hb⟩; replace HO_8 := am_ (Kd.R_below (Sh.rl HO_8.out) hb); replace HO_9 := am_ (Kd.R_below (Sh.rl HO_9.out) hb); replace HO_11 := am_ (Kd.R_below (Sh.rl HO_11.out) hb); replace HO_12 := am_ (Kd.R_below (Sh.rl HO_12.out) hb); replace BK537 := Sh.ab BK537 hb; replace HB := Sh.hb hb; (try clear hb); (try clear hb2); (try clear hk); (try clear hi); obtain ⟨Ao32, co32, eo32⟩ := Kd.R_slice HO_8.out; subst eo32) | (go_at_call 34; (with_reducible refine (impl_Apart_1.calls kj5 _ _ t548 _ _ t538 t554 _ (Sh.cR (Kd.R_reads' HO_12.out).2.2) (Kd.R_reads' HO_12.out).2.1 (Sh.cR (Kd.R_reads' HO_8.out).2.2) (Kd.R_reads' HO_8.out).2.1 A26.out).mono ?_); rintro e w33 ⟨rfl, hb⟩; replace HO_8 := am_ (Kd.R_below (Sh.rl HO_8.out) hb); replace HO_9 := am_ (Kd.R_below (Sh.rl HO_9.out) hb); replace HO_11 := am_ (Kd.R_below (Sh.rl HO_11.out) hb); replace HO_12 := am_ (Kd.R_below (Sh.rl HO_12.out) hb); replace BK537 := Sh.ab BK537 hb; replace HB := Sh.hb hb; (try clear hb); (try clear hb2); (try clear hk); (try clear hi)))
      go_ret2
      exact ⟨Sh.eR, Sh.bw⟩
open Go.Proofs.Ytjenmoopbmklfaa.Lw
def laws_FnExactApart.Holds (k : Nat) (a0_0 : Int) (a0_1 : Int) (l0_2 : List (S75)) (l0_3 : List (S68)) (a1 : Int) (a2 : Int) : Prop :=
 ∃ s6 : Int, laws_szProgram.f k a0_0 a0_1 l0_2 l0_3 1048576 = some s6 ∧ ((s6 < 0) ∨ (¬ (s6 < 0)) ∧ (∃ (y9 : List (S73)) (y10 : List (S50)) (y24 : Bool) (y25 : Bool), laws_toProgram.f k a0_0 a0_1 l0_2 l0_3 = some (a0_0, a0_1, y9, y10) ∧ spec_Apart.f k a0_0 a0_1 y9 y10 a1 a2 = some (y24, y25) ∧ impl_Apart.f k a0_0 a0_1 y9 y10 a1 a2 = some (y24, y25) ∧ laws_eqProgram.f k a0_0 a0_1 y9 y10 a0_0 a0_1 y9 y10 = some true))
theorem laws_FnExactApart.calls (k : Nat) (a0_0 : Int) (a0_1 : Int) (A0_2 : Option Addr) (c0_2 : Nat) (l0_2 : List (S75)) (A0_3 : Option Addr) (c0_3 : Nat) (l0_3 : List (S68)) (a1 : Int) (a2 : Int) (w : World) (hr0_2 : Kd.C k75 w A0_2 l0_2.length l0_2) (hc0_2 : l0_2.length ≤ c0_2) (hr0_3 : Kd.C k68 w A0_3 l0_3.length l0_3) (hc0_3 : l0_3.length ≤ c0_3) (h : laws_FnExactApart.Holds k a0_0 a0_1 l0_2 l0_3 a1 a2) :
  Calls Try.prog 4 #[.agg #[.int .i64 a0_0, .int .i64 a0_1, .slice A0_2 l0_2.length c0_2, .slice A0_3 l0_3.length c0_3], .int .i64 a1, .int .i64 a2] w fun e w' => e = .returned (.bool true) ∧ Below w.heap.size w w' := by
 have hu25 := Try.underlying25
 have hu33 := Try.underlying33
 have HR0_2 := am_ hr0_2
 have HC0_2 := am_ hc0_2
 clear hr0_2 hc0_2
 have HR0_3 := am_ hr0_3
 have HC0_3 := am_ hc0_3
 clear hr0_3 hc0_3
 have HB := am_ (Below.refl w.heap.size w)
 have NW : 0 ≤ w.heap.size := Nat.zero_le _
 obtain ⟨s6, ESs6, h⟩ := h
 replace ESs6 := am_ ESs6
 rcases h with c | ⟨c, h⟩
 ·have cb : decide (s6 < 0) = true := decide_eq_true c
  clear c
  go_enter Try.func4, Try.ntmps4
  go_wp2_with (first | ((with_reducible refine Sh.d 3 ?_); refine Sh.bx (N := 3) (cs := #[.int .i64 a0_0, .int .i64 a0_1, .slice A0_2 l0_2.length c0_2, .slice A0_3 l0_3.length c0_3]) (t := 25) (h := ?_); intro g1 hg w3 hbox hb; have BK2 := box_new (w := w) (W := w) HB.out hg hbox; have oa4 := new_g (W := w) hg NW; replace HB := am_ (below_step HB.out hb); replace NW := Nat.le_trans NW hb.size; replace NW := BK2.lt; clear hb hbox hg; have hczq5_0 : w3.cell? ⟨g1, 0, none⟩ = some (.int .i64 a0_0) := (blk_cell BK2.b 0).trans rfl; have hfzq5_0 := blk_frozen BK2.b 0; have hczq5_1 : w3.cell? ⟨g1, 1, none⟩ = some (.int .i64 a0_1) := (blk_cell BK2.b 1).trans rfl; have hfzq5_1 := blk_frozen BK2.b 1; have hczq5_2 : w3.cell? ⟨g1, 2, none⟩ = some (.slice A0_2 l0_2.length c0_2) := (blk_cell BK2.b 2).trans rfl; have hfzq5_2 := blk_frozen BK2.b 2; have hczq5_3 : w3.cell? ⟨g1, 3, none⟩ = some (.slice A0_3 l0_3.length c0_3) := (blk_cell BK2.b 3).trans rfl; have hfzq5_3 := blk_frozen BK2.b 3) | ((with_reducible refine Sh.k 5 ?_); refine Sh.gL (some 15) Try.func5 #[.agg #[.int .i64 a0_0, .int .i64 a0_1, .slice A0_2 l0_2.length c0_2, .slice A0_3 l0_3.length c0_3], .int .i64 1048576] (h := ?_); (with_reducible refine (laws_szProgram.calls k a0_0 a0_1 _ _ l0_2 _ _ l0_3 1048576 s6 _ (Kd.C_below HR0_2.out HB.out) HC0_2.out (Kd.C_below HR0_3.out HB.out) HC0_3.out ESs6.out).mono ?_); rintro e w7 ⟨rfl, hb⟩; refine ⟨_, rfl, ?_⟩; replace BK2 := BK2.same hb; replace HB := am_ (below_step HB.out hb); replace NW := Nat.le_trans NW hb.size; clear hb; have hczq8_0 : w7.cell? ⟨g1, 0, none⟩ = some (.int .i64 a0_0) := (blk_cell BK2.b 0).trans rfl; have hfzq8_0 := blk_frozen BK2.b 0; have hczq8_1 : w7.cell? ⟨g1, 1, none⟩ = some (.int .i64 a0_1) := (blk_cell BK2.b 1).trans rfl; have hfzq8_1 := blk_frozen BK2.b 1; have hczq8_2 : w7.cell? ⟨g1, 2, none⟩ = some (.slice A0_2 l0_2.length c0_2) := (blk_cell BK2.b 2).trans rfl; have hfzq8_2 := blk_frozen BK2.b 2; have hczq8_3 : w7.cell? ⟨g1, 3, none⟩ = some (.slice A0_3 l0_3.length c0_3) := (blk_cell BK2.b 3).trans rfl; have hfzq8_3 := blk_frozen BK2.b 3))
  go_ret
  exact ⟨rfl, HB.out⟩
 have cb0 : decide (s6 < 0) = false := decide_eq_false c
 clear c
 obtain ⟨y9, y10, y24, y25, E1, E2, E3, E4⟩ := h
 replace E1 := am_ E1
 replace E2 := am_ E2
 replace E3 := am_ E3
 replace E4 := am_ E4
 have cr0 : (y24 != y24) = false := bne_self_eq_false _
 have cr1 : (y25 != y25) = false := bne_self_eq_false _
 go_enter Try.func4, Try.ntmps4
 go_upto_region 10 with (first | ((with_reducible refine Sh.d 3 ?_); refine Sh.bx (N := 3) (cs := #[.int .i64 a0_0, .int .i64 a0_1, .slice A0_2 l0_2.length c0_2, .slice A0_3 l0_3.length c0_3]) (t := 25) (h := ?_); intro g1 hg w3 hbox hb; have BK2 := box_new (w := w) (W := w) HB.out hg hbox; have oa4 := new_g (W := w) hg NW; replace HB := am_ (below_step HB.out hb); replace NW := Nat.le_trans NW hb.size; replace NW := BK2.lt; clear hb hbox hg; have hczq5_0 : w3.cell? ⟨g1, 0, none⟩ = some (.int .i64 a0_0) := (blk_cell BK2.b 0).trans rfl; have hfzq5_0 := blk_frozen BK2.b 0; have hczq5_1 : w3.cell? ⟨g1, 1, none⟩ = some (.int .i64 a0_1) := (blk_cell BK2.b 1).trans rfl; have hfzq5_1 := blk_frozen BK2.b 1; have hczq5_2 : w3.cell? ⟨g1, 2, none⟩ = some (.slice A0_2 l0_2.length c0_2) := (blk_cell BK2.b 2).trans rfl; have hfzq5_2 := blk_frozen BK2.b 2; have hczq5_3 : w3.cell? ⟨g1, 3, none⟩ = some (.slice A0_3 l0_3.length c0_3) := (blk_cell BK2.b 3).trans rfl; have hfzq5_3 := blk_frozen BK2.b 3) | ((with_reducible refine Sh.k 5 ?_); refine Sh.gL (some 15) Try.func5 #[.agg #[.int .i64 a0_0, .int .i64 a0_1, .slice A0_2 l0_2.length c0_2, .slice A0_3 l0_3.length c0_3], .int .i64 1048576] (h := ?_); (with_reducible refine (laws_szProgram.calls k a0_0 a0_1 _ _ l0_2 _ _ l0_3 1048576 s6 _ (Kd.C_below HR0_2.out HB.out) HC0_2.out (Kd.C_below HR0_3.out HB.out) HC0_3.out ESs6.out).mono ?_); rintro e w7 ⟨rfl, hb⟩; refine ⟨_, rfl, ?_⟩; replace BK2 := BK2.same hb; replace HB := am_ (below_step HB.out hb); replace NW := Nat.le_trans NW hb.size; clear hb; have hczq8_0 : w7.cell? ⟨g1, 0, none⟩ = some (.int .i64 a0_0) := (blk_cell BK2.b 0).trans rfl; have hfzq8_0 := blk_frozen BK2.b 0; have hczq8_1 : w7.cell? ⟨g1, 1, none⟩ = some (.int .i64 a0_1) := (blk_cell BK2.b 1).trans rfl; have hfzq8_1 := blk_frozen BK2.b 1; have hczq8_2 : w7.cell? ⟨g1, 2, none⟩ = some (.slice A0_2 l0_2.length c0_2) := (blk_cell BK2.b 2).trans rfl; have hfzq8_2 := blk_frozen BK2.b 2; have hczq8_3 : w7.cell? ⟨g1, 3, none⟩ = some (.slice A0_3 l0_3.length c0_3) := (blk_cell BK2.b 3).trans rfl; have hfzq8_3 := blk_frozen BK2.b 3) | ((with_reducible refine Sh.k 7 ?_); refine Sh.gL (some 20) Try.func7 #[.agg #[.int .i64 a0_0, .int .i64 a0_1, .slice A0_2 l0_2.length c0_2, .slice A0_3 l0_3.length c0_3]] (h := ?_); (with_reducible refine (laws_toProgram.calls k a0_0 a0_1 _ _ l0_2 _ _ l0_3 a0_0 a0_1 y9 y10 _ (Kd.C_below HR0_2.out HB.out) HC0_2.out (Kd.C_below HR0_3.out HB.out) HC0_3.out E1.out).mono ?_); rintro e w11 ⟨v2_, v3_, rfl, ho0, ho1, hb⟩; refine ⟨_, rfl, ?_⟩; obtain ⟨lo14, hi15, ⟨HO12, HO13⟩, oa16, ob17, NW2⟩ := new1 (F := fun lo_ hi_ => Held k73 73 w11 w.heap.size lo_ hi_ v2_ y9 ∧ Held k50 50 w11 w.heap.size lo_ hi_ v3_ y10) ⟨held_new ho0 hb HB.out, held_new ho1 hb HB.out⟩ hb NW; replace BK2 := BK2.same hb; replace HB := am_ (below_step HB.out hb); replace NW := Nat.le_trans NW hb.size; replace NW := NW2; skip; obtain ⟨A18, c19, e20⟩ := HO12.slice; subst e20; obtain ⟨A21, c22, e23⟩ := HO13.slice; subst e23; clear hb ho0 ho1) | ((with_reducible refine Sh.k 14 ?_); refine Sh.gL (some 23) Try.func14 #[.agg #[.int .i64 a0_0, .int .i64 a0_1, .slice A18 y9.length c19, .slice A21 y10.length c22], .int .i64 a1, .int .i64 a2] (h := ?_); (with_reducible refine (spec_Apart.calls k a0_0 a0_1 _ _ y9 _ _ y10 a1 a2 y24 y25 _ HO12.C HO12.c HO13.C HO13.c E2.out).mono ?_); rintro e w26 ⟨rfl, hb⟩; refine ⟨_, rfl, ?_⟩; replace BK2 := BK2.same hb; replace HO12 := HO12.same hb; replace HO13 := HO13.same hb; replace HB := am_ (below_step HB.out hb); replace NW := Nat.le_trans NW hb.size; clear hb; have hczq27_0 : w26.cell? ⟨g1, 0, none⟩ = some (.int .i64 a0_0) := (blk_cell BK2.b 0).trans rfl; have hfzq27_0 := blk_frozen BK2.b 0; have hczq27_1 : w26.cell? ⟨g1, 1, none⟩ = some (.int .i64 a0_1) := (blk_cell BK2.b 1).trans rfl; have hfzq27_1 := blk_frozen BK2.b 1; have hczq27_2 : w26.cell? ⟨g1, 2, none⟩ = some (.slice A0_2 l0_2.length c0_2) := (blk_cell BK2.b 2).trans rfl; have hfzq27_2 := blk_frozen BK2.b 2; have hczq27_3 : w26.cell? ⟨g1, 3, none⟩ = some (.slice A0_3 l0_3.length c0_3) := (blk_cell BK2.b 3).trans rfl; have hfzq27_3 := blk_frozen BK2.b 3) | ((with_reducible refine Sh.k 7 ?_); refine Sh.gL (some 27) Try.func7 #[.agg #[.int .i64 a0_0, .int .i64 a0_1, .slice A0_2 l0_2.length c0_2, .slice A0_3 l0_3.length c0_3]] (h := ?_); (with_reducible refine (laws_toProgram.calls k a0_0 a0_1 _ _ l0_2 _ _ l0_3 a0_0 a0_1 y9 y10 _ (Kd.C_below HR0_2.out HB.out) HC0_2.out (Kd.C_below HR0_3.out HB.out) HC0_3.out E1.out).mono ?_); rintro e w28 ⟨v2_, v3_, rfl, ho0, ho1, hb⟩; refine ⟨_, rfl, ?_⟩; obtain ⟨lo31, hi32, ⟨HO29, HO30⟩, oa33, ob34, NW2⟩ := new1 (F := fun lo_ hi_ => Held k73 73 w28 w.heap.size lo_ hi_ v2_ y9 ∧ Held k50 50 w28 w.heap.size lo_ hi_ v3_ y10) ⟨held_new ho0 hb HB.out, held_new ho1 hb HB.out⟩ hb NW; replace BK2 := BK2.same hb; replace HO12 := HO12.same hb; replace HO13 := HO13.same hb; replace HB := am_ (below_step HB.out hb); replace NW := Nat.le_trans NW hb.size; replace NW := NW2; skip; obtain ⟨A35, c36, e37⟩ := HO29.slice; subst e37; obtain ⟨A38, c39, e40⟩ := HO30.slice; subst e40; clear hb ho0 ho1) | ((with_reducible refine Sh.d 10 ?_); refine Sh.bx (N := 10) (cs := #[.int .i64 0, .int .i64 0, .slice none 0 0, .slice none 0 0]) (t := 33) (h := ?_); intro g41 hg w43 hbox hb; have BK42 := box_new (w := w) (W := w28) HB.out hg hbox; have oa44 := new_g (W := w28) hg NW; replace BK2 := BK2.same hb; replace HO12 := HO12.same hb; replace HO13 := HO13.same hb; replace HO29 := HO29.same hb; replace HO30 := HO30.same hb; replace HB := am_ (below_step HB.out hb); replace NW := Nat.le_trans NW hb.size; replace NW := BK42.lt; clear hb hbox hg) | ((with_reducible refine gate_ (.store 33 (.tmp 10) (.tmp 27)) rfl ?_); refine store_event 10 (.tmp 27) rfl rfl rfl BK42 rfl [.int .i64 a0_0, .int .i64 a0_1, .slice A35 y9.length c36, .slice A38 y10.length c39] rfl rfl ?hs rfl ?h1 ?_; (case hs => kernel_rfl); (case h1 => (simp only [List.mem_cons, List.not_mem_nil, or_false]; intro q_ h_; rcases h_ with h_ | h_ | h_ | h_ <;> (subst h_; rfl))); intro w45 hbx hb hk; replace BK2 := BK2.move hk (by omega); replace HO12 := HO12.move hk (by omega); replace HO13 := HO13.move hk (by omega); replace HO29 := HO29.move hk (by omega); replace HO30 := HO30.move hk (by omega); replace BK42 := hbx; replace NW := Nat.le_trans NW hk.1; replace HB := am_ (HB.out.trans hb); clear hk hb; have hczq46_0 : w45.cell? ⟨g41, 0, none⟩ = some (.int .i64 a0_0) := (blk_cell BK42.b 0).trans rfl; have hfzq46_0 := blk_frozen BK42.b 0; have hczq46_1 : w45.cell? ⟨g41, 1, none⟩ = some (.int .i64 a0_1) := (blk_cell BK42.b 1).trans rfl; have hfzq46_1 := blk_frozen BK42.b 1; have hczq46_2 : w45.cell? ⟨g41, 2, none⟩ = some (.slice A35 y9.length c36) := (blk_cell BK42.b 2).trans rfl; have hfzq46_2 := blk_frozen BK42.b 2; have hczq46_3 : w45.cell? ⟨g41, 3, none⟩ = some (.slice A38 y10.length c39) := (blk_cell BK42.b 3).trans rfl; have hfzq46_3 := blk_frozen BK42.b 3) | ((with_reducible refine Sh.k 15 ?_); refine Sh.gL (some 32) Try.func15 #[.agg #[.int .i64 a0_0, .int .i64 a0_1, .slice A35 y9.length c36, .slice A38 y10.length c39], .int .i64 a1, .int .i64 a2] (h := ?_); (with_reducible refine (impl_Apart.calls k a0_0 a0_1 _ _ y9 _ _ y10 a1 a2 y24 y25 _ HO29.C HO29.c HO30.C HO30.c E3.out).mono ?_); rintro e w47 ⟨rfl, hb⟩; refine ⟨_, rfl, ?_⟩; replace BK2 := BK2.same hb; replace HO12 := HO12.same hb; replace HO13 := HO13.same hb; replace HO29 := HO29.same hb; replace HO30 := HO30.same hb; replace BK42 := BK42.same hb; replace HB := am_ (below_step HB.out hb); replace NW := Nat.le_trans NW hb.size; clear hb))
 (try simp only [Act.put, List.setIfInBounds_toArray, List.set_cons_zero, List.set_cons_succ])
 try go_wp2
 have hb : Below w47.heap.size w47 w47.drew := below_drew (Below.refl _ _)
 replace BK2 := BK2.same hb
 replace HO12 := HO12.same hb
 replace HO13 := HO13.same hb
 replace HO29 := HO29.same hb
 replace HO30 := HO30.same hb
 replace BK42 := BK42.same hb
 replace HB := am_ (below_step HB.out hb)
 replace NW := Nat.le_trans NW hb.size
 clear hb
 have hL_ : 0 ≤ 0 := Nat.le_refl 0
 refine start_ (n := 5) (S := fun w' => w'.cell? ⟨g41, 0, none⟩ = some (.int .i64 a0_0) ∧ w'.cell? ⟨g41, 1, none⟩ = some (.int .i64 a0_1) ∧ w'.cell? ⟨g41, 2, none⟩ = some (.slice A35 y9.length c36) ∧ w'.cell? ⟨g41, 3, none⟩ = some (.slice A38 y10.length c39) ∧ w'.cell? ⟨g1, 0, none⟩ = some (.int .i64 a0_0) ∧ w'.cell? ⟨g1, 1, none⟩ = some (.int .i64 a0_1) ∧ w'.cell? ⟨g1, 2, none⟩ = some (.slice A0_2 l0_2.length c0_2) ∧ w'.cell? ⟨g1, 3, none⟩ = some (.slice A0_3 l0_3.length c0_3)) (ds := []) (Sh.nm 5 0) (by kernel_rfl) rfl rfl ⟨(blk_cell BK42.b 0).trans rfl, (blk_cell BK42.b 1).trans rfl, (blk_cell BK42.b 2).trans rfl, (blk_cell BK42.b 3).trans rfl, (blk_cell BK2.b 0).trans rfl, (blk_cell BK2.b 1).trans rfl, (blk_cell BK2.b 2).trans rfl, (blk_cell BK2.b 3).trans rfl⟩ (fun hHeld => ?_)
 generalize w47.drew = w48 at BK2 HO12 HO13 HO29 HO30 BK42 HB NW hHeld ⊢
 clear hL_
 refine Sh.tA 0 43 (Sh.nm 5 1) (by kernel_rfl) hHeld ?_ (hy := by rintro w' ⟨s0, s1, s2, s3, s4, s5, s6, s7⟩; go_simp; with_reducible rfl)
 refine Sh.tA 1 44 (Sh.nm 5 3) (by kernel_rfl) hHeld ?_ (hy := by rintro w' ⟨s0, s1, s2, s3, s4, s5, s6, s7⟩; go_simp; with_reducible rfl)
 refine one_ (i := 2) (N := some 45) (Sh.nm 5 7) rfl rfl (by kernel_rfl) (by decide) (fun K hK => ?_)
 refine goes_ Try.func7 (by kernel_rfl) rfl #[.agg #[.int .i64 a0_0, .int .i64 a0_1, .slice A0_2 l0_2.length c0_2, .slice A0_3 l0_3.length c0_3]] (by rfl) rfl rfl (by (try simp only [List.map_toArray, List.map_cons, List.map_nil]); first | done | rfl | (simp only [List.length_drop, List.length_take]; rfl)) ?_
 with_reducible refine (laws_toProgram.calls k a0_0 a0_1 _ _ l0_2 _ _ l0_3 a0_0 a0_1 y9 y10 _ (Kd.C_below HR0_2.out HB.out) HC0_2.out (Kd.C_below HR0_3.out HB.out) HC0_3.out E1.out).mono ?_
 rintro e w49 ⟨v2_, v3_, rfl, ho0, ho1, hb⟩
 refine ⟨_, rfl, ?_⟩
 obtain ⟨lo52, hi53, ⟨HO50, HO51⟩, oa54, ob55, NW2⟩ := new1 (F := fun lo_ hi_ => Held k73 73 w49 w.heap.size lo_ hi_ v2_ y9 ∧ Held k50 50 w49 w.heap.size lo_ hi_ v3_ y10) ⟨held_new ho0 hb HB.out, held_new ho1 hb HB.out⟩ hb NW
 replace BK2 := BK2.same hb
 replace HO12 := HO12.same hb
 replace HO13 := HO13.same hb
 replace HO29 := HO29.same hb
 replace HO30 := HO30.same hb
 replace BK42 := BK42.same hb
 replace HB := am_ (below_step HB.out hb)
 replace NW := Nat.le_trans NW hb.size
 replace NW := NW2
 skip
 obtain ⟨A56, c57, e58⟩ := HO50.slice
 subst e58
 obtain ⟨A59, c60, e61⟩ := HO51.slice
 subst e61
 clear hb ho0 ho1
 refine Sh.kN hK ⟨(blk_cell BK42.b 0).trans rfl, (blk_cell BK42.b 1).trans rfl, (blk_cell BK42.b 2).trans rfl, (blk_cell BK42.b 3).trans rfl, (blk_cell BK2.b 0).trans rfl, (blk_cell BK2.b 1).trans rfl, (blk_cell BK2.b 2).trans rfl, (blk_cell BK2.b 3).trans rfl⟩ fun hHeld => ?_
 clear hK K
 refine one_ (i := 3) (N := some 46) (Sh.nm 5 15) rfl rfl (by kernel_rfl) (by decide) (fun K hK => ?_)
 refine goes_ Try.func10 (by kernel_rfl) rfl #[.agg #[.int .i64 a0_0, .int .i64 a0_1, .slice A35 y9.length c36, .slice A38 y10.length c39], .agg #[.int .i64 a0_0, .int .i64 a0_1, .slice A56 y9.length c57, .slice A59 y10.length c60]] (by rfl) rfl rfl (by (try simp only [List.map_toArray, List.map_cons, List.map_nil]); first | done | rfl | (simp only [List.length_drop, List.length_take]; rfl)) ?_
 with_reducible refine (laws_eqProgram.calls k a0_0 a0_1 _ _ y9 _ _ y10 a0_0 a0_1 _ _ y9 _ _ y10 true _ HO29.C HO29.c HO30.C HO30.c HO50.C HO50.c HO51.C HO51.c E4.out).mono ?_
 rintro e w62 ⟨rfl, hb⟩
 refine ⟨_, rfl, ?_⟩
 replace BK2 := BK2.same hb
 replace HO12 := HO12.same hb
 replace HO13 := HO13.same hb
 replace HO29 := HO29.same hb
 replace HO30 := HO30.same hb
 replace BK42 := BK42.same hb
 replace HO50 := HO50.same hb
 replace HO51 := HO51.same hb
 replace HB := am_ (below_step HB.out hb)
 replace NW := Nat.le_trans NW hb.size
 clear hb
 refine Sh.kN hK ⟨(blk_cell BK42.b 0).trans rfl, (blk_cell BK42.b 1).trans rfl, (blk_cell BK42.b 2).trans rfl, (blk_cell BK42.b 3).trans rfl, (blk_cell BK2.b 0).trans rfl, (blk_cell BK2.b 1).trans rfl, (blk_cell BK2.b 2).trans rfl, (blk_cell BK2.b 3).trans rfl⟩ fun hHeld => ?_
 clear hK K
 refine Sh.pA 4 47 (Sh.nm 5 31) (by kernel_rfl) ?_
 refine done_ (by kernel_rfl) ?_
 go_wp2
 go_ret
 exact ⟨rfl, HB.out⟩
end Go.Proofs.Ytjenmoopbmklfaa.P
