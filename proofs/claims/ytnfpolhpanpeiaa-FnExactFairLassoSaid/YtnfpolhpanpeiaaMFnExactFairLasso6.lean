/- Go functions of this seat as Lean functions, and the proofs that the calls come to what these say; printed by a program of this session. No condition. -/
import Derived.Test.YtnfpolhpanpeiaaP0
import Derived.Test.YtnfpolhpanpeiaaMFnExactFairLasso5
import Derived.Test.YtnfpolhpanpeiaaMFnExactFairLasso2
set_option linter.unusedVariables false
set_option linter.unusedSimpArgs false
set_option maxHeartbeats 40000000
set_option maxRecDepth 100000
namespace Go.Proofs.Ytnfpolhpanpeiaa.P
open Go.RowKit Go.Proofs.YtnfpolhpanpeiaaW.PrintWords Go.Proofs.YtnfpolhpanpeiaaW.PrintLast Go.Proofs.YtnfpolhpanpeiaaW.PrintMore Go.Proofs.Ytnfpolhpanpeiaa.Hof
attribute [local go_sem] max2_int min2_int max_two min_two max_three min_three max_four min_four
mutual
def spec_l11Far.l0 : Nat → List (List Int) → List Int → List Int → Int → Int → Option (List Int)
 | 0, _, _, _, _, _ => none
 | k + 1, x0, x1, x5, x17, x18 => if x18 < x17 then (if 0 ≤ x18 then (if x18 < (x5.length : Int) then (spec_l11Far.l0 k x0 x1 (x5.set (x18 : Int).toNat (-1)) x17 (wrap64 (x18 + 1))) else (none)) else (none)) else (spec_l11Far.l1 k x0 x1 x5 x1 (x1.length : Int) 0)
def spec_l11Far.l1 : Nat → List (List Int) → List Int → List Int → List Int → Int → Int → Option (List Int)
 | 0, _, _, _, _, _, _ => none
 | k + 1, x0, x1, x5, x25, x26, x27 => if x27 < x26 then (if 0 ≤ x27 then (if x27 < (x25.length : Int) then (if 0 ≤ (rd x25 x27) then (if (rd x25 x27) < (x5.length : Int) then (spec_l11Far.l1 k x0 x1 (x5.set ((rd x25 x27) : Int).toNat 0) x25 x26 (wrap64 (x27 + 1))) else (none)) else (none)) else (none)) else (none)) else ((spec_l1Own.f x1).bind fun t209 => (spec_l11Far.l2 k x0 x5 t209))
def spec_l11Far.l2 : Nat → List (List Int) → List Int → List Int → Option (List Int)
 | 0, _, _, _ => none
 | k + 1, x0, x5, x9 => if (x9.length : Int) > 0 then (if 0 < (x9.length : Int) then (if 1 ≤ (x9.length : Int) then (if 0 ≤ (rd x9 0) then (if (rd x9 0) < (x0.length : Int) then (spec_l11Far.l3 k x0 x5 (x9.drop (1 : Int).toNat) (rd x9 0) (rd_L1 x0 (rd x9 0)) ((rd_L1 x0 (rd x9 0)).length : Int) 0) else (none)) else (none)) else (none)) else (none)) else (some x5)
def spec_l11Far.l3 : Nat → List (List Int) → List Int → List Int → Int → List Int → Int → Int → Option (List Int)
 | 0, _, _, _, _, _, _, _ => none
 | k + 1, x0, x5, x9, x10, x48, x49, x50 => if x50 < x49 then (if 0 ≤ x50 then (if x50 < (x48.length : Int) then (if 0 ≤ (rd x48 x50) then (if (rd x48 x50) < (x5.length : Int) then (if (rd x5 (rd x48 x50)) < 0 then (if 0 ≤ x10 then (if x10 < (x5.length : Int) then (if x9.length < 17592186044416 then (spec_l11Far.l3 k x0 (x5.set ((rd x48 x50) : Int).toNat (wrap64 ((rd x5 x10) + 1))) (x9 ++ [rd x48 x50]) x10 x48 x49 (wrap64 (x50 + 1))) else (none)) else (none)) else (none)) else (spec_l11Far.l3 k x0 x5 x9 x10 x48 x49 (wrap64 (x50 + 1)))) else (none)) else (none)) else (none)) else (none)) else (spec_l11Far.l2 k x0 x5 x9)
end
def spec_l11Far.f (k : Nat) (l0 : List (List Int)) (l1 : List Int) : Option (List Int) := if 0 ≤ (l0.length : Int) then (if ((l0.length : Int) : Int).toNat ≤ 35184372088832 then ((some (List.replicate ((l0.length : Int) : Int).toNat 0 : List Int)).bind fun y203 => (spec_l11Far.l0 k l0 l1 y203 (y203.length : Int) 0)) else (none)) else (none)
theorem spec_l11Far.mono_l : ∀ k, (∀ y0 y1 y2 y3 y4, LeO (spec_l11Far.l0 k y0 y1 y2 y3 y4) (spec_l11Far.l0 (k + 1) y0 y1 y2 y3 y4)) ∧ (∀ y0 y1 y2 y3 y4 y5, LeO (spec_l11Far.l1 k y0 y1 y2 y3 y4 y5) (spec_l11Far.l1 (k + 1) y0 y1 y2 y3 y4 y5)) ∧ (∀ y0 y1 y2, LeO (spec_l11Far.l2 k y0 y1 y2) (spec_l11Far.l2 (k + 1) y0 y1 y2)) ∧ (∀ y0 y1 y2 y3 y4 y5 y6, LeO (spec_l11Far.l3 k y0 y1 y2 y3 y4 y5 y6) (spec_l11Far.l3 (k + 1) y0 y1 y2 y3 y4 y5 y6))
 | 0 => ⟨fun _ _ _ _ _ r h => by simp [spec_l11Far.l0] at h, fun _ _ _ _ _ _ r h => by simp [spec_l11Far.l1] at h, fun _ _ _ r h => by simp [spec_l11Far.l2] at h, fun _ _ _ _ _ _ _ r h => by simp [spec_l11Far.l3] at h⟩
 | k + 1 => by
  obtain ⟨ih0, ih1, ih2, ih3⟩ := spec_l11Far.mono_l k
  and_intros <;> intros
  all_goals (first | unfold spec_l11Far.l0 | unfold spec_l11Far.l1 | unfold spec_l11Far.l2 | unfold spec_l11Far.l3)
  all_goals repeat' with_reducible first | apply ih0 | apply ih1 | apply ih2 | apply ih3 | exact LeO.refl _ | exact LeO.none _ | apply LeO.ite | refine LeO.bind ?_ fun _ => ?_
theorem spec_l11Far.mono : ∀ a0 a1 k, LeO (spec_l11Far.f k a0 a1) (spec_l11Far.f (k + 1) a0 a1) := by
 intro a0 a1 k
 obtain ⟨ih0, ih1, ih2, ih3⟩ := spec_l11Far.mono_l k
 unfold spec_l11Far.f
 repeat' with_reducible first | apply ih0 | apply ih1 | apply ih2 | apply ih3 | exact LeO.refl _ | exact LeO.none _ | apply LeO.ite | refine LeO.bind ?_ fun _ => ?_
theorem spec_l11Far.calls (k : Nat) (A0 : Option Addr) (c0 : Nat) (l0 : List (List Int)) (A1 : Option Addr) (c1 : Nat) (l1 : List Int) (r : List Int) (w : World) (hr0 : Kd.C (Kd.slice 3 (Kd.int .i64)) w A0 l0.length l0) (hc0 : l0.length ≤ c0) (hr1 : Kd.C (Kd.int .i64) w A1 l1.length l1) (hc1 : l1.length ≤ c1) (h : spec_l11Far.f k l0 l1 = some r) :
  Calls Try.prog 50 #[.slice A0 l0.length c0, .slice A1 l1.length c1] w fun e w' => ∃ v0_ : Value, e = .returned (v0_) ∧ Kd.R (Kd.int .i64) 3 w' w.heap.size (fun _ => True) v0_ r ∧ Below w.heap.size w w' := by
 have HR0 := am_ hr0
 have HC0 := am_ hc0
 clear hr0 hc0
 have HR1 := am_ hr1
 have HC1 := am_ hc1
 clear hr1 hc1
 have HB := am_ (Below.refl w.heap.size w)
 have H := h
 clear h
 unfold spec_l11Far.f at H
 by_cases c3 : 0 ≤ (l0.length : Int)
 ·rw [if_pos c3] at H
  have c3b0 := eq_true c3
  have c3b1 := decide_eq_true c3
  clear c3
  by_cases c4 : ((l0.length : Int) : Int).toNat ≤ 35184372088832
  ·rw [if_pos c4] at H
   have c4b0 := eq_true c4
   have c4b1 := decide_eq_true c4
   clear c4
   obtain ⟨y203, hy203⟩ : ∃ y_ : List Int, y_ = (List.replicate ((l0.length : Int) : Int).toNat 0) := ⟨_, rfl⟩
   replace H : (spec_l11Far.l0 k l0 l1 y203 (y203.length : Int) 0) = some r := by first | (rw [hy203]; with_reducible exact H) | (have H2_ := (Option.bind_some _ _).symm.trans H; rw [hy203]; with_reducible exact H2_) | (have H2_ := (Option.bind_some _ _).symm.trans H; with_reducible exact H2_) | with_reducible exact H | (rw [hy203]; exact H) | exact H
   have Ny203 := am_ hy203
   clear hy203
   have H' := am_ H
   clear H
   go_enter Try.func50, Try.ntmps50
   go_wp2_with (first | ((with_reducible refine Sh.d 15 ?_); refine Kd.R_make (Kd.int .i64) _ 3 rfl (N := 15) rfl 26 _ _ rfl (l0.length : Int) rfl rfl Try.underlying26 (.int .i64 0) 8 info3 rfl (by decide) (by omega) 0 (ok := fun _ => True) (okp := fun _ => True) rfl (fun _ hk => hk) trivial (of_decide_eq_true (by first | (with_reducible assumption) | assumption)) (Nat.le_trans (Nat.mul_le_mul_right _ (of_decide_eq_true (by first | (with_reducible assumption) | assumption) : (l0.length : Int).toNat ≤ 35184372088832)) (by omega)) (Below.refl _ _) (Nat.le_refl _) ?_; intro v204 w5 ho6 hb hg_ hnew_; clear hg_ hnew_; (first | rw [← Ny203.out] at ho6 | (simp only [Int.reduceToNat] at ho6; rw [← Ny203.out] at ho6)); have HO205 := am_ (Kd.R_lower ho6 (below_size Sh.bw)); replace HB := Sh.hb hb; clear hb ho6; obtain ⟨Ao7, co7, eo7⟩ := Kd.R_slice HO205.out; subst eo7))
   go_loopg [18] k (fun kq v18 w' => ∃ (x5_1 : List Int) (x18_1 : Int), v18 = .int .i64 x18_1 ∧ Aside0 (spec_l11Far.l0 kq l0 l1 x5_1 (y203.length : Int) x18_1 = some r) ∧ Aside0 (kq ≤ k) ∧ Aside0 (Kd.R (Kd.int .i64) 3 w' w.heap.size (fun _ => True) (.slice Ao7 y203.length co7) x5_1) ∧ Aside0 (Below w.heap.size w w'))
   case atStart => exact ⟨(y203), (0), (Sh.es), H', ⟨Nat.le_refl _⟩, ⟨Sh.rl HO205.out⟩, ⟨Sh.bw⟩⟩
   case round =>
    clear H'
    obtain ⟨x5_1, x18_1, rfl, HA, HK1, HO_5, HB⟩ := hrel
    have hl5_1 := (Kd.R_reads' HO_5.out).1
    rw [hl5_1] at HO_5
    (try simp only [hl5_1])
    cases gk with
    | zero => exact absurd HA.out (by simp [spec_l11Far.l0])
    | succ k1 =>
     have H := HA.out
     clear HA
     simp only [spec_l11Far.l0] at H
     by_cases c8 : x18_1 < (y203.length : Int)
     ·rw [if_pos c8] at H
      have c8b0 := decide_eq_true c8
      clear c8
      by_cases c9 : 0 ≤ x18_1
      ·rw [if_pos c9] at H
       replace c9 := decide_eq_true c9
       by_cases c10 : x18_1 < (x5_1.length : Int)
       ·rw [if_pos c10] at H
        replace c10 := decide_eq_true c10
        obtain ⟨y206, hy206⟩ : ∃ y_ : List Int, y_ = (x5_1.set (x18_1 : Int).toNat (-1)) := ⟨_, rfl⟩
        replace H : (spec_l11Far.l0 k1 l0 l1 y206 (y203.length : Int) (wrap64 (x18_1 + 1))) = some r := by first | (rw [hy206]; with_reducible exact H) | (have H2_ := (Option.bind_some _ _).symm.trans H; rw [hy206]; with_reducible exact H2_) | (have H2_ := (Option.bind_some _ _).symm.trans H; with_reducible exact H2_) | with_reducible exact H | (rw [hy206]; exact H) | exact H
        have Ny206 := am_ hy206
        clear hy206
        have H' := am_ H
        clear H
        have p11 : 0 ≤ (x18_1 : Int) := Sh.od
        have q11 : (x18_1 : Int) < ((x5_1.length : Int) : Int) := Sh.od
        obtain ⟨go11, co11, eo11, gb11, gl11, cl11, HG11⟩ := Kd.R_form HO_5.out (by omega)
        (first | cases eo11 | (injection eo11 with ea_ en_ ec_; (first | subst ea_ | (injection ea_ with ea_; subst ea_)); subst ec_; clear en_))
        have GB11 := am_ gb11
        have GG11 := am_ HG11
        clear gb11 gl11 HG11
        obtain ⟨hx11_0, hf11_0⟩ := Kd.R_celln 0 HO_5.out (x18_1 : Int) p11 q11
        replace p11 := eq_true p11
        replace q11 := eq_true q11
        have HP12 := Kd.R_putg HO_5.out (x18_1 : Int) (-1)
        go_wp2_with (first | ((with_reducible refine gate_store (t := 3) (p := 23) rfl ?_); refine store_event (t := 3) (p := 23) (v := ?vo_w13) (w1 := (wr.setCell ⟨go11, (x18_1 : Int).toNat, none⟩ (.int .i64 (-1)))) ?hg ?ho ?hn ?hr ?_; (case ho => rfl); (case hg => rfl); (case hn => rfl); (case hr => first | (go_simp; done) | (go_simp; rfl)); intro w13 hw; have hg : wr.grownBy w13 (some go11) := (by rw [hw]; exact HP12.2); have hp_ : Kd.R (Kd.int .i64) 3 w13 w.heap.size (fun _ => True) (.slice (some ⟨go11, 0, none⟩) x5_1.length co7) y206 := (by rw [hw, Ny206.out]; exact HP12.1); clear HP12; replace HO_5 := am_ hp_; replace HB := am_ ((by rw [hw]; exact below_set (HB.out) GB11.out : Below w.heap.size w w13)); clear hg hw hp_))
        (try simp only [← hl5_1])
        go_roundg k1
        case measure => have := HK1.out; omega
        case rel => exact ⟨(y206), (wrap64 (x18_1 + 1)), (Sh.es), H', ⟨by have := HK1.out; omega⟩, ⟨by (try simp only [hl5_1]); (with_reducible repeat (first | apply Kd.R_alloc | apply Kd.R_drewN | apply Kd.R_drew)); exact HO_5.out⟩, ⟨Sh.bw⟩⟩
       ·rw [if_neg c10] at H
        cases H
      ·rw [if_neg c9] at H
       cases H
     ·rw [if_neg c8] at H
      have c8b0 := decide_eq_false c8
      (try simp only [hl5_1] at c8b0)
      clear c8
      have H' := am_ H
      clear H
      go_wp2
      go_loopg [27] k1 (fun kq v27 w' => ∃ (x5_2 : List Int) (x27_2 : Int), v27 = .int .i64 x27_2 ∧ Aside0 (spec_l11Far.l1 kq l0 l1 x5_2 l1 (l1.length : Int) x27_2 = some r) ∧ Aside0 (kq ≤ k1) ∧ Aside0 (Kd.R (Kd.int .i64) 3 w' w.heap.size (fun _ => True) (.slice Ao7 x5_1.length co7) x5_2) ∧ Aside0 (Below w.heap.size w w'))
      case atStart => exact ⟨(x5_1), (0), (Sh.es), H', ⟨Nat.le_refl _⟩, ⟨by (try simp only [hl5_1]); (with_reducible repeat (first | apply Kd.R_alloc | apply Kd.R_drewN | apply Kd.R_drew)); exact HO_5.out⟩, ⟨Sh.bw⟩⟩
      case round =>
       clear H'
       try clear hx1
       try clear hx11
       try clear hf11
       try clear hx11_0
       obtain ⟨x5_2, x27_2, rfl, HA, HK2, HO_5, HB⟩ := hrel
       have hl5_2 := (Kd.R_reads' HO_5.out).1
       rw [hl5_2] at HO_5
       (try simp only [hl5_2])
       cases gk with
       | zero => exact absurd HA.out (by simp [spec_l11Far.l1])
       | succ k2 =>
        have H := HA.out
        clear HA
        simp only [spec_l11Far.l1] at H
        by_cases c14 : x27_2 < (l1.length : Int)
        ·rw [if_pos c14] at H
         have c14b0 := decide_eq_true c14
         clear c14
         by_cases c15 : 0 ≤ x27_2
         ·rw [if_pos c15] at H
          replace c15 := decide_eq_true c15
          by_cases c16 : x27_2 < (l1.length : Int)
          ·rw [if_pos c16] at H
           replace c16 := decide_eq_true c16
           by_cases c17 : 0 ≤ (rd l1 x27_2)
           ·rw [if_pos c17] at H
            replace c17 := decide_eq_true c17
            by_cases c18 : (rd l1 x27_2) < (x5_2.length : Int)
            ·rw [if_pos c18] at H
             replace c18 := decide_eq_true c18
             obtain ⟨y208, hy208⟩ : ∃ y_ : List Int, y_ = (x5_2.set ((rd l1 x27_2) : Int).toNat 0) := ⟨_, rfl⟩
             replace H : (spec_l11Far.l1 k2 l0 l1 y208 l1 (l1.length : Int) (wrap64 (x27_2 + 1))) = some r := by first | (rw [hy208]; with_reducible exact H) | (have H2_ := (Option.bind_some _ _).symm.trans H; rw [hy208]; with_reducible exact H2_) | (have H2_ := (Option.bind_some _ _).symm.trans H; with_reducible exact H2_) | with_reducible exact H | (rw [hy208]; exact H) | exact H
             have Ny208 := am_ hy208
             clear hy208
             have H' := am_ H
             clear H
             have p207 : 0 ≤ (x27_2 : Int) := Sh.od
             have q207 : x27_2 < (l1.length : Int) := Sh.od
             obtain ⟨ad207, e207, hx207_0⟩ := Kd.at_int HR1.out x27_2 p207 q207
             cases e207
             try replace hx207_0 := Sh.cw hx207_0
             replace p207 := eq_true p207
             replace q207 := eq_true q207
             have p19 : 0 ≤ ((rd l1 x27_2) : Int) := Sh.od
             have q19 : ((rd l1 x27_2) : Int) < ((x5_2.length : Int) : Int) := Sh.od
             obtain ⟨go19, co19, eo19, gb19, gl19, cl19, HG19⟩ := Kd.R_form HO_5.out (by omega)
             (first | cases eo19 | (injection eo19 with ea_ en_ ec_; (first | subst ea_ | (injection ea_ with ea_; subst ea_)); subst ec_; clear en_))
             have GB19 := am_ gb19
             have GG19 := am_ HG19
             clear gb19 gl19 HG19
             obtain ⟨hx19_0, hf19_0⟩ := Kd.R_celln 0 HO_5.out ((rd l1 x27_2) : Int) p19 q19
             replace p19 := eq_true p19
             replace q19 := eq_true q19
             have HP20 := Kd.R_putg HO_5.out ((rd l1 x27_2) : Int) 0
             go_wp2_with (first | ((with_reducible refine gate_store (t := 3) (p := 33) rfl ?_); refine store_event (t := 3) (p := 33) (v := ?vo_w21) (w1 := (wr.setCell ⟨go19, ((rd l1 x27_2) : Int).toNat, none⟩ (.int .i64 0))) ?hg ?ho ?hn ?hr ?_; (case ho => rfl); (case hg => rfl); (case hn => rfl); (case hr => first | (go_simp; done) | (go_simp; rfl)); intro w21 hw; have hg : wr.grownBy w21 (some go19) := (by rw [hw]; exact HP20.2); have hp_ : Kd.R (Kd.int .i64) 3 w21 w.heap.size (fun _ => True) (.slice (some ⟨go19, 0, none⟩) x5_2.length co7) y208 := (by rw [hw, Ny208.out]; exact HP20.1); clear HP20; replace HO_5 := am_ hp_; replace HB := am_ ((by rw [hw]; exact below_set (HB.out) GB19.out : Below w.heap.size w w21)); clear hg hw hp_))
             (try simp only [← hl5_2])
             go_roundg k2
             case measure => have := HK1.out; have := HK2.out; omega
             case rel => exact ⟨(y208), (wrap64 (x27_2 + 1)), (Sh.es), H', ⟨by have := HK1.out; have := HK2.out; omega⟩, ⟨by (try simp only [hl5_1]); (try simp only [hl5_2]); (with_reducible repeat (first | apply Kd.R_alloc | apply Kd.R_drewN | apply Kd.R_drew)); exact HO_5.out⟩, ⟨Sh.bw⟩⟩
            ·rw [if_neg c18] at H
             cases H
           ·rw [if_neg c17] at H
            cases H
          ·rw [if_neg c16] at H
           cases H
         ·rw [if_neg c15] at H
          cases H
        ·rw [if_neg c14] at H
         have c14b0 := decide_eq_false c14
         (try simp only [hl5_1] at c14b0)
         (try simp only [hl5_2] at c14b0)
         clear c14
         obtain ⟨t209, A22, H⟩ := Sh.ba H
         have H' := am_ H
         clear H
         go_wp2_with (first | ((with_reducible refine Sh.k 70 ?_); refine Sh.gL (some 36) Try.func70 #[.slice A1 l1.length c1] (h := ?_); (with_reducible refine (spec_l1Own.calls _ _ l1 t209 _ (Sh.cB HR1.out) HC1.out A22.out).mono ?_); rintro e w23 ⟨v210, rfl, ho0, hb⟩; refine ⟨_, rfl, ?_⟩; have HO211 := am_ (Kd.R_lower (Kd.R_new' ho0 (Kd.R_lt (Sh.rl HO_5.out))) (below_size Sh.bw)); replace HO_5 := am_ (Kd.R_elder' (Sh.rl HO_5.out) (Kd.R_base ho0) hb); replace HB := Sh.hb hb; (try clear hb); (try clear hk); (try clear ho0)))
         go_loopg [9] k2 (fun kq v9 w' => ∃ (x5_3 : List Int) (x9_3 : List Int), Aside0 (spec_l11Far.l2 kq l0 x5_3 x9_3 = some r) ∧ Aside0 (kq ≤ k2) ∧ Aside0 (Kd.R (Kd.int .i64) 3 w' w.heap.size (fun k_ => some k_ ≠ (v9 : Value).ownBlock) (.slice Ao7 x5_2.length co7) x5_3) ∧ Aside0 (Kd.Q (Kd.int .i64) 3 w' w.heap.size (fun k_ => some k_ ≠ ((.slice Ao7 x5_2.length co7) : Value).ownBlock) v9 x9_3) ∧ Aside0 (Below w.heap.size w w'))
         case atStart => exact ⟨(x5_2), (t209), H', ⟨Nat.le_refl _⟩, ⟨by (try simp only [hl5_1]); (try simp only [hl5_2]); (with_reducible repeat (first | apply Kd.R_alloc | apply Kd.R_drewN | apply Kd.R_drew)); exact Kd.R_mono HO_5.out (fun _ hk => hk.2)⟩, ⟨Kd.Q_of_R (by (try simp only [hl5_1]); (try simp only [hl5_2]); (with_reducible repeat (first | apply Kd.R_alloc | apply Kd.R_drewN | apply Kd.R_drew)); exact Kd.R_mono HO211.out (fun _ hk => hk.2))⟩, ⟨Sh.bw⟩⟩
         case round =>
          clear H'
          try clear hx1
          try clear hx2
          try clear hx11
          try clear hf11
          try clear hx19
          try clear hf19
          try clear hx20
          try clear hx11_0
          try clear hx19_0
          try clear hx207_0
          obtain ⟨x5_3, x9_3, HA, HK3, HO_5, HO_9, HB⟩ := hrel
          have hl5_3 := (Kd.R_reads' HO_5.out).1
          rw [hl5_3] at HO_5
          (try simp only [hl5_3])
          (try simp only [hl5_3] at HO_9)
          cases gk with
          | zero => exact absurd HA.out (by simp [spec_l11Far.l2])
          | succ k3 =>
           have H := HA.out
           clear HA
           simp only [spec_l11Far.l2] at H
           by_cases c24 : (x9_3.length : Int) > 0
           ·rw [if_pos c24] at H
            have c24b0 : decide (0 < (x9_3.length : Int)) = true := decide_eq_true c24
            have c24b1 : decide (0 < x9_3.length) = true := decide_eq_true (by omega)
            clear c24
            by_cases c25 : 0 < (x9_3.length : Int)
            ·rw [if_pos c25] at H
             have c25b0 := decide_eq_true c25
             have c25b1 : decide (0 < x9_3.length) = true := decide_eq_true (by omega)
             clear c25
             by_cases c26 : 1 ≤ (x9_3.length : Int)
             ·rw [if_pos c26] at H
              have c26b0 := eq_true c26
              have c26b1 := decide_eq_true c26
              clear c26
              obtain ⟨y213, hy213⟩ : ∃ y_ : List Int, y_ = (x9_3.drop (1 : Int).toNat) := ⟨_, rfl⟩
              replace H : (if 0 ≤ (rd x9_3 0) then (if (rd x9_3 0) < (l0.length : Int) then (spec_l11Far.l3 k3 l0 x5_3 y213 (rd x9_3 0) (rd_L1 l0 (rd x9_3 0)) ((rd_L1 l0 (rd x9_3 0)).length : Int) 0) else (none)) else (none)) = some r := by first | (rw [hy213]; with_reducible exact H) | (have H2_ := (Option.bind_some _ _).symm.trans H; rw [hy213]; with_reducible exact H2_) | (have H2_ := (Option.bind_some _ _).symm.trans H; with_reducible exact H2_) | with_reducible exact H | (rw [hy213]; exact H) | exact H
              have Ny213 := am_ hy213
              clear hy213
              by_cases c27 : 0 ≤ (rd x9_3 0)
              ·rw [if_pos c27] at H
               replace c27 := decide_eq_true c27
               by_cases c28 : (rd x9_3 0) < (l0.length : Int)
               ·rw [if_pos c28] at H
                replace c28 := decide_eq_true c28
                have H' := am_ H
                clear H
                obtain ⟨Ao29, co29, eo29, _⟩ := Kd.Q_slice HO_9.out
                subst eo29
                have p212 : 0 ≤ (0 : Int) := (by omega)
                have q212 : 0 < (x9_3.length : Int) := Sh.od
                obtain ⟨ad212, e212, hx212_0⟩ := Kd.at_int (Kd.Q_reads' HO_9.out).2.2 0 p212 q212
                cases e212
                have qi212 : (0 < x9_3.length) = True := eq_true (by omega)
                (try rw [show ((0 : Int)).toNat = 0 from rfl] at hx212_0)
                (try rw [Addr.add_zero'] at hx212_0)
                replace p212 := eq_true p212
                replace q212 := eq_true q212
                have q30 : (1 : Int) ≤ ((x9_3.length : Int) : Int) := Sh.od
                obtain ⟨i030, hi030, _, hsz30, _⟩ := info_parts info3
                have hcut30 := cut_from (P := Try.prog) 26 3 .i64 Try.underlying26 hi030 1 hsz30 (some ad212) x9_3.length co29 1 (by omega) q30
                have hr30 := Kd.Q_drop (k := (1 : Int).toNat) HO_9.out (by omega)
                obtain ⟨A30, hA30⟩ : ∃ A1, A1 = (if co29 = (1 : Int).toNat then (some ad212) else ((some ad212) : Option Addr).map (·.add ((1 : Int).toNat * 1))) := ⟨_, rfl⟩
                obtain ⟨c30, hc30⟩ : ∃ c1, c1 = co29 - (1 : Int).toNat := ⟨_, rfl⟩
                have hy30 : y213.length = x9_3.length - (1 : Int).toNat := (by rw [Ny213.out, List.length_drop])
                rw [← Ny213.out] at hr30
                rw [← hy30, ← hA30, ← hc30] at hcut30
                replace hr30 : Kd.Q (Kd.int .i64) 3 wr w.heap.size (fun k_ => some k_ ≠ (.slice Ao7 x5_3.length co7 : Value).ownBlock) (.slice A30 y213.length c30) y213 := (by rw [hA30, hc30, hy30]; exact hr30)
                have HE30 : Aside0 ((Value.slice A30 y213.length c30).ownBlock = (.slice (some ad212) x9_3.length co29 : Value).ownBlock) := ⟨by rw [hA30]; split <;> (cases ((some ad212) : Option Addr) <;> rfl)⟩
                clear hy30 hi030 hsz30 HO_9 hA30 hc30
                have HO215 := am_ hr30
                clear hr30
                replace q30 := eq_true q30
                have n_ := am_ (Kd.R_mono (ok' := fun k_ => some k_ ≠ (.slice A30 y213.length c30 : Value).ownBlock) HO_5.out (fun k_ hk => (by rw [HE30.out]; exact hk)))
                clear HO_5
                have HO_5 := n_
                clear n_
                have p216 : 0 ≤ ((rd x9_3 0) : Int) := Sh.od
                have q216 : (rd x9_3 0) < (l0.length : Int) := Sh.od
                obtain ⟨ad216, A216_0, c216_0, e216, hx216_0, hl216_0, hi216_0⟩ := at_L1 HR0.out (rd x9_3 0) p216 q216
                cases e216
                try replace hx216_0 := Sh.cw hx216_0
                have HR216_0 := am_ hi216_0
                have HC216_0 := am_ hl216_0
                clear hi216_0 hl216_0
                replace p216 := eq_true p216
                replace q216 := eq_true q216
                go_wp2
                go_loopg [9, 50] k3 (fun kq v9 v50 w' => ∃ (x5_4 : List Int) (x9_4 : List Int) (x50_4 : Int), v50 = .int .i64 x50_4 ∧ Aside0 (spec_l11Far.l3 kq l0 x5_4 x9_4 (rd x9_3 0) (rd_L1 l0 (rd x9_3 0)) ((rd_L1 l0 (rd x9_3 0)).length : Int) x50_4 = some r) ∧ Aside0 (kq ≤ k3) ∧ Aside0 (Kd.R (Kd.int .i64) 3 w' w.heap.size (fun k_ => some k_ ≠ (v9 : Value).ownBlock) (.slice Ao7 x5_3.length co7) x5_4) ∧ Aside0 (Kd.Q (Kd.int .i64) 3 w' w.heap.size (fun k_ => some k_ ≠ ((.slice Ao7 x5_3.length co7) : Value).ownBlock) v9 x9_4) ∧ Aside0 (Below w.heap.size w w'))
                case atStart => exact ⟨(x5_3), (y213), (0), (Sh.es), H', ⟨Nat.le_refl _⟩, ⟨by (try simp only [hl5_1]); (try simp only [hl5_2]); (try simp only [hl5_3]); (with_reducible repeat (first | apply Kd.R_alloc | apply Kd.R_drewN | apply Kd.R_drew)); exact HO_5.out⟩, ⟨by (try simp only [hl5_1]); (try simp only [hl5_2]); (try simp only [hl5_3]); (with_reducible repeat (first | apply Kd.Q_alloc | apply Kd.Q_drewN | apply Kd.Q_drew)); exact HO215.out⟩, ⟨Sh.bw⟩⟩
                case round =>
                 clear H'
                 try clear hx1
                 try clear hx2
                 try clear qi2
                 try clear hx11
                 try clear hf11
                 try clear hx19
                 try clear hf19
                 try clear hx20
                 try clear hx21
                 try clear qi21
                 try clear hx11_0
                 try clear hx19_0
                 try clear hx207_0
                 try clear hx212_0
                 try clear hx216_0
                 obtain ⟨x5_4, x9_4, x50_4, rfl, HA, HK4, HO_5, HO_9, HB⟩ := hrel
                 have hl5_4 := (Kd.R_reads' HO_5.out).1
                 rw [hl5_4] at HO_5
                 (try simp only [hl5_4])
                 (try simp only [hl5_4] at HO_9)
                 cases gk with
                 | zero => exact absurd HA.out (by simp [spec_l11Far.l3])
                 | succ k4 =>
                  have H := HA.out
                  clear HA
                  simp only [spec_l11Far.l3] at H
                  by_cases c31 : x50_4 < ((rd_L1 l0 (rd x9_3 0)).length : Int)
                  ·rw [if_pos c31] at H
                   have c31b0 := decide_eq_true c31
                   clear c31
                   by_cases c32 : 0 ≤ x50_4
                   ·rw [if_pos c32] at H
                    replace c32 := decide_eq_true c32
                    by_cases c33 : x50_4 < ((rd_L1 l0 (rd x9_3 0)).length : Int)
                    ·rw [if_pos c33] at H
                     replace c33 := decide_eq_true c33
                     by_cases c34 : 0 ≤ (rd (rd_L1 l0 (rd x9_3 0)) x50_4)
                     ·rw [if_pos c34] at H
                      replace c34 := decide_eq_true c34
                      by_cases c35 : (rd (rd_L1 l0 (rd x9_3 0)) x50_4) < (x5_4.length : Int)
                      ·rw [if_pos c35] at H
                       replace c35 := decide_eq_true c35
                       by_cases c36 : (rd x5_4 (rd (rd_L1 l0 (rd x9_3 0)) x50_4)) < 0
                       ·rw [if_pos c36] at H
                        replace c36 := decide_eq_true c36
                        by_cases c37 : 0 ≤ (rd x9_3 0)
                        ·rw [if_pos c37] at H
                         replace c37 := decide_eq_true c37
                         by_cases c38 : (rd x9_3 0) < (x5_4.length : Int)
                         ·rw [if_pos c38] at H
                          replace c38 := decide_eq_true c38
                          obtain ⟨y220, hy220⟩ : ∃ y_ : List Int, y_ = (x5_4.set ((rd (rd_L1 l0 (rd x9_3 0)) x50_4) : Int).toNat (wrap64 ((rd x5_4 (rd x9_3 0)) + 1))) := ⟨_, rfl⟩
                          replace H : (if x9_4.length < 17592186044416 then (spec_l11Far.l3 k4 l0 y220 (x9_4 ++ [rd (rd_L1 l0 (rd x9_3 0)) x50_4]) (rd x9_3 0) (rd_L1 l0 (rd x9_3 0)) ((rd_L1 l0 (rd x9_3 0)).length : Int) (wrap64 (x50_4 + 1))) else (none)) = some r := by first | (rw [hy220]; with_reducible exact H) | (have H2_ := (Option.bind_some _ _).symm.trans H; rw [hy220]; with_reducible exact H2_) | (have H2_ := (Option.bind_some _ _).symm.trans H; with_reducible exact H2_) | with_reducible exact H | (rw [hy220]; exact H) | exact H
                          have Ny220 := am_ hy220
                          clear hy220
                          by_cases c40 : x9_4.length < 17592186044416
                          ·rw [if_pos c40] at H
                           have LMc40 := am_ c40
                           clear c40
                           obtain ⟨y221, hy221⟩ : ∃ y_ : List Int, y_ = (x9_4 ++ [rd (rd_L1 l0 (rd x9_3 0)) x50_4]) := ⟨_, rfl⟩
                           replace H : (spec_l11Far.l3 k4 l0 y220 y221 (rd x9_3 0) (rd_L1 l0 (rd x9_3 0)) ((rd_L1 l0 (rd x9_3 0)).length : Int) (wrap64 (x50_4 + 1))) = some r := by first | (rw [hy221]; with_reducible exact H) | (have H2_ := (Option.bind_some _ _).symm.trans H; rw [hy221]; with_reducible exact H2_) | (have H2_ := (Option.bind_some _ _).symm.trans H; with_reducible exact H2_) | with_reducible exact H | (rw [hy221]; exact H) | exact H
                           have Ny221 := am_ hy221
                           clear hy221
                           have H' := am_ H
                           clear H
                           have p217 : 0 ≤ (x50_4 : Int) := Sh.od
                           have q217 : x50_4 < ((rd_L1 l0 (rd x9_3 0)).length : Int) := Sh.od
                           obtain ⟨ad217, e217, hx217_0⟩ := Kd.at_int HR216_0.out x50_4 p217 q217
                           cases e217
                           try replace hx217_0 := Sh.cw hx217_0
                           replace p217 := eq_true p217
                           replace q217 := eq_true q217
                           have p218 : 0 ≤ ((rd (rd_L1 l0 (rd x9_3 0)) x50_4) : Int) := Sh.od
                           have q218 : (rd (rd_L1 l0 (rd x9_3 0)) x50_4) < (x5_4.length : Int) := Sh.od
                           obtain ⟨ad218, e218, hx218_0⟩ := Kd.at_int (Kd.R_reads' HO_5.out).2.2 (rd (rd_L1 l0 (rd x9_3 0)) x50_4) p218 q218
                           cases e218
                           replace p218 := eq_true p218
                           replace q218 := eq_true q218
                           have p219 : 0 ≤ ((rd x9_3 0) : Int) := Sh.od
                           have q219 : (rd x9_3 0) < (x5_4.length : Int) := Sh.od
                           obtain ⟨ad219, e219, hx219_0⟩ := Kd.at_int (Kd.R_reads' HO_5.out).2.2 (rd x9_3 0) p219 q219
                           obtain rfl : ad218 = ad219 := (by injection e219)
                           replace p219 := eq_true p219
                           replace q219 := eq_true q219
                           have p39 : 0 ≤ ((rd (rd_L1 l0 (rd x9_3 0)) x50_4) : Int) := Sh.od
                           have q39 : ((rd (rd_L1 l0 (rd x9_3 0)) x50_4) : Int) < ((x5_4.length : Int) : Int) := Sh.od
                           obtain ⟨go39, co39, eo39, gb39, gl39, cl39, HG39⟩ := Kd.R_form HO_5.out (by omega)
                           (first | cases eo39 | (injection eo39 with ea_ en_ ec_; (first | subst ea_ | (injection ea_ with ea_; subst ea_)); subst ec_; clear en_))
                           have GB39 := am_ gb39
                           have GG39 := am_ HG39
                           clear gb39 gl39 HG39
                           (first | simp only [add_plain] at hx218_0 | skip)
                           (first | simp only [add_plain] at hx219_0 | skip)
                           obtain ⟨hx39_0, hf39_0⟩ := Kd.R_celln 0 HO_5.out ((rd (rd_L1 l0 (rd x9_3 0)) x50_4) : Int) p39 q39
                           replace p39 := eq_true p39
                           replace q39 := eq_true q39
                           have HP41 := Kd.R_putg HO_5.out ((rd (rd_L1 l0 (rd x9_3 0)) x50_4) : Int) (wrap64 ((rd x5_4 (rd x9_3 0)) + 1))
                           go_wp2_with (first | ((with_reducible refine gate_store (t := 3) (p := 66) rfl ?_); refine store_event (t := 3) (p := 66) (v := ?vo_w42) (w1 := (wr.setCell ⟨go39, ((rd (rd_L1 l0 (rd x9_3 0)) x50_4) : Int).toNat, none⟩ (.int .i64 (wrap64 ((rd x5_4 (rd x9_3 0)) + 1))))) ?hg ?ho ?hn ?hr ?_; (case ho => rfl); (case hg => rfl); (case hn => rfl); (case hr => first | (go_simp; done) | (go_simp; rfl)); intro w42 hw; have hg : wr.grownBy w42 (some go39) := (by rw [hw]; exact HP41.2); have hp_ : Kd.R (Kd.int .i64) 3 w42 w.heap.size (fun k_ => some k_ ≠ (u9 : Value).ownBlock) (.slice (some ⟨go39, 0, none⟩) x5_4.length co7) y220 := (by rw [hw, Ny220.out]; exact HP41.1); clear HP41; replace HO_5 := am_ hp_; replace HO_9 := am_ (Kd.Q_after (v := (.slice (some ⟨go39, 0, none⟩) x5_4.length co7)) (v1 := (.slice (some ⟨go39, 0, none⟩) x5_4.length co7)) (ok := (fun _ => True)) (by (with_reducible repeat (first | apply Kd.Q_alloc | apply Kd.Q_drewN | apply Kd.Q_drew)); exact Kd.Q_mono HO_9.out (fun _ hk => ⟨trivial, hk⟩)) hg (.inl rfl)); replace HB := am_ ((by rw [hw]; exact below_set (HB.out) GB39.out : Below w.heap.size w w42)); clear hg hw hp_) | ((with_reducible refine gate_builtin (b := .append) (xs := #[.tmp 67, .tmp 69]) rfl ?_); at_builtin; refine Kd.Q_append (Kd.int .i64) (w0 := w) w.heap.size rfl (.tmp 67) (.tmp 69) 26 3 (.int .i64 0) 8 rfl Try.underlying26 info3 rfl (by decide) (by omega) u9 x9_4 (rd (rd_L1 l0 (rd x9_3 0)) x50_4) [.int .i64 (rd (rd_L1 l0 (rd x9_3 0)) x50_4)] (fun k_ => some k_ ≠ (.slice (some ⟨go39, 0, none⟩) x5_4.length co7 : Value).ownBlock) (fun _ => False) rfl rfl ?aP (fun _ hk => hk.elim) ?aF ?aO ?aB ?aS ?aL ?_; (case aP => exact rfl); (case aB => exact Sh.bw); (case aF => exact (fun k_ hk => Kd.fresh' (Kd.R_lt (Sh.rl HO_5.out)) k_ hk)); (case aO => exact (by (with_reducible repeat (first | apply Kd.Q_alloc | apply Kd.Q_drewN | apply Kd.Q_drew)); exact Kd.Q_mono HO_9.out (fun _ hk => hk.2))); (case aS => exact (below_size Sh.bw)); (case aL => have := LMc40.out; omega); intro v222 w43 ho hb hg hat; rw [← Ny221.out] at ho; have n0_ := am_ (Kd.R_after (ok := (fun _ => True)) (Sh.rl (Kd.R_mono HO_5.out (fun _ hk => ⟨trivial, hk⟩))) hg hat); have n1_ := am_ hb; have n2_ := am_ ho; clear HO_5; clear HB; clear HO_9; have HO_5 := n0_; have HB := n1_; have HO223 := n2_; clear n0_ n1_ n2_; clear ho hb hg hat))
                           (try simp only [← hl5_4])
                           go_roundg k4
                           case measure => have := HK1.out; have := HK2.out; have := HK3.out; have := HK4.out; omega
                           case rel => exact ⟨(y220), (y221), (wrap64 (x50_4 + 1)), (Sh.es), H', ⟨by have := HK1.out; have := HK2.out; have := HK3.out; have := HK4.out; omega⟩, ⟨by (try simp only [hl5_1]); (try simp only [hl5_2]); (try simp only [hl5_3]); (try simp only [hl5_4]); (with_reducible repeat (first | apply Kd.R_alloc | apply Kd.R_drewN | apply Kd.R_drew)); exact Kd.R_mono HO_5.out (fun _ hk => hk.2)⟩, ⟨by (try simp only [hl5_1]); (try simp only [hl5_2]); (try simp only [hl5_3]); (try simp only [hl5_4]); (with_reducible repeat (first | apply Kd.Q_alloc | apply Kd.Q_drewN | apply Kd.Q_drew)); exact HO223.out⟩, ⟨Sh.bw⟩⟩
                          ·rw [if_neg c40] at H
                           cases H
                         ·rw [if_neg c38] at H
                          cases H
                        ·rw [if_neg c37] at H
                         cases H
                       ·rw [if_neg c36] at H
                        replace c36 := decide_eq_false c36
                        have H' := am_ H
                        clear H
                        have p217 : 0 ≤ (x50_4 : Int) := Sh.od
                        have q217 : x50_4 < ((rd_L1 l0 (rd x9_3 0)).length : Int) := Sh.od
                        obtain ⟨ad217, e217, hx217_0⟩ := Kd.at_int HR216_0.out x50_4 p217 q217
                        cases e217
                        try replace hx217_0 := Sh.cw hx217_0
                        replace p217 := eq_true p217
                        replace q217 := eq_true q217
                        have p218 : 0 ≤ ((rd (rd_L1 l0 (rd x9_3 0)) x50_4) : Int) := Sh.od
                        have q218 : (rd (rd_L1 l0 (rd x9_3 0)) x50_4) < (x5_4.length : Int) := Sh.od
                        obtain ⟨ad218, e218, hx218_0⟩ := Kd.at_int (Kd.R_reads' HO_5.out).2.2 (rd (rd_L1 l0 (rd x9_3 0)) x50_4) p218 q218
                        cases e218
                        replace p218 := eq_true p218
                        replace q218 := eq_true q218
                        go_wp2
                        (try simp only [← hl5_4])
                        go_roundg k4
                        case measure => have := HK1.out; have := HK2.out; have := HK3.out; have := HK4.out; omega
                        case rel => exact ⟨(x5_4), (x9_4), (wrap64 (x50_4 + 1)), (Sh.es), H', ⟨by have := HK1.out; have := HK2.out; have := HK3.out; have := HK4.out; omega⟩, ⟨by (try simp only [hl5_1]); (try simp only [hl5_2]); (try simp only [hl5_3]); (try simp only [hl5_4]); (with_reducible repeat (first | apply Kd.R_alloc | apply Kd.R_drewN | apply Kd.R_drew)); exact HO_5.out⟩, ⟨by (try simp only [hl5_1]); (try simp only [hl5_2]); (try simp only [hl5_3]); (try simp only [hl5_4]); (with_reducible repeat (first | apply Kd.Q_alloc | apply Kd.Q_drewN | apply Kd.Q_drew)); exact HO_9.out⟩, ⟨Sh.bw⟩⟩
                      ·rw [if_neg c35] at H
                       cases H
                     ·rw [if_neg c34] at H
                      cases H
                    ·rw [if_neg c33] at H
                     cases H
                   ·rw [if_neg c32] at H
                    cases H
                  ·rw [if_neg c31] at H
                   have c31b0 := decide_eq_false c31
                   (try simp only [hl5_1] at c31b0)
                   (try simp only [hl5_2] at c31b0)
                   (try simp only [hl5_3] at c31b0)
                   (try simp only [hl5_4] at c31b0)
                   clear c31
                   have H' := am_ H
                   clear H
                   go_wp2
                   (try simp only [← hl5_3, ← hl5_4])
                   go_roundg k4
                   case measure => have := HK1.out; have := HK2.out; have := HK3.out; have := HK4.out; omega
                   case rel => exact ⟨(x5_4), (x9_4), H', ⟨by have := HK1.out; have := HK2.out; have := HK3.out; have := HK4.out; omega⟩, ⟨by (try simp only [hl5_1]); (try simp only [hl5_2]); (try simp only [hl5_3]); (try simp only [hl5_4]); (with_reducible repeat (first | apply Kd.R_alloc | apply Kd.R_drewN | apply Kd.R_drew)); exact HO_5.out⟩, ⟨by (try simp only [hl5_1]); (try simp only [hl5_2]); (try simp only [hl5_3]); (try simp only [hl5_4]); (with_reducible repeat (first | apply Kd.Q_alloc | apply Kd.Q_drewN | apply Kd.Q_drew)); exact HO_9.out⟩, ⟨Sh.bw⟩⟩
               ·rw [if_neg c28] at H
                cases H
              ·rw [if_neg c27] at H
               cases H
             ·rw [if_neg c26] at H
              cases H
            ·rw [if_neg c25] at H
             cases H
           ·rw [if_neg c24] at H
            have c24b0 : decide (0 < (x9_3.length : Int)) = false := decide_eq_false c24
            (try simp only [hl5_1] at c24b0)
            (try simp only [hl5_2] at c24b0)
            (try simp only [hl5_3] at c24b0)
            have c24b1 : decide (0 < x9_3.length) = false := decide_eq_false (by omega)
            clear c24
            obtain rfl := Option.some.inj H
            obtain ⟨Ao44, co44, eo44, _⟩ := Kd.Q_slice HO_9.out
            subst eo44
            go_wp2
            go_ret
            exact ⟨_, Sh.eR, Sh.rl (Kd.R_mono HO_5.out (fun _ hk => trivial)), Sh.bw⟩
  ·rw [if_neg c4] at H
   cases H
 ·rw [if_neg c3] at H
  cases H
mutual
def spec_l11Path.l0 : Nat → List (List Int) → List Int → Int → List Int → Int → Int → Option (List Int × Bool)
 | 0, _, _, _, _, _, _ => none
 | k + 1, x0, x8, x9, x19, x20, x21 => if x21 < x20 then (if 0 ≤ x21 then (if x21 < (x19.length : Int) then (if 0 ≤ (rd x19 x21) then (if (rd x19 x21) < (x8.length : Int) then (if (rd x8 (rd x19 x21)) ≥ 0 then (if x9 < 0 then (spec_l11Path.l0 k x0 x8 (rd x19 x21) x19 x20 (wrap64 (x21 + 1))) else (if 0 ≤ x9 then (if x9 < (x8.length : Int) then (if (rd x8 (rd x19 x21)) < (rd x8 x9) then (spec_l11Path.l0 k x0 x8 (rd x19 x21) x19 x20 (wrap64 (x21 + 1))) else (spec_l11Path.l0 k x0 x8 x9 x19 x20 (wrap64 (x21 + 1)))) else (none)) else (none))) else (spec_l11Path.l0 k x0 x8 x9 x19 x20 (wrap64 (x21 + 1)))) else (none)) else (none)) else (none)) else (none)) else (if x9 < 0 then (some (([] : List Int), false)) else (spec_l11Path.l1 k x0 x8 x9 (([x9] : List Int))))
def spec_l11Path.l1 : Nat → List (List Int) → List Int → Int → List Int → Option (List Int × Bool)
 | 0, _, _, _, _ => none
 | k + 1, x0, x8, x9, x12 => if 0 ≤ x9 then (if x9 < (x8.length : Int) then (if (rd x8 x9) > 0 then (if x9 < (x0.length : Int) then (spec_l11Path.l2 k x0 x8 x9 x12 (rd_L1 x0 x9) ((rd_L1 x0 x9).length : Int) 0) else (none)) else (some (x12, true))) else (none)) else (none)
def spec_l11Path.l2 : Nat → List (List Int) → List Int → Int → List Int → List Int → Int → Int → Option (List Int × Bool)
 | 0, _, _, _, _, _, _, _ => none
 | k + 1, x0, x8, x9, x12, x59, x60, x61 => if x61 < x60 then (if 0 ≤ x61 then (if x61 < (x59.length : Int) then (if 0 ≤ (rd x59 x61) then (if (rd x59 x61) < (x8.length : Int) then (if 0 ≤ x9 then (if x9 < (x8.length : Int) then (if (rd x8 (rd x59 x61)) = (wrap64 ((rd x8 x9) - 1)) then (if x12.length < 17592186044416 then (spec_l11Path.l1 k x0 x8 (rd x59 x61) (x12 ++ [rd x59 x61])) else (none)) else (spec_l11Path.l2 k x0 x8 x9 x12 x59 x60 (wrap64 (x61 + 1)))) else (none)) else (none)) else (none)) else (none)) else (none)) else (none)) else (if x12.length < 17592186044416 then (spec_l11Path.l1 k x0 x8 x9 (x12 ++ [x9])) else (none))
end
def spec_l11Path.f (k : Nat) (l0 : List (List Int)) (l1 : List Int) (l2 : List Int) : Option (List Int × Bool) := (spec_l11Turn.f k l0).bind fun t224 => ((spec_l11Far.f k t224 l2).bind fun t227 => (spec_l11Path.l0 k l0 t227 (-1) l1 (l1.length : Int) 0))
theorem spec_l11Path.mono_l : ∀ k, (∀ y0 y1 y2 y3 y4 y5, LeO (spec_l11Path.l0 k y0 y1 y2 y3 y4 y5) (spec_l11Path.l0 (k + 1) y0 y1 y2 y3 y4 y5)) ∧ (∀ y0 y1 y2 y3, LeO (spec_l11Path.l1 k y0 y1 y2 y3) (spec_l11Path.l1 (k + 1) y0 y1 y2 y3)) ∧ (∀ y0 y1 y2 y3 y4 y5 y6, LeO (spec_l11Path.l2 k y0 y1 y2 y3 y4 y5 y6) (spec_l11Path.l2 (k + 1) y0 y1 y2 y3 y4 y5 y6))
 | 0 => ⟨fun _ _ _ _ _ _ r h => by simp [spec_l11Path.l0] at h, fun _ _ _ _ r h => by simp [spec_l11Path.l1] at h, fun _ _ _ _ _ _ _ r h => by simp [spec_l11Path.l2] at h⟩
 | k + 1 => by
  obtain ⟨ih0, ih1, ih2⟩ := spec_l11Path.mono_l k
  and_intros <;> intros
  all_goals (first | unfold spec_l11Path.l0 | unfold spec_l11Path.l1 | unfold spec_l11Path.l2)
  all_goals repeat' with_reducible first | apply ih0 | apply ih1 | apply ih2 | apply spec_l11Far.mono | apply spec_l11Turn.mono | exact LeO.refl _ | exact LeO.none _ | apply LeO.ite | refine LeO.bind ?_ fun _ => ?_
theorem spec_l11Path.mono : ∀ a0 a1 a2 k, LeO (spec_l11Path.f k a0 a1 a2) (spec_l11Path.f (k + 1) a0 a1 a2) := by
 intro a0 a1 a2 k
 obtain ⟨ih0, ih1, ih2⟩ := spec_l11Path.mono_l k
 unfold spec_l11Path.f
 repeat' with_reducible first | apply ih0 | apply ih1 | apply ih2 | apply spec_l11Far.mono | apply spec_l11Turn.mono | exact LeO.refl _ | exact LeO.none _ | apply LeO.ite | refine LeO.bind ?_ fun _ => ?_
theorem spec_l11Path.calls (k : Nat) (A0 : Option Addr) (c0 : Nat) (l0 : List (List Int)) (A1 : Option Addr) (c1 : Nat) (l1 : List Int) (A2 : Option Addr) (c2 : Nat) (l2 : List Int) (r1 : List Int) (r2 : Bool) (w : World) (hr0 : Kd.C (Kd.slice 3 (Kd.int .i64)) w A0 l0.length l0) (hc0 : l0.length ≤ c0) (hr1 : Kd.C (Kd.int .i64) w A1 l1.length l1) (hc1 : l1.length ≤ c1) (hr2 : Kd.C (Kd.int .i64) w A2 l2.length l2) (hc2 : l2.length ≤ c2) (h : spec_l11Path.f k l0 l1 l2 = some (r1, r2)) :
  Calls Try.prog 59 #[.slice A0 l0.length c0, .slice A1 l1.length c1, .slice A2 l2.length c2] w fun e w' => ∃ v0_ : Value, e = .returned (.tuple #[v0_, .bool r2]) ∧ Kd.R (Kd.int .i64) 3 w' w.heap.size (fun _ => True) v0_ r1 ∧ Below w.heap.size w w' := by
 have HR0 := am_ hr0
 have HC0 := am_ hc0
 clear hr0 hc0
 have HR1 := am_ hr1
 have HC1 := am_ hc1
 clear hr1 hc1
 have HR2 := am_ hr2
 have HC2 := am_ hc2
 clear hr2 hc2
 have HB := am_ (Below.refl w.heap.size w)
 have H := h
 clear h
 unfold spec_l11Path.f at H
 obtain ⟨t224, A4, H⟩ := Sh.ba H
 obtain ⟨t227, A5, H⟩ := Sh.ba H
 have H' := am_ H
 clear H
 go_enter Try.func59, Try.ntmps59
 go_wp2_with (first | (go_at_call 37; (with_reducible refine (spec_l11Turn.calls k _ _ l0 t224 _ ?side1 ?side2 A4.out).mono ?_); (case side1 => repeat (first | exact HR0.out | (with_reducible first | refine Kd.C_alloc ?_ _ | refine Kd.C_drewN ?_ _ | refine Kd.C_drew ?_))); (case side2 => exact HC0.out); rintro e w6 ⟨v225, rfl, ho0, hb⟩; have HO226 := am_ (Kd.S_lower ho0 (below_size Sh.bw)); replace HB := Sh.hb hb; (try clear hb); (try clear hk); (try clear ho0); obtain ⟨Ao7, co7, eo7⟩ := Kd.S_slice HO226.out; subst eo7) | (go_at_call 50; (with_reducible refine (spec_l11Far.calls k _ _ t224 _ _ l2 t227 _ (Sh.cR (Kd.S_reads' HO226.out).2.2) (Kd.S_reads' HO226.out).2.1 (Sh.cB HR2.out) HC2.out A5.out).mono ?_); rintro e w8 ⟨v228, rfl, ho0, hb⟩; replace HO226 := am_ (Kd.S_elder' (by (with_reducible repeat (first | apply Kd.S_alloc | apply Kd.S_drewN | apply Kd.S_drew)); exact HO226.out) (Kd.R_base ho0) hb); have HO229 := am_ (Kd.R_lower ho0 (below_size Sh.bw)); replace HB := Sh.hb hb; (try clear hb); (try clear ho0)))
 repeat (go_quiet (first | (go_at_call 37; (with_reducible refine (spec_l11Turn.calls k _ _ l0 t224 _ ?side1 ?side2 A4.out).mono ?_); (case side1 => repeat (first | exact HR0.out | (with_reducible first | refine Kd.C_alloc ?_ _ | refine Kd.C_drewN ?_ _ | refine Kd.C_drew ?_))); (case side2 => exact HC0.out); rintro e w6 ⟨v225, rfl, ho0, hb⟩; have HO226 := am_ (Kd.S_lower ho0 (below_size Sh.bw)); replace HB := Sh.hb hb; (try clear hb); (try clear ho0); obtain ⟨Ao7, co7, eo7⟩ := Kd.S_slice HO226.out; subst eo7) | (go_at_call 50; (with_reducible refine (spec_l11Far.calls k _ _ t224 _ _ l2 t227 _ (Sh.cR (Kd.S_reads' HO226.out).2.2) (Kd.S_reads' HO226.out).2.1 (Sh.cB HR2.out) HC2.out A5.out).mono ?_); rintro e w8 ⟨v228, rfl, ho0, hb⟩; replace HO226 := am_ (Kd.S_elder' (by (with_reducible repeat (first | apply Kd.S_alloc | apply Kd.S_drewN | apply Kd.S_drew)); exact HO226.out) (Kd.R_base ho0) hb); have HO229 := am_ (Kd.R_lower ho0 (below_size Sh.bw)); replace HB := Sh.hb hb; (try clear hb); (try clear ho0))); try go_wp2_with (first | (go_at_call 37; (with_reducible refine (spec_l11Turn.calls k _ _ l0 t224 _ ?side1 ?side2 A4.out).mono ?_); (case side1 => repeat (first | exact HR0.out | (with_reducible first | refine Kd.C_alloc ?_ _ | refine Kd.C_drewN ?_ _ | refine Kd.C_drew ?_))); (case side2 => exact HC0.out); rintro e w6 ⟨v225, rfl, ho0, hb⟩; have HO226 := am_ (Kd.S_lower ho0 (below_size Sh.bw)); replace HB := Sh.hb hb; (try clear hb); (try clear ho0); obtain ⟨Ao7, co7, eo7⟩ := Kd.S_slice HO226.out; subst eo7) | (go_at_call 50; (with_reducible refine (spec_l11Far.calls k _ _ t224 _ _ l2 t227 _ (Sh.cR (Kd.S_reads' HO226.out).2.2) (Kd.S_reads' HO226.out).2.1 (Sh.cB HR2.out) HC2.out A5.out).mono ?_); rintro e w8 ⟨v228, rfl, ho0, hb⟩; replace HO226 := am_ (Kd.S_elder' (by (with_reducible repeat (first | apply Kd.S_alloc | apply Kd.S_drewN | apply Kd.S_drew)); exact HO226.out) (Kd.R_base ho0) hb); have HO229 := am_ (Kd.R_lower ho0 (below_size Sh.bw)); replace HB := Sh.hb hb; (try clear hb); (try clear ho0))))
 go_loopg [9, 21] k (fun kq v9 v21 w' => ∃ (x9_1 : Int) (x21_1 : Int), v9 = .int .i64 x9_1 ∧ v21 = .int .i64 x21_1 ∧ Aside0 (spec_l11Path.l0 kq l0 t227 x9_1 l1 (l1.length : Int) x21_1 = some (r1, r2)) ∧ Aside0 (kq ≤ k) ∧ Aside0 (Kd.R (Kd.int .i64) 3 w' w.heap.size (fun _ => True) v228 t227) ∧ Aside0 (Below w.heap.size w w'))
 case atStart => exact ⟨((-1)), (0), (Sh.es), (Sh.es), H', ⟨Nat.le_refl _⟩, ⟨Sh.rl HO229.out⟩, ⟨Sh.bw⟩⟩
 case round =>
  clear H'
  obtain ⟨x9_1, x21_1, rfl, rfl, HA, HK1, HO_8, HB⟩ := hrel
  cases gk with
  | zero => exact absurd HA.out (by simp [spec_l11Path.l0])
  | succ k1 =>
   have H := HA.out
   clear HA
   simp only [spec_l11Path.l0] at H
   by_cases c9 : x21_1 < (l1.length : Int)
   ·rw [if_pos c9] at H
    replace c9 := decide_eq_true c9
    by_cases c10 : 0 ≤ x21_1
    ·rw [if_pos c10] at H
     replace c10 := decide_eq_true c10
     by_cases c11 : x21_1 < (l1.length : Int)
     ·rw [if_pos c11] at H
      replace c11 := decide_eq_true c11
      by_cases c12 : 0 ≤ (rd l1 x21_1)
      ·rw [if_pos c12] at H
       replace c12 := decide_eq_true c12
       by_cases c13 : (rd l1 x21_1) < (t227.length : Int)
       ·rw [if_pos c13] at H
        replace c13 := decide_eq_true c13
        by_cases c14 : (rd t227 (rd l1 x21_1)) ≥ 0
        ·rw [if_pos c14] at H
         have c14b0 : decide (0 ≤ (rd t227 (rd l1 x21_1))) = true := decide_eq_true c14
         clear c14
         by_cases c15 : x9_1 < 0
         ·rw [if_pos c15] at H
          replace c15 := decide_eq_true c15
          have H' := am_ H
          clear H
          have p230 : 0 ≤ (x21_1 : Int) := Sh.od
          have q230 : x21_1 < (l1.length : Int) := Sh.od
          obtain ⟨ad230, e230, hx230_0⟩ := Kd.at_int HR1.out x21_1 p230 q230
          cases e230
          try replace hx230_0 := Sh.cw hx230_0
          replace p230 := eq_true p230
          replace q230 := eq_true q230
          obtain ⟨Ao16, co16, eo16⟩ := Kd.R_slice HO_8.out
          subst eo16
          have p231 : 0 ≤ ((rd l1 x21_1) : Int) := Sh.od
          have q231 : (rd l1 x21_1) < (t227.length : Int) := Sh.od
          obtain ⟨ad231, e231, hx231_0⟩ := Kd.at_int (Kd.R_reads' HO_8.out).2.2 (rd l1 x21_1) p231 q231
          cases e231
          replace p231 := eq_true p231
          replace q231 := eq_true q231
          go_wp2
          repeat (go_quiet (fail); try go_wp2)
          go_roundg k1
          case measure => have := HK1.out; omega
          case rel => exact ⟨(rd l1 x21_1), (wrap64 (x21_1 + 1)), (Sh.es), (Sh.es), H', ⟨by have := HK1.out; omega⟩, ⟨Sh.rl HO_8.out⟩, ⟨Sh.bw⟩⟩
         ·rw [if_neg c15] at H
          replace c15 := decide_eq_false c15
          by_cases c17 : 0 ≤ x9_1
          ·rw [if_pos c17] at H
           replace c17 := decide_eq_true c17
           by_cases c18 : x9_1 < (t227.length : Int)
           ·rw [if_pos c18] at H
            replace c18 := decide_eq_true c18
            by_cases c19 : (rd t227 (rd l1 x21_1)) < (rd t227 x9_1)
            ·rw [if_pos c19] at H
             replace c19 := decide_eq_true c19
             have H' := am_ H
             clear H
             have p230 : 0 ≤ (x21_1 : Int) := Sh.od
             have q230 : x21_1 < (l1.length : Int) := Sh.od
             obtain ⟨ad230, e230, hx230_0⟩ := Kd.at_int HR1.out x21_1 p230 q230
             cases e230
             try replace hx230_0 := Sh.cw hx230_0
             replace p230 := eq_true p230
             replace q230 := eq_true q230
             obtain ⟨Ao20, co20, eo20⟩ := Kd.R_slice HO_8.out
             subst eo20
             have p231 : 0 ≤ ((rd l1 x21_1) : Int) := Sh.od
             have q231 : (rd l1 x21_1) < (t227.length : Int) := Sh.od
             obtain ⟨ad231, e231, hx231_0⟩ := Kd.at_int (Kd.R_reads' HO_8.out).2.2 (rd l1 x21_1) p231 q231
             cases e231
             replace p231 := eq_true p231
             replace q231 := eq_true q231
             have p232 : 0 ≤ ((rd l1 x21_1) : Int) := Sh.od
             have q232 : (rd l1 x21_1) < (t227.length : Int) := Sh.od
             obtain ⟨ad232, e232, hx232_0⟩ := Kd.at_int (Kd.R_reads' HO_8.out).2.2 (rd l1 x21_1) p232 q232
             obtain rfl : ad231 = ad232 := (by injection e232)
             replace p232 := eq_true p232
             replace q232 := eq_true q232
             have p233 : 0 ≤ (x9_1 : Int) := Sh.od
             have q233 : x9_1 < (t227.length : Int) := Sh.od
             obtain ⟨ad233, e233, hx233_0⟩ := Kd.at_int (Kd.R_reads' HO_8.out).2.2 x9_1 p233 q233
             obtain rfl : ad231 = ad233 := (by injection e233)
             replace p233 := eq_true p233
             replace q233 := eq_true q233
             go_wp2
             repeat (go_quiet (fail); try go_wp2)
             go_roundg k1
             case measure => have := HK1.out; omega
             case rel => exact ⟨(rd l1 x21_1), (wrap64 (x21_1 + 1)), (Sh.es), (Sh.es), H', ⟨by have := HK1.out; omega⟩, ⟨Sh.rl HO_8.out⟩, ⟨Sh.bw⟩⟩
            ·rw [if_neg c19] at H
             replace c19 := decide_eq_false c19
             have H' := am_ H
             clear H
             have p230 : 0 ≤ (x21_1 : Int) := Sh.od
             have q230 : x21_1 < (l1.length : Int) := Sh.od
             obtain ⟨ad230, e230, hx230_0⟩ := Kd.at_int HR1.out x21_1 p230 q230
             cases e230
             try replace hx230_0 := Sh.cw hx230_0
             replace p230 := eq_true p230
             replace q230 := eq_true q230
             obtain ⟨Ao21, co21, eo21⟩ := Kd.R_slice HO_8.out
             subst eo21
             have p231 : 0 ≤ ((rd l1 x21_1) : Int) := Sh.od
             have q231 : (rd l1 x21_1) < (t227.length : Int) := Sh.od
             obtain ⟨ad231, e231, hx231_0⟩ := Kd.at_int (Kd.R_reads' HO_8.out).2.2 (rd l1 x21_1) p231 q231
             cases e231
             replace p231 := eq_true p231
             replace q231 := eq_true q231
             have p232 : 0 ≤ ((rd l1 x21_1) : Int) := Sh.od
             have q232 : (rd l1 x21_1) < (t227.length : Int) := Sh.od
             obtain ⟨ad232, e232, hx232_0⟩ := Kd.at_int (Kd.R_reads' HO_8.out).2.2 (rd l1 x21_1) p232 q232
             obtain rfl : ad231 = ad232 := (by injection e232)
             replace p232 := eq_true p232
             replace q232 := eq_true q232
             have p233 : 0 ≤ (x9_1 : Int) := Sh.od
             have q233 : x9_1 < (t227.length : Int) := Sh.od
             obtain ⟨ad233, e233, hx233_0⟩ := Kd.at_int (Kd.R_reads' HO_8.out).2.2 x9_1 p233 q233
             obtain rfl : ad231 = ad233 := (by injection e233)
             replace p233 := eq_true p233
             replace q233 := eq_true q233
             go_wp2
             repeat (go_quiet (fail); try go_wp2)
             go_roundg k1
             case measure => have := HK1.out; omega
             case rel => exact ⟨(x9_1), (wrap64 (x21_1 + 1)), (Sh.es), (Sh.es), H', ⟨by have := HK1.out; omega⟩, ⟨Sh.rl HO_8.out⟩, ⟨Sh.bw⟩⟩
           ·rw [if_neg c18] at H
            cases H
          ·rw [if_neg c17] at H
           cases H
        ·rw [if_neg c14] at H
         have c14b0 : decide (0 ≤ (rd t227 (rd l1 x21_1))) = false := decide_eq_false c14
         clear c14
         have H' := am_ H
         clear H
         have p230 : 0 ≤ (x21_1 : Int) := Sh.od
         have q230 : x21_1 < (l1.length : Int) := Sh.od
         obtain ⟨ad230, e230, hx230_0⟩ := Kd.at_int HR1.out x21_1 p230 q230
         cases e230
         try replace hx230_0 := Sh.cw hx230_0
         replace p230 := eq_true p230
         replace q230 := eq_true q230
         obtain ⟨Ao22, co22, eo22⟩ := Kd.R_slice HO_8.out
         subst eo22
         have p231 : 0 ≤ ((rd l1 x21_1) : Int) := Sh.od
         have q231 : (rd l1 x21_1) < (t227.length : Int) := Sh.od
         obtain ⟨ad231, e231, hx231_0⟩ := Kd.at_int (Kd.R_reads' HO_8.out).2.2 (rd l1 x21_1) p231 q231
         cases e231
         replace p231 := eq_true p231
         replace q231 := eq_true q231
         go_wp2
         repeat (go_quiet (fail); try go_wp2)
         go_roundg k1
         case measure => have := HK1.out; omega
         case rel => exact ⟨(x9_1), (wrap64 (x21_1 + 1)), (Sh.es), (Sh.es), H', ⟨by have := HK1.out; omega⟩, ⟨Sh.rl HO_8.out⟩, ⟨Sh.bw⟩⟩
       ·rw [if_neg c13] at H
        cases H
      ·rw [if_neg c12] at H
       cases H
     ·rw [if_neg c11] at H
      cases H
    ·rw [if_neg c10] at H
     cases H
   ·rw [if_neg c9] at H
    replace c9 := decide_eq_false c9
    by_cases c23 : x9_1 < 0
    ·rw [if_pos c23] at H
     replace c23 := decide_eq_true c23
     obtain ⟨rfl, rfl⟩ := Prod.mk.inj (Option.some.inj H)
     go_wp2
     repeat (go_quiet (fail); try go_wp2)
     go_ret2
     exact ⟨_, Sh.eR, by first | exact Kd.R_nil _ _ _ _ _ | exact Kd.N_nil _ _ _ _ _ | exact Kd.V_nil _ _ _ _ _ | exact Kd.Q_nil _ _ _ _ _ | exact Kd.S_nil _ _ _ _ _, Sh.bw⟩
    ·rw [if_neg c23] at H
     replace c23 := decide_eq_false c23
     obtain ⟨y234, hy234⟩ : ∃ y_ : List Int, y_ = (([x9_1] : List Int)) := ⟨_, rfl⟩
     replace H : (spec_l11Path.l1 k1 l0 t227 x9_1 y234) = some (r1, r2) := by first | (rw [hy234]; with_reducible exact H) | (have H2_ := (Option.bind_some _ _).symm.trans H; rw [hy234]; with_reducible exact H2_) | (have H2_ := (Option.bind_some _ _).symm.trans H; with_reducible exact H2_) | with_reducible exact H | (rw [hy234]; exact H) | exact H
     have Ny234 := am_ hy234
     clear hy234
     have H' := am_ H
     clear H
     go_wp2_with (first | ((with_reducible refine Sh.d 50 ?_); refine Kd.R_lit (Kd.int .i64) _ 3 ?hg (N := 50) ?hd (xs := ([x9_1] : List Int)) (inner := [.int .i64 x9_1]) (ok := fun _ => True) (okp := fun _ => True) ?hr ?hp (fun _ hk => hk) trivial (Below.refl _ _) (Nat.le_refl _) (by simp) ?_; (case hd => rfl); (case hg => rfl); (case hr => first | (go_simp; done) | (go_simp; rfl)); (case hp => exact (Reps.one (show Kd.M (Kd.int .i64) _ _ _ x9_1 [.int .i64 x9_1] from rfl) (Reps.none _ _))); intro v235 w24 ho25 hb hg_ hnew_; clear hg_ hnew_; (first | rw [← Ny234.out] at ho25 | (simp only [Int.reduceToNat] at ho25; rw [← Ny234.out] at ho25)); have HO236 := am_ (Kd.R_lower (Kd.R_new' ho25 (Kd.R_lt (Sh.rl HO_8.out))) (below_size Sh.bw)); replace HO_8 := am_ (Kd.R_elder' (Sh.rl HO_8.out) (Kd.R_base ho25) hb); replace HB := Sh.hb hb; clear hb ho25))
     repeat (go_quiet (first | ((with_reducible refine Sh.d 50 ?_); refine Kd.R_lit (Kd.int .i64) _ 3 ?hg (N := 50) ?hd (xs := ([x9_1] : List Int)) (inner := [.int .i64 x9_1]) (ok := fun _ => True) (okp := fun _ => True) ?hr ?hp (fun _ hk => hk) trivial (Below.refl _ _) (Nat.le_refl _) (by simp) ?_; (case hd => rfl); (case hg => rfl); (case hr => first | (go_simp; done) | (go_simp; rfl)); (case hp => exact (Reps.one (show Kd.M (Kd.int .i64) _ _ _ x9_1 [.int .i64 x9_1] from rfl) (Reps.none _ _))); intro v235 w24 ho25 hb hg_ hnew_; clear hg_ hnew_; (first | rw [← Ny234.out] at ho25 | (simp only [Int.reduceToNat] at ho25; rw [← Ny234.out] at ho25)); have HO236 := am_ (Kd.R_lower (Kd.R_new' ho25 (Kd.R_lt (Sh.rl HO_8.out))) (below_size Sh.bw)); replace HO_8 := am_ (Kd.R_elder' (Sh.rl HO_8.out) (Kd.R_base ho25) hb); replace HB := Sh.hb hb; clear hb ho25)); try go_wp2_with (first | ((with_reducible refine Sh.d 50 ?_); refine Kd.R_lit (Kd.int .i64) _ 3 ?hg (N := 50) ?hd (xs := ([x9_1] : List Int)) (inner := [.int .i64 x9_1]) (ok := fun _ => True) (okp := fun _ => True) ?hr ?hp (fun _ hk => hk) trivial (Below.refl _ _) (Nat.le_refl _) (by simp) ?_; (case hd => rfl); (case hg => rfl); (case hr => first | (go_simp; done) | (go_simp; rfl)); (case hp => exact (Reps.one (show Kd.M (Kd.int .i64) _ _ _ x9_1 [.int .i64 x9_1] from rfl) (Reps.none _ _))); intro v235 w24 ho25 hb hg_ hnew_; clear hg_ hnew_; (first | rw [← Ny234.out] at ho25 | (simp only [Int.reduceToNat] at ho25; rw [← Ny234.out] at ho25)); have HO236 := am_ (Kd.R_lower (Kd.R_new' ho25 (Kd.R_lt (Sh.rl HO_8.out))) (below_size Sh.bw)); replace HO_8 := am_ (Kd.R_elder' (Sh.rl HO_8.out) (Kd.R_base ho25) hb); replace HB := Sh.hb hb; clear hb ho25)))
     go_loopg [9, 12] k1 (fun kq v9 v12 w' => ∃ (x9_2 : Int) (x12_2 : List Int), v9 = .int .i64 x9_2 ∧ Aside0 (spec_l11Path.l1 kq l0 t227 x9_2 x12_2 = some (r1, r2)) ∧ Aside0 (kq ≤ k1) ∧ Aside0 (Kd.R (Kd.int .i64) 3 w' w.heap.size (fun k_ => some k_ ≠ (v12 : Value).ownBlock) v228 t227) ∧ Aside0 (Kd.R (Kd.int .i64) 3 w' w.heap.size (fun k_ => some k_ ≠ (v228 : Value).ownBlock) v12 x12_2) ∧ Aside0 (Below w.heap.size w w'))
     case atStart => exact ⟨(x9_1), (y234), (Sh.es), H', ⟨Nat.le_refl _⟩, ⟨Sh.rl (Kd.R_mono HO_8.out (fun _ hk => hk.2))⟩, ⟨Sh.rl (Kd.R_mono HO236.out (fun _ hk => hk.2))⟩, ⟨Sh.bw⟩⟩
     case round =>
      clear H'
      try clear hx2
      try clear hx23
      try clear hx230_0
      try clear hx231_0
      try clear hx232_0
      try clear hx233_0
      obtain ⟨x9_2, x12_2, rfl, HA, HK2, HO_8, HO_12, HB⟩ := hrel
      cases gk with
      | zero => exact absurd HA.out (by simp [spec_l11Path.l1])
      | succ k2 =>
       have H := HA.out
       clear HA
       simp only [spec_l11Path.l1] at H
       by_cases c26 : 0 ≤ x9_2
       ·rw [if_pos c26] at H
        replace c26 := decide_eq_true c26
        by_cases c27 : x9_2 < (t227.length : Int)
        ·rw [if_pos c27] at H
         replace c27 := decide_eq_true c27
         by_cases c28 : (rd t227 x9_2) > 0
         ·rw [if_pos c28] at H
          have c28b0 : decide (0 < (rd t227 x9_2)) = true := decide_eq_true c28
          clear c28
          by_cases c29 : x9_2 < (l0.length : Int)
          ·rw [if_pos c29] at H
           replace c29 := decide_eq_true c29
           have H' := am_ H
           clear H
           obtain ⟨Ao30, co30, eo30⟩ := Kd.R_slice HO_8.out
           subst eo30
           have p237 : 0 ≤ (x9_2 : Int) := Sh.od
           have q237 : x9_2 < (t227.length : Int) := Sh.od
           obtain ⟨ad237, e237, hx237_0⟩ := Kd.at_int (Kd.R_reads' HO_8.out).2.2 x9_2 p237 q237
           cases e237
           replace p237 := eq_true p237
           replace q237 := eq_true q237
           have p238 : 0 ≤ (x9_2 : Int) := Sh.od
           have q238 : x9_2 < (l0.length : Int) := Sh.od
           obtain ⟨ad238, A238_0, c238_0, e238, hx238_0, hl238_0, hi238_0⟩ := at_L1 HR0.out x9_2 p238 q238
           cases e238
           try replace hx238_0 := Sh.cw hx238_0
           have HR238_0 := am_ hi238_0
           have HC238_0 := am_ hl238_0
           clear hi238_0 hl238_0
           replace p238 := eq_true p238
           replace q238 := eq_true q238
           go_wp2
           repeat (go_quiet (fail); try go_wp2)
           go_loopg [9, 61] k2 (fun kq v9 v61 w' => ∃ (x9_3 : Int) (x61_3 : Int), v9 = .int .i64 x9_3 ∧ v61 = .int .i64 x61_3 ∧ Aside0 (spec_l11Path.l2 kq l0 t227 x9_3 x12_2 (rd_L1 l0 x9_2) ((rd_L1 l0 x9_2).length : Int) x61_3 = some (r1, r2)) ∧ Aside0 (kq ≤ k2) ∧ Aside0 (Kd.R (Kd.int .i64) 3 w' w.heap.size (fun k_ => some k_ ≠ (u12 : Value).ownBlock) (.slice (some ad237) t227.length co30) t227) ∧ Aside0 (Kd.R (Kd.int .i64) 3 w' w.heap.size (fun k_ => some k_ ≠ ((.slice (some ad237) t227.length co30) : Value).ownBlock) u12 x12_2) ∧ Aside0 (Below w.heap.size w w'))
           case atStart => exact ⟨(x9_2), (0), (Sh.es), (Sh.es), H', ⟨Nat.le_refl _⟩, ⟨Sh.rl HO_8.out⟩, ⟨Sh.rl HO_12.out⟩, ⟨Sh.bw⟩⟩
           case round =>
            clear H'
            try clear hx2
            try clear hx23
            try clear hx230_0
            try clear hx231_0
            try clear hx232_0
            try clear hx233_0
            try clear hx237_0
            try clear hx238_0
            obtain ⟨x9_3, x61_3, rfl, rfl, HA, HK3, HO_8, HO_12, HB⟩ := hrel
            cases gk with
            | zero => exact absurd HA.out (by simp [spec_l11Path.l2])
            | succ k3 =>
             have H := HA.out
             clear HA
             simp only [spec_l11Path.l2] at H
             by_cases c31 : x61_3 < ((rd_L1 l0 x9_2).length : Int)
             ·rw [if_pos c31] at H
              replace c31 := decide_eq_true c31
              by_cases c32 : 0 ≤ x61_3
              ·rw [if_pos c32] at H
               replace c32 := decide_eq_true c32
               by_cases c33 : x61_3 < ((rd_L1 l0 x9_2).length : Int)
               ·rw [if_pos c33] at H
                replace c33 := decide_eq_true c33
                by_cases c34 : 0 ≤ (rd (rd_L1 l0 x9_2) x61_3)
                ·rw [if_pos c34] at H
                 replace c34 := decide_eq_true c34
                 by_cases c35 : (rd (rd_L1 l0 x9_2) x61_3) < (t227.length : Int)
                 ·rw [if_pos c35] at H
                  replace c35 := decide_eq_true c35
                  by_cases c36 : 0 ≤ x9_3
                  ·rw [if_pos c36] at H
                   replace c36 := decide_eq_true c36
                   by_cases c37 : x9_3 < (t227.length : Int)
                   ·rw [if_pos c37] at H
                    replace c37 := decide_eq_true c37
                    by_cases c38 : (rd t227 (rd (rd_L1 l0 x9_2) x61_3)) = (wrap64 ((rd t227 x9_3) - 1))
                    ·rw [if_pos c38] at H
                     have c38b0 : ((rd t227 (rd (rd_L1 l0 x9_2) x61_3)) == (wrap64 ((rd t227 x9_3) - 1))) = true := beq_iff_eq.mpr c38
                     have c38b1 : ((rd t227 (rd (rd_L1 l0 x9_2) x61_3)) != (wrap64 ((rd t227 x9_3) - 1))) = false := bne_eq_false_iff_eq.mpr c38
                     clear c38
                     by_cases c39 : x12_2.length < 17592186044416
                     ·rw [if_pos c39] at H
                      have LMc39 := am_ c39
                      clear c39
                      obtain ⟨y242, hy242⟩ : ∃ y_ : List Int, y_ = (x12_2 ++ [rd (rd_L1 l0 x9_2) x61_3]) := ⟨_, rfl⟩
                      replace H : (spec_l11Path.l1 k3 l0 t227 (rd (rd_L1 l0 x9_2) x61_3) y242) = some (r1, r2) := by first | (rw [hy242]; with_reducible exact H) | (have H2_ := (Option.bind_some _ _).symm.trans H; rw [hy242]; with_reducible exact H2_) | (have H2_ := (Option.bind_some _ _).symm.trans H; with_reducible exact H2_) | with_reducible exact H | (rw [hy242]; exact H) | exact H
                      have Ny242 := am_ hy242
                      clear hy242
                      have H' := am_ H
                      clear H
                      have p239 : 0 ≤ (x61_3 : Int) := Sh.od
                      have q239 : x61_3 < ((rd_L1 l0 x9_2).length : Int) := Sh.od
                      obtain ⟨ad239, e239, hx239_0⟩ := Kd.at_int HR238_0.out x61_3 p239 q239
                      cases e239
                      try replace hx239_0 := Sh.cw hx239_0
                      replace p239 := eq_true p239
                      replace q239 := eq_true q239
                      have p240 : 0 ≤ ((rd (rd_L1 l0 x9_2) x61_3) : Int) := Sh.od
                      have q240 : (rd (rd_L1 l0 x9_2) x61_3) < (t227.length : Int) := Sh.od
                      obtain ⟨ad240, e240, hx240_0⟩ := Kd.at_int (Kd.R_reads' HO_8.out).2.2 (rd (rd_L1 l0 x9_2) x61_3) p240 q240
                      obtain rfl : ad237 = ad240 := (by injection e240)
                      replace p240 := eq_true p240
                      replace q240 := eq_true q240
                      have p241 : 0 ≤ (x9_3 : Int) := Sh.od
                      have q241 : x9_3 < (t227.length : Int) := Sh.od
                      obtain ⟨ad241, e241, hx241_0⟩ := Kd.at_int (Kd.R_reads' HO_8.out).2.2 x9_3 p241 q241
                      obtain rfl : ad237 = ad241 := (by injection e241)
                      replace p241 := eq_true p241
                      replace q241 := eq_true q241
                      go_wp2_with (first | ((with_reducible refine gate_builtin (b := .append) (xs := #[.tmp 77, .tmp 79]) rfl ?_); at_builtin; refine Kd.R_append (Kd.int .i64) (w0 := w) w.heap.size rfl (.tmp 77) (.tmp 79) 26 3 (.int .i64 0) 8 rfl Try.underlying26 info3 rfl (by decide) (by omega) u12 x12_2 (rd (rd_L1 l0 x9_2) x61_3) [.int .i64 (rd (rd_L1 l0 x9_2) x61_3)] (fun k_ => some k_ ≠ (.slice (some ad237) t227.length co30 : Value).ownBlock) (fun _ => False) rfl rfl ?aP (fun _ hk => hk.elim) ?aF ?aO ?aB ?aS ?aL ?_; (case aP => exact rfl); (case aB => exact Sh.bw); (case aF => exact (fun k_ hk => Kd.fresh' (Kd.R_lt (Sh.rl HO_8.out)) k_ hk)); (case aO => exact (Sh.rl HO_12.out)); (case aS => exact (below_size Sh.bw)); (case aL => have := LMc39.out; omega); intro v243 w40 ho hb hg hat; rw [← Ny242.out] at ho; have n0_ := am_ (Kd.R_after (ok := (fun _ => True)) (Sh.rl (Kd.R_mono HO_8.out (fun _ hk => ⟨trivial, hk⟩))) hg hat); have n1_ := am_ hb; have n2_ := am_ ho; clear HO_8; clear HB; clear HO_12; have HO_8 := n0_; have HB := n1_; have HO244 := n2_; clear n0_ n1_ n2_; clear ho hb hg hat))
                      repeat (go_quiet (first | ((with_reducible refine gate_builtin (b := .append) (xs := #[.tmp 77, .tmp 79]) rfl ?_); at_builtin; refine Kd.R_append (Kd.int .i64) (w0 := w) w.heap.size rfl (.tmp 77) (.tmp 79) 26 3 (.int .i64 0) 8 rfl Try.underlying26 info3 rfl (by decide) (by omega) u12 x12_2 (rd (rd_L1 l0 x9_2) x61_3) [.int .i64 (rd (rd_L1 l0 x9_2) x61_3)] (fun k_ => some k_ ≠ (.slice (some ad237) t227.length co30 : Value).ownBlock) (fun _ => False) rfl rfl ?aP (fun _ hk => hk.elim) ?aF ?aO ?aB ?aS ?aL ?_; (case aP => exact rfl); (case aB => exact Sh.bw); (case aF => exact (fun k_ hk => Kd.fresh' (Kd.R_lt (Sh.rl HO_8.out)) k_ hk)); (case aO => exact (Sh.rl HO_12.out)); (case aS => exact (below_size Sh.bw)); (case aL => have := LMc39.out; omega); intro v243 w40 ho hb hg hat; rw [← Ny242.out] at ho; have n0_ := am_ (Kd.R_after (ok := (fun _ => True)) (Sh.rl (Kd.R_mono HO_8.out (fun _ hk => ⟨trivial, hk⟩))) hg hat); have n1_ := am_ hb; have n2_ := am_ ho; clear HO_8; clear HB; clear HO_12; have HO_8 := n0_; have HB := n1_; have HO244 := n2_; clear n0_ n1_ n2_; clear ho hb hg hat)); try go_wp2_with (first | ((with_reducible refine gate_builtin (b := .append) (xs := #[.tmp 77, .tmp 79]) rfl ?_); at_builtin; refine Kd.R_append (Kd.int .i64) (w0 := w) w.heap.size rfl (.tmp 77) (.tmp 79) 26 3 (.int .i64 0) 8 rfl Try.underlying26 info3 rfl (by decide) (by omega) u12 x12_2 (rd (rd_L1 l0 x9_2) x61_3) [.int .i64 (rd (rd_L1 l0 x9_2) x61_3)] (fun k_ => some k_ ≠ (.slice (some ad237) t227.length co30 : Value).ownBlock) (fun _ => False) rfl rfl ?aP (fun _ hk => hk.elim) ?aF ?aO ?aB ?aS ?aL ?_; (case aP => exact rfl); (case aB => exact Sh.bw); (case aF => exact (fun k_ hk => Kd.fresh' (Kd.R_lt (Sh.rl HO_8.out)) k_ hk)); (case aO => exact (Sh.rl HO_12.out)); (case aS => exact (below_size Sh.bw)); (case aL => have := LMc39.out; omega); intro v243 w40 ho hb hg hat; rw [← Ny242.out] at ho; have n0_ := am_ (Kd.R_after (ok := (fun _ => True)) (Sh.rl (Kd.R_mono HO_8.out (fun _ hk => ⟨trivial, hk⟩))) hg hat); have n1_ := am_ hb; have n2_ := am_ ho; clear HO_8; clear HB; clear HO_12; have HO_8 := n0_; have HB := n1_; have HO244 := n2_; clear n0_ n1_ n2_; clear ho hb hg hat)))
                      go_roundg k3
                      case measure => have := HK1.out; have := HK2.out; have := HK3.out; omega
                      case rel => exact ⟨(rd (rd_L1 l0 x9_2) x61_3), (y242), (Sh.es), H', ⟨by have := HK1.out; have := HK2.out; have := HK3.out; omega⟩, ⟨Sh.rl (Kd.R_mono HO_8.out (fun _ hk => hk.2))⟩, ⟨Sh.rl HO244.out⟩, ⟨Sh.bw⟩⟩
                     ·rw [if_neg c39] at H
                      cases H
                    ·rw [if_neg c38] at H
                     have c38b0 : ((rd t227 (rd (rd_L1 l0 x9_2) x61_3)) == (wrap64 ((rd t227 x9_3) - 1))) = false := beq_eq_false_iff_ne.mpr c38
                     have c38b1 : ((rd t227 (rd (rd_L1 l0 x9_2) x61_3)) != (wrap64 ((rd t227 x9_3) - 1))) = true := bne_iff_ne.mpr c38
                     have H' := am_ H
                     clear H
                     have p239 : 0 ≤ (x61_3 : Int) := Sh.od
                     have q239 : x61_3 < ((rd_L1 l0 x9_2).length : Int) := Sh.od
                     obtain ⟨ad239, e239, hx239_0⟩ := Kd.at_int HR238_0.out x61_3 p239 q239
                     cases e239
                     try replace hx239_0 := Sh.cw hx239_0
                     replace p239 := eq_true p239
                     replace q239 := eq_true q239
                     have p240 : 0 ≤ ((rd (rd_L1 l0 x9_2) x61_3) : Int) := Sh.od
                     have q240 : (rd (rd_L1 l0 x9_2) x61_3) < (t227.length : Int) := Sh.od
                     obtain ⟨ad240, e240, hx240_0⟩ := Kd.at_int (Kd.R_reads' HO_8.out).2.2 (rd (rd_L1 l0 x9_2) x61_3) p240 q240
                     obtain rfl : ad237 = ad240 := (by injection e240)
                     replace p240 := eq_true p240
                     replace q240 := eq_true q240
                     have p241 : 0 ≤ (x9_3 : Int) := Sh.od
                     have q241 : x9_3 < (t227.length : Int) := Sh.od
                     obtain ⟨ad241, e241, hx241_0⟩ := Kd.at_int (Kd.R_reads' HO_8.out).2.2 x9_3 p241 q241
                     obtain rfl : ad237 = ad241 := (by injection e241)
                     replace p241 := eq_true p241
                     replace q241 := eq_true q241
                     go_wp2
                     repeat (go_quiet (fail); try go_wp2)
                     go_roundg k3
                     case measure => have := HK1.out; have := HK2.out; have := HK3.out; omega
                     case rel => exact ⟨(x9_3), (wrap64 (x61_3 + 1)), (Sh.es), (Sh.es), H', ⟨by have := HK1.out; have := HK2.out; have := HK3.out; omega⟩, ⟨Sh.rl HO_8.out⟩, ⟨Sh.rl HO_12.out⟩, ⟨Sh.bw⟩⟩
                   ·rw [if_neg c37] at H
                    cases H
                  ·rw [if_neg c36] at H
                   cases H
                 ·rw [if_neg c35] at H
                  cases H
                ·rw [if_neg c34] at H
                 cases H
               ·rw [if_neg c33] at H
                cases H
              ·rw [if_neg c32] at H
               cases H
             ·rw [if_neg c31] at H
              replace c31 := decide_eq_false c31
              by_cases c41 : x12_2.length < 17592186044416
              ·rw [if_pos c41] at H
               have LMc41 := am_ c41
               clear c41
               obtain ⟨y245, hy245⟩ : ∃ y_ : List Int, y_ = (x12_2 ++ [x9_3]) := ⟨_, rfl⟩
               replace H : (spec_l11Path.l1 k3 l0 t227 x9_3 y245) = some (r1, r2) := by first | (rw [hy245]; with_reducible exact H) | (have H2_ := (Option.bind_some _ _).symm.trans H; rw [hy245]; with_reducible exact H2_) | (have H2_ := (Option.bind_some _ _).symm.trans H; with_reducible exact H2_) | with_reducible exact H | (rw [hy245]; exact H) | exact H
               have Ny245 := am_ hy245
               clear hy245
               have H' := am_ H
               clear H
               go_wp2_with (first | ((with_reducible refine gate_builtin (b := .append) (xs := #[.tmp 77, .tmp 79]) rfl ?_); at_builtin; refine Kd.R_append (Kd.int .i64) (w0 := w) w.heap.size rfl (.tmp 77) (.tmp 79) 26 3 (.int .i64 0) 8 rfl Try.underlying26 info3 rfl (by decide) (by omega) u12 x12_2 x9_3 [.int .i64 x9_3] (fun k_ => some k_ ≠ (.slice (some ad237) t227.length co30 : Value).ownBlock) (fun _ => False) rfl rfl ?aP (fun _ hk => hk.elim) ?aF ?aO ?aB ?aS ?aL ?_; (case aP => exact rfl); (case aB => exact Sh.bw); (case aF => exact (fun k_ hk => Kd.fresh' (Kd.R_lt (Sh.rl HO_8.out)) k_ hk)); (case aO => exact (Sh.rl HO_12.out)); (case aS => exact (below_size Sh.bw)); (case aL => have := LMc41.out; omega); intro v246 w42 ho hb hg hat; rw [← Ny245.out] at ho; have n0_ := am_ (Kd.R_after (ok := (fun _ => True)) (Sh.rl (Kd.R_mono HO_8.out (fun _ hk => ⟨trivial, hk⟩))) hg hat); have n1_ := am_ hb; have n2_ := am_ ho; clear HO_8; clear HB; clear HO_12; have HO_8 := n0_; have HB := n1_; have HO247 := n2_; clear n0_ n1_ n2_; clear ho hb hg hat))
               repeat (go_quiet (first | ((with_reducible refine gate_builtin (b := .append) (xs := #[.tmp 77, .tmp 79]) rfl ?_); at_builtin; refine Kd.R_append (Kd.int .i64) (w0 := w) w.heap.size rfl (.tmp 77) (.tmp 79) 26 3 (.int .i64 0) 8 rfl Try.underlying26 info3 rfl (by decide) (by omega) u12 x12_2 x9_3 [.int .i64 x9_3] (fun k_ => some k_ ≠ (.slice (some ad237) t227.length co30 : Value).ownBlock) (fun _ => False) rfl rfl ?aP (fun _ hk => hk.elim) ?aF ?aO ?aB ?aS ?aL ?_; (case aP => exact rfl); (case aB => exact Sh.bw); (case aF => exact (fun k_ hk => Kd.fresh' (Kd.R_lt (Sh.rl HO_8.out)) k_ hk)); (case aO => exact (Sh.rl HO_12.out)); (case aS => exact (below_size Sh.bw)); (case aL => have := LMc41.out; omega); intro v246 w42 ho hb hg hat; rw [← Ny245.out] at ho; have n0_ := am_ (Kd.R_after (ok := (fun _ => True)) (Sh.rl (Kd.R_mono HO_8.out (fun _ hk => ⟨trivial, hk⟩))) hg hat); have n1_ := am_ hb; have n2_ := am_ ho; clear HO_8; clear HB; clear HO_12; have HO_8 := n0_; have HB := n1_; have HO247 := n2_; clear n0_ n1_ n2_; clear ho hb hg hat)); try go_wp2_with (first | ((with_reducible refine gate_builtin (b := .append) (xs := #[.tmp 77, .tmp 79]) rfl ?_); at_builtin; refine Kd.R_append (Kd.int .i64) (w0 := w) w.heap.size rfl (.tmp 77) (.tmp 79) 26 3 (.int .i64 0) 8 rfl Try.underlying26 info3 rfl (by decide) (by omega) u12 x12_2 x9_3 [.int .i64 x9_3] (fun k_ => some k_ ≠ (.slice (some ad237) t227.length co30 : Value).ownBlock) (fun _ => False) rfl rfl ?aP (fun _ hk => hk.elim) ?aF ?aO ?aB ?aS ?aL ?_; (case aP => exact rfl); (case aB => exact Sh.bw); (case aF => exact (fun k_ hk => Kd.fresh' (Kd.R_lt (Sh.rl HO_8.out)) k_ hk)); (case aO => exact (Sh.rl HO_12.out)); (case aS => exact (below_size Sh.bw)); (case aL => have := LMc41.out; omega); intro v246 w42 ho hb hg hat; rw [← Ny245.out] at ho; have n0_ := am_ (Kd.R_after (ok := (fun _ => True)) (Sh.rl (Kd.R_mono HO_8.out (fun _ hk => ⟨trivial, hk⟩))) hg hat); have n1_ := am_ hb; have n2_ := am_ ho; clear HO_8; clear HB; clear HO_12; have HO_8 := n0_; have HB := n1_; have HO247 := n2_; clear n0_ n1_ n2_; clear ho hb hg hat)))
               go_roundg k3
               case measure => have := HK1.out; have := HK2.out; have := HK3.out; omega
               case rel => exact ⟨(x9_3), (y245), (Sh.es), H', ⟨by have := HK1.out; have := HK2.out; have := HK3.out; omega⟩, ⟨Sh.rl (Kd.R_mono HO_8.out (fun _ hk => hk.2))⟩, ⟨Sh.rl HO247.out⟩, ⟨Sh.bw⟩⟩
              ·rw [if_neg c41] at H
               cases H
          ·rw [if_neg c29] at H
           cases H
         ·rw [if_neg c28] at H
          have c28b0 : decide (0 < (rd t227 x9_2)) = false := decide_eq_false c28
          clear c28
          obtain ⟨rfl, rfl⟩ := Prod.mk.inj (Option.some.inj H)
          obtain ⟨Ao43, co43, eo43⟩ := Kd.R_slice HO_8.out
          subst eo43
          have p237 : 0 ≤ (x9_2 : Int) := Sh.od
          have q237 : x9_2 < (t227.length : Int) := Sh.od
          obtain ⟨ad237, e237, hx237_0⟩ := Kd.at_int (Kd.R_reads' HO_8.out).2.2 x9_2 p237 q237
          cases e237
          replace p237 := eq_true p237
          replace q237 := eq_true q237
          go_wp2
          repeat (go_quiet (fail); try go_wp2)
          go_ret2
          exact ⟨_, Sh.eR, Sh.rl (Kd.R_mono HO_12.out (fun _ hk => trivial)), Sh.bw⟩
        ·rw [if_neg c27] at H
         cases H
       ·rw [if_neg c26] at H
        cases H
end Go.Proofs.Ytnfpolhpanpeiaa.P
