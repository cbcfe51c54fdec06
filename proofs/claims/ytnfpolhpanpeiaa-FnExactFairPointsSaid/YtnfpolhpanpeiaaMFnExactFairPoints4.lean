/- Go functions of this seat as Lean functions, and the proofs that the calls come to what these say; printed by a program of this session. No condition. -/
import Derived.Test.YtnfpolhpanpeiaaP0
import Derived.Test.YtnfpolhpanpeiaaMFnExactFairPoints1
import Derived.Test.YtnfpolhpanpeiaaMFnExactFairPoints3
set_option linter.unusedVariables false
set_option linter.unusedSimpArgs false
set_option maxHeartbeats 40000000
set_option maxRecDepth 100000
namespace Go.Proofs.Ytnfpolhpanpeiaa.P
open Go.RowKit Go.Proofs.YtnfpolhpanpeiaaW.PrintWords Go.Proofs.YtnfpolhpanpeiaaW.PrintLast Go.Proofs.YtnfpolhpanpeiaaW.PrintMore Go.Proofs.Ytnfpolhpanpeiaa.Hof
attribute [local go_sem] max2_int min2_int max_two min_two max_three min_three max_four min_four
mutual
def impl_turned.l0 : Nat → List (List Int) → List (List Int) → Int → Int → Option ((List (List Int)))
 | 0, _, _, _, _ => none
 | k + 1, x3, x11, x12, x13 => if x13 < x12 then (if 0 ≤ x13 then (if x13 < (x11.length : Int) then (impl_turned.l1 k x3 x13 x11 x12 x13 (rd_L1 x11 x13) ((rd_L1 x11 x13).length : Int) 0) else (none)) else (none)) else (some x3)
def impl_turned.l1 : Nat → List (List Int) → Int → List (List Int) → Int → Int → List Int → Int → Int → Option ((List (List Int)))
 | 0, _, _, _, _, _, _, _, _ => none
 | k + 1, x3, x4, x11, x12, x13, x18, x19, x20 => if x20 < x19 then (if 0 ≤ x20 then (if x20 < (x18.length : Int) then (if 0 ≤ (rd x18 x20) then (if (rd x18 x20) < (x3.length : Int) then (if (rd_L1 x3 (rd x18 x20)).length < 17592186044416 then (impl_turned.l1 k (x3.set ((rd x18 x20) : Int).toNat ((rd_L1 x3 (rd x18 x20)) ++ [x4])) x4 x11 x12 x13 x18 x19 (wrap64 (x20 + 1))) else (none)) else (none)) else (none)) else (none)) else (none)) else (impl_turned.l0 k x3 x11 x12 (wrap64 (x13 + 1)))
end
def impl_turned.f (k : Nat) (l0 : List (List Int)) : Option ((List (List Int))) := if 0 ≤ (l0.length : Int) then (if ((l0.length : Int) : Int).toNat ≤ 11728124029610 then (impl_turned.l0 k (List.replicate ((l0.length : Int) : Int).toNat []) l0 (l0.length : Int) 0) else (none)) else (none)
theorem impl_turned.mono_l : ∀ k, (∀ y0 y1 y2 y3, LeO (impl_turned.l0 k y0 y1 y2 y3) (impl_turned.l0 (k + 1) y0 y1 y2 y3)) ∧ (∀ y0 y1 y2 y3 y4 y5 y6 y7, LeO (impl_turned.l1 k y0 y1 y2 y3 y4 y5 y6 y7) (impl_turned.l1 (k + 1) y0 y1 y2 y3 y4 y5 y6 y7))
 | 0 => ⟨fun _ _ _ _ r h => by simp [impl_turned.l0] at h, fun _ _ _ _ _ _ _ _ r h => by simp [impl_turned.l1] at h⟩
 | k + 1 => by
  obtain ⟨ih0, ih1⟩ := impl_turned.mono_l k
  and_intros <;> intros
  all_goals (first | unfold impl_turned.l0 | unfold impl_turned.l1)
  all_goals repeat' with_reducible first | apply ih0 | apply ih1 | exact LeO.refl _ | exact LeO.none _ | apply LeO.ite | refine LeO.bind ?_ fun _ => ?_
theorem impl_turned.mono : ∀ a0 k, LeO (impl_turned.f k a0) (impl_turned.f (k + 1) a0) := by
 intro a0 k
 obtain ⟨ih0, ih1⟩ := impl_turned.mono_l k
 unfold impl_turned.f
 repeat' with_reducible first | apply ih0 | apply ih1 | exact LeO.refl _ | exact LeO.none _ | apply LeO.ite | refine LeO.bind ?_ fun _ => ?_
theorem impl_turned.calls (k : Nat) (A0 : Option Addr) (c0 : Nat) (l0 : List (List Int)) (r : List (List Int)) (w : World) (hr0 : Kd.C (Kd.slice 3 (Kd.int .i64)) w A0 l0.length l0) (hc0 : l0.length ≤ c0) (h : impl_turned.f k l0 = some r) :
  Calls Try.prog 55 #[.slice A0 l0.length c0] w fun e w' => ∃ v0_ : Value, e = .returned (v0_) ∧ Kd.S (Kd.slice 3 (Kd.int .i64)) 26 w' w.heap.size (fun _ => True) v0_ r ∧ Below w.heap.size w w' := by
 have HR0 := am_ hr0
 have HC0 := am_ hc0
 clear hr0 hc0
 have HB := am_ (Below.refl w.heap.size w)
 have H := h
 clear h
 unfold impl_turned.f at H
 by_cases c2 : 0 ≤ (l0.length : Int)
 ·rw [if_pos c2] at H
  have c2b0 := eq_true c2
  have c2b1 := decide_eq_true c2
  clear c2
  by_cases c3 : ((l0.length : Int) : Int).toNat ≤ 11728124029610
  ·rw [if_pos c3] at H
   have c3b0 := eq_true c3
   have c3b1 := decide_eq_true c3
   clear c3
   obtain ⟨y408, hy408⟩ : ∃ y_ : List (List Int), y_ = (List.replicate ((l0.length : Int) : Int).toNat []) := ⟨_, rfl⟩
   replace H : (impl_turned.l0 k y408 l0 (l0.length : Int) 0) = some r := by first | (rw [hy408]; with_reducible exact H) | (have H2_ := (Option.bind_some _ _).symm.trans H; rw [hy408]; with_reducible exact H2_) | (have H2_ := (Option.bind_some _ _).symm.trans H; with_reducible exact H2_) | with_reducible exact H | (rw [hy408]; exact H) | exact H
   have Ny408 := am_ hy408
   clear hy408
   have H' := am_ H
   clear H
   go_enter Try.func55, Try.ntmps55
   go_wp2_with (first | ((with_reducible refine Sh.d 10 ?_); refine Kd.S_make (Kd.slice 3 (Kd.int .i64)) _ 26 rfl (N := 10) rfl 22 _ _ rfl (l0.length : Int) rfl rfl Try.underlying22 (.slice none 0 0) 24 info26 rfl (by decide) (by omega) [] (ok := fun _ => True) (okp := fun _ => True) ⟨_, rfl, Kd.R_nil _ _ _ _ _⟩ (fun _ hk => hk) trivial (of_decide_eq_true (by first | (with_reducible assumption) | assumption)) (Nat.le_trans (Nat.mul_le_mul_right _ (of_decide_eq_true (by first | (with_reducible assumption) | assumption) : (l0.length : Int).toNat ≤ 11728124029610)) (by omega)) (Below.refl _ _) (Nat.le_refl _) ?_; intro v409 w4 ho5 hb hg_ hnew_; clear hg_ hnew_; (first | rw [← Ny408.out] at ho5 | (simp only [Int.reduceToNat] at ho5; rw [← Ny408.out] at ho5)); have HO410 := am_ (Kd.S_lower ho5 (below_size Sh.bw)); replace HB := Sh.hb hb; clear hb ho5))
   go_loopg [13] k (fun kq v13 w' => ∃ (x3_1 : List (List Int)) (x13_1 : Int), v13 = .int .i64 x13_1 ∧ Aside0 (impl_turned.l0 kq x3_1 l0 (l0.length : Int) x13_1 = some r) ∧ Aside0 (kq ≤ k) ∧ Aside0 (Kd.S (Kd.slice 3 (Kd.int .i64)) 26 w' w.heap.size (fun _ => True) v409 x3_1) ∧ Aside0 (Below w.heap.size w w'))
   case atStart => exact ⟨(y408), (0), (Sh.es), H', ⟨Nat.le_refl _⟩, ⟨by (with_reducible repeat (first | apply Kd.S_alloc | apply Kd.S_drewN | apply Kd.S_drew)); exact HO410.out⟩, ⟨Sh.bw⟩⟩
   case round =>
    clear H'
    obtain ⟨x3_1, x13_1, rfl, HA, HK1, HO_3, HB⟩ := hrel
    cases gk with
    | zero => exact absurd HA.out (by simp [impl_turned.l0])
    | succ k1 =>
     have H := HA.out
     clear HA
     simp only [impl_turned.l0] at H
     by_cases c6 : x13_1 < (l0.length : Int)
     ·rw [if_pos c6] at H
      have c6b0 := decide_eq_true c6
      clear c6
      by_cases c7 : 0 ≤ x13_1
      ·rw [if_pos c7] at H
       have c7b0 := decide_eq_true c7
       clear c7
       by_cases c8 : x13_1 < (l0.length : Int)
       ·rw [if_pos c8] at H
        have c8b0 := decide_eq_true c8
        clear c8
        have H' := am_ H
        clear H
        have p411 : 0 ≤ (x13_1 : Int) := Sh.od
        have q411 : x13_1 < (l0.length : Int) := Sh.od
        obtain ⟨ad411, A411_0, c411_0, e411, hx411_0, hl411_0, hi411_0⟩ := at_L1 HR0.out x13_1 p411 q411
        cases e411
        try replace hx411_0 := Sh.cw hx411_0
        have HR411_0 := am_ hi411_0
        have HC411_0 := am_ hl411_0
        clear hi411_0 hl411_0
        replace p411 := eq_true p411
        replace q411 := eq_true q411
        go_wp2
        go_loopg [20] k1 (fun kq v20 w' => ∃ (x3_2 : List (List Int)) (x20_2 : Int), v20 = .int .i64 x20_2 ∧ Aside0 (impl_turned.l1 kq x3_2 x13_1 l0 (l0.length : Int) x13_1 (rd_L1 l0 x13_1) ((rd_L1 l0 x13_1).length : Int) x20_2 = some r) ∧ Aside0 (kq ≤ k1) ∧ Aside0 (Kd.S (Kd.slice 3 (Kd.int .i64)) 26 w' w.heap.size (fun _ => True) v409 x3_2) ∧ Aside0 (Below w.heap.size w w'))
        case atStart => exact ⟨(x3_1), (0), (Sh.es), H', ⟨Nat.le_refl _⟩, ⟨by (with_reducible repeat (first | apply Kd.S_alloc | apply Kd.S_drewN | apply Kd.S_drew)); exact HO_3.out⟩, ⟨Sh.bw⟩⟩
        case round =>
         clear H'
         try clear hx4
         try clear hx411_0
         obtain ⟨x3_2, x20_2, rfl, HA, HK2, HO_3, HB⟩ := hrel
         cases gk with
         | zero => exact absurd HA.out (by simp [impl_turned.l1])
         | succ k2 =>
          have H := HA.out
          clear HA
          simp only [impl_turned.l1] at H
          by_cases c9 : x20_2 < ((rd_L1 l0 x13_1).length : Int)
          ·rw [if_pos c9] at H
           have c9b0 := decide_eq_true c9
           clear c9
           by_cases c10 : 0 ≤ x20_2
           ·rw [if_pos c10] at H
            have c10b0 := decide_eq_true c10
            clear c10
            by_cases c11 : x20_2 < ((rd_L1 l0 x13_1).length : Int)
            ·rw [if_pos c11] at H
             have c11b0 := decide_eq_true c11
             clear c11
             by_cases c12 : 0 ≤ (rd (rd_L1 l0 x13_1) x20_2)
             ·rw [if_pos c12] at H
              have c12b0 := decide_eq_true c12
              clear c12
              by_cases c13 : (rd (rd_L1 l0 x13_1) x20_2) < (x3_2.length : Int)
              ·rw [if_pos c13] at H
               have c13b0 := decide_eq_true c13
               clear c13
               by_cases c14 : (rd_L1 x3_2 (rd (rd_L1 l0 x13_1) x20_2)).length < 17592186044416
               ·rw [if_pos c14] at H
                have LMc14 := am_ c14
                clear c14
                obtain ⟨y414, hy414⟩ : ∃ y_ : List Int, y_ = ((rd_L1 x3_2 (rd (rd_L1 l0 x13_1) x20_2)) ++ [x13_1]) := ⟨_, rfl⟩
                replace H : (impl_turned.l1 k2 (x3_2.set ((rd (rd_L1 l0 x13_1) x20_2) : Int).toNat y414) x13_1 l0 (l0.length : Int) x13_1 (rd_L1 l0 x13_1) ((rd_L1 l0 x13_1).length : Int) (wrap64 (x20_2 + 1))) = some r := by first | (rw [hy414]; with_reducible exact H) | (have H2_ := (Option.bind_some _ _).symm.trans H; rw [hy414]; with_reducible exact H2_) | (have H2_ := (Option.bind_some _ _).symm.trans H; with_reducible exact H2_) | with_reducible exact H | (rw [hy414]; exact H) | exact H
                have Ny414 := am_ hy414
                clear hy414
                obtain ⟨y417, hy417⟩ : ∃ y_ : List (List Int), y_ = (x3_2.set ((rd (rd_L1 l0 x13_1) x20_2) : Int).toNat y414) := ⟨_, rfl⟩
                replace H : (impl_turned.l1 k2 y417 x13_1 l0 (l0.length : Int) x13_1 (rd_L1 l0 x13_1) ((rd_L1 l0 x13_1).length : Int) (wrap64 (x20_2 + 1))) = some r := by first | (rw [hy417]; with_reducible exact H) | (have H2_ := (Option.bind_some _ _).symm.trans H; rw [hy417]; with_reducible exact H2_) | (have H2_ := (Option.bind_some _ _).symm.trans H; with_reducible exact H2_) | with_reducible exact H | (rw [hy417]; exact H) | exact H
                have Ny417 := am_ hy417
                clear hy417
                have H' := am_ H
                clear H
                have p412 : 0 ≤ (x20_2 : Int) := Sh.od
                have q412 : x20_2 < ((rd_L1 l0 x13_1).length : Int) := Sh.od
                obtain ⟨ad412, e412, hx412_0⟩ := Kd.at_int HR411_0.out x20_2 p412 q412
                cases e412
                try replace hx412_0 := Sh.cw hx412_0
                replace p412 := eq_true p412
                replace q412 := eq_true q412
                obtain ⟨Ao16, co16, eo16⟩ := Kd.S_slice HO_3.out
                subst eo16
                have p413 : 0 ≤ ((rd (rd_L1 l0 x13_1) x20_2) : Int) := Sh.od
                have q413 : (rd (rd_L1 l0 x13_1) x20_2) < (x3_2.length : Int) := Sh.od
                obtain ⟨ad413, A413_0, c413_0, e413, hx413_0, hl413_0, hi413_0⟩ := at_L1 (Kd.S_reads' HO_3.out).2.2 (rd (rd_L1 l0 x13_1) x20_2) p413 q413
                cases e413
                obtain ⟨ce413, hce413, hMe413, hcc413⟩ := Kd.S_get HO_3.out [] (rd (rd_L1 l0 x13_1) x20_2) p413 (by first | exact q413 | exact of_decide_eq_true (by first | (with_reducible assumption) | assumption) | (have e_ := (Kd.S_reads' HO_3.out).1; omega))
                obtain ⟨ve413_0, rfl, ge413_0⟩ := hMe413
                have hv413_0 := hcc413 0 _ rfl
                rw [Nat.add_zero, show ((Kd.slice 3 (Kd.int .i64))).sz = 1 from rfl, Nat.mul_one] at hv413_0
                replace hv413_0 := Option.some.inj (hv413_0.symm.trans hx413_0)
                rw [hv413_0] at ge413_0
                have HL413_0 := am_ (show Kd.R (Kd.int .i64) 3 _ _ _ _ (rd_L1 x3_2 (rd (rd_L1 l0 x13_1) x20_2)) from ge413_0)
                clear hv413_0 ge413_0
                have HX413_0 := am_ hx413_0
                clear hcc413 hce413
                have HR413_0 := am_ hi413_0
                have HC413_0 := am_ hl413_0
                clear hi413_0 hl413_0
                replace p413 := eq_true p413
                replace q413 := eq_true q413
                obtain ⟨go17, co17, eo17, gb17, gl17, cl17, HG17⟩ := Kd.S_form HO_3.out (by have h_ : ((rd (rd_L1 l0 x13_1) x20_2) : Int) < ((x3_2.length : Int) : Int) := Sh.od; have h2_ : 0 ≤ ((rd (rd_L1 l0 x13_1) x20_2) : Int) := (of_decide_eq_true (by first | (with_reducible assumption) | assumption)); omega)
                (first | cases eo17 | (injection eo17 with ea_ en_ ec_; (first | subst ea_ | (injection ea_ with ea_; subst ea_)); subst ec_; clear en_))
                have GB17 := am_ gb17
                have GG17 := am_ HG17
                clear gb17 gl17 HG17
                (first | simp only [add_plain] at hx413_0 | skip)
                obtain ⟨oki17, ce17, hcl17, hM17, hcc17, _, _, hH17⟩ := Kd.S_elem HO_3.out [] ((rd (rd_L1 l0 x13_1) x20_2) : Int) (of_decide_eq_true (by first | (with_reducible assumption) | assumption)) (by have h_ : ((rd (rd_L1 l0 x13_1) x20_2) : Int) < ((x3_2.length : Int) : Int) := Sh.od; first | exact h_ | (have e_ := (Kd.S_reads' HO_3.out).1; omega) | simpa using h_)
                obtain ⟨ve17_0, rfl, ge17_0⟩ := hM17
                have hv17 := hcc17 0 _ rfl
                have hX17 := HX413_0.out
                (try simp only [add_plain] at hX17)
                (try simp only [Nat.add_zero] at hv17)
                (try rw [show ((Kd.slice 3 (Kd.int .i64))).sz = 1 from rfl, Nat.mul_one] at hv17)
                replace hv17 := Option.some.inj (hv17.symm.trans hX17)
                subst hv17
                clear hX17 hcc17 hcl17
                have UU17 := am_ (show Kd.R (Kd.int .i64) 3 _ w.heap.size oki17 (.slice A413_0 (rd_L1 x3_2 (rd (rd_L1 l0 x13_1) x20_2)).length c413_0) (rd_L1 x3_2 (rd (rd_L1 l0 x13_1) x20_2)) from ge17_0)
                have HH17 := am_ hH17
                have HN17 := am_ (Kd.S_reads' HO_3.out).1
                clear hH17 ge17_0
                go_wp2_with (first | ((with_reducible refine gate_builtin (b := .append) (xs := #[.tmp 29, .tmp 31]) rfl ?_); at_builtin; refine Kd.R_append (Kd.int .i64) (w0 := w) w.heap.size rfl (.tmp 29) (.tmp 31) 26 3 (.int .i64 0) 8 rfl Try.underlying26 info3 rfl (by decide) (by omega) (.slice A413_0 (rd_L1 x3_2 (rd (rd_L1 l0 x13_1) x20_2)).length c413_0) (rd_L1 x3_2 (rd (rd_L1 l0 x13_1) x20_2)) x13_1 [.int .i64 x13_1] (fun k_ => oki17 k_ ∨ ((fun _ => True)) k_ ∧ wr.heap.size ≤ k_) (fun _ => False) rfl rfl ?aP (fun _ hk => hk.elim) ?aF ?aO ?aB ?aS ?aL ?_; (case aP => exact rfl); (case aB => exact Sh.bw); (case aF => exact (fun k_ hk => .inr ⟨trivial, hk⟩)); (case aO => exact (Sh.rl (Kd.R_mono UU17.out (fun _ hk => .inl hk)))); (case aS => exact (below_size Sh.bw)); (case aL => have := LMc14.out; omega); intro v415 w18 ho hb hg hat; rw [← Ny414.out] at ho; have n0_ := am_ hb; have n1_ := am_ (Kd.H_grown (Kd.H_widen (by repeat (first | exact HH17.out | refine Kd.H_alloc ?_ _ | refine Kd.H_drewN ?_ _ | refine Kd.H_drew ?_))) hg (fun k_ e_ => .inl (UU17.out.1 k_ e_))); have n2_ := am_ ho; clear HB; clear HH17; clear HO_3; clear UU17; clear HL413_0; have HB := n0_; have HH17 := n1_; have HO416 := n2_; clear n0_ n1_ n2_; clear ho hb hg hat; have p15 : 0 ≤ ((rd (rd_L1 l0 x13_1) x20_2) : Int) := Sh.od; have q15 : ((rd (rd_L1 l0 x13_1) x20_2) : Int) < ((x3_2.length : Int) : Int) := Sh.od; replace p15 := eq_true p15; replace q15 := eq_true q15; obtain ⟨Ao21, co21, eo21⟩ := Kd.R_slice HO416.out; subst eo21; obtain ⟨_, _, hraw19, _, _, hcc19, _⟩ := Kd.H_raw HH17.out (of_decide_eq_true (by first | (with_reducible assumption) | assumption)) (by have h_ : ((rd (rd_L1 l0 x13_1) x20_2) : Int) < ((x3_2.length : Int) : Int) := Sh.od; first | exact h_ | (have e_ := (HN17.out); omega) | simpa using h_); obtain ⟨_, hfr19⟩ := Kd.H_at HH17.out (of_decide_eq_true (by first | (with_reducible assumption) | assumption)) (by have h_ : ((rd (rd_L1 l0 x13_1) x20_2) : Int) < ((x3_2.length : Int) : Int) := Sh.od; first | exact h_ | (have e_ := (HN17.out); omega) | simpa using h_); have hx19_0 := hcc19 0 _ rfl; have hf19_0 := hfr19 0; (try simp only [Nat.add_zero] at hx19_0 hf19_0); (try rw [show ((Kd.slice 3 (Kd.int .i64))).sz = 1 from rfl, Nat.mul_one] at hx19_0); (try rw [show ((Kd.slice 3 (Kd.int .i64))).sz = 1 from rfl, Nat.mul_one] at hf19_0); have HP19 := Kd.S_seg0 HH17.out (of_decide_eq_true (by first | (with_reducible assumption) | assumption)) (by have h_ : ((rd (rd_L1 l0 x13_1) x20_2) : Int) < ((x3_2.length : Int) : Int) := Sh.od; first | exact h_ | (have e_ := (HN17.out); omega) | simpa using h_) (seg := [.slice Ao21 y414.length co21]) (j := 0) (show 1 ≤ 1 from by decide) (x' := y414) (Kd.M_row HO416.out) (fun _ hk => hk); (try simp only [show ((Kd.slice 3 (Kd.int .i64))).sz = 1 from rfl, Nat.mul_one, Nat.add_zero] at HP19); clear hcc19 hfr19) | ((with_reducible refine gate_store (t := 26) (p := 33) rfl ?_); refine store_event (t := 26) (p := 33) (v := ?vo_w20) (w1 := (w18.setCell ⟨go17, ((rd (rd_L1 l0 x13_1) x20_2) : Int).toNat, none⟩ (.slice Ao21 y414.length co21))) ?hg ?ho ?hn ?hr ?_; (case ho => rfl); (case hg => rfl); (case hn => rfl); (case hr => first | (go_simp; done) | (go_simp; rfl)); intro w20 hw; have hg : w18.grownBy w20 (some go17) := (by rw [hw]; exact HP19.2); have hp_ : Kd.S (Kd.slice 3 (Kd.int .i64)) 26 w20 w.heap.size (fun _ => True) (.slice (some ⟨go17, 0, none⟩) x3_2.length co16) y417 := (by rw [hw, Ny417.out]; exact HP19.1); clear HP19; have n0_ := am_ ((by rw [hw]; exact below_set HB.out GB17.out : Below w.heap.size w w20)); have n1_ := am_ hp_; clear HB; clear HO416; clear HH17; have HB := n0_; have HO_3 := n1_; clear n0_ n1_; clear hg hw hp_ hraw19))
                go_roundg k2
                case measure => have := HK1.out; have := HK2.out; omega
                case rel => exact ⟨(y417), (wrap64 (x20_2 + 1)), (Sh.es), H', ⟨by have := HK1.out; have := HK2.out; omega⟩, ⟨by (with_reducible repeat (first | apply Kd.S_alloc | apply Kd.S_drewN | apply Kd.S_drew)); exact HO_3.out⟩, ⟨Sh.bw⟩⟩
               ·rw [if_neg c14] at H
                exact absurd H (by simp)
              ·rw [if_neg c13] at H
               exact absurd H (by simp)
             ·rw [if_neg c12] at H
              exact absurd H (by simp)
            ·rw [if_neg c11] at H
             exact absurd H (by simp)
           ·rw [if_neg c10] at H
            exact absurd H (by simp)
          ·rw [if_neg c9] at H
           have c9b0 := decide_eq_false c9
           clear c9
           have H' := am_ H
           clear H
           go_wp2
           go_roundg k2
           case measure => have := HK1.out; have := HK2.out; omega
           case rel => exact ⟨(x3_2), (wrap64 (x13_1 + 1)), (Sh.es), H', ⟨by have := HK1.out; have := HK2.out; omega⟩, ⟨by (with_reducible repeat (first | apply Kd.S_alloc | apply Kd.S_drewN | apply Kd.S_drew)); exact HO_3.out⟩, ⟨Sh.bw⟩⟩
       ·rw [if_neg c8] at H
        exact absurd H (by simp)
      ·rw [if_neg c7] at H
       exact absurd H (by simp)
     ·rw [if_neg c6] at H
      have c6b0 := decide_eq_false c6
      clear c6
      obtain rfl := Option.some.inj H
      go_wp2
      go_ret
      exact ⟨_, Sh.eR, by (with_reducible repeat (first | apply Kd.S_alloc | apply Kd.S_drewN | apply Kd.S_drew)); exact HO_3.out, Sh.bw⟩
  ·rw [if_neg c3] at H
   exact absurd H (by simp)
 ·rw [if_neg c2] at H
  exact absurd H (by simp)
def slices_Clone_int_int.f (l0 : List (Int)) : Option (List (Int)) := if l0.length < 17592186044416 then some l0 else none
theorem slices_Clone_int_int.calls (A0 : Option Addr) (c0 : Nat) (l0 : List (Int)) (r : List (Int)) (w : World) (hr0 : Kd.C (Kd.int .i64) w A0 l0.length l0) (hc0 : l0.length ≤ c0) (h : slices_Clone_int_int.f l0 = some r) :
  Calls Try.prog 64 #[.slice A0 l0.length c0] w fun e w' => ∃ v0_ : Value, e = .returned (v0_) ∧ Kd.R (Kd.int .i64) 3 w' w.heap.size (fun _ => True) v0_ r ∧ Below w.heap.size w w' := by
 have hlim : l0.length < 17592186044416 := by
  rcases Nat.lt_or_ge l0.length 17592186044416 with h1 | h1
  ·exact h1
  ·rw [slices_Clone_int_int.f, if_neg (by omega)] at h; cases h
 rw [slices_Clone_int_int.f, if_pos hlim] at h
 obtain rfl := Option.some.inj h
 clear h
 cases A0 with
 | none =>
  have hl : l0 = [] := by
   rcases l0 with _ | ⟨x, t⟩
   ·rfl
   ·obtain ⟨ad, e, _⟩ := hr0.2.2 (by simp)
    cases e
  subst hl
  have he : ∀ (w : World) (n c : Nat), (binOp .eql 26 (.slice none n c) (.slice none 0 0)).run Try.prog w = .ok (.bool true) w := fun _ _ _ => rfl
  go_enter Try.func64, Try.ntmps64
  go_wp2
  all_goals (go_ret; exact ⟨_, rfl, Kd.R_nil _ _ _ _ _, Below.refl _ _⟩)
 | some a0 =>
  have HR0 := am_ hr0
  have HC0 := am_ hc0
  clear hr0 hc0
  have HB := am_ (Below.refl w.heap.size w)
  have LM := am_ hlim
  clear hlim
  have he : ∀ (w : World) (n c : Nat), (binOp .eql 26 (.slice (some a0) n c) (.slice none 0 0)).run Try.prog w = .ok (.bool false) w := fun _ _ _ => rfl
  go_enter Try.func64, Try.ntmps64
  go_wp2_with (first | ((with_reducible refine Sh.d 5 ?_); refine Kd.R_lit (Kd.int .i64) _ 3 ?hg (N := 5) ?hd (xs := ([] : List (Int))) (inner := []) (ok := fun _ => True) (okp := fun _ => True) ?hr ?hp (fun _ hk => hk) trivial (Below.refl _ _) (Nat.le_refl _) (by simp) ?_; (case hd => rfl); (case hg => rfl); (case hr => first | (go_simp; done) | (go_simp; rfl)); (case hp => exact (Reps.none _ _)); intro v359 w3 ho4 hb hg_ hnew_; clear hg_ hnew_; have HO360 := am_ (Kd.R_lower ho4 (below_size Sh.bw)); replace HB := Sh.hb hb; clear hb ho4) | ((with_reducible refine gate_builtin (b := .append) (xs := #[.tmp 5, .tmp 6]) rfl ?_); at_builtin; refine Kd.R_append_rows (Kd.int .i64) (w0 := w) w.heap.size rfl (.tmp 5) (.tmp 6) 26 3 (.int .i64 0) 8 rfl Try.underlying26 info3 rfl (by decide) (by omega) v359 [] l0 _ _ _ (fun _ => True) (fun _ => False) rfl rfl ?aO ?aR (fun _ _ h => h) (fun _ h => h.elim) ?aF ?aB ?aS ?aL ?_; (case aR => repeat (first | exact (Kd.C_below HR0.out HB.out) | (with_reducible first | refine Kd.C_alloc ?_ _ | refine Kd.C_drewN ?_ _ | refine Kd.C_drew ?_))); (case aB => exact Sh.bw); (case aF => exact (fun _ _ => trivial)); (case aO => exact (Sh.rl HO360.out)); (case aS => exact (below_size Sh.bw)); (case aL => have := LM.out; simp only [List.length_nil]; omega); intro v362 w5 ho hb hg hat; rw [List.nil_append] at ho; have n0_ := am_ hb; have n1_ := am_ ho; clear HB; clear HO360; have HB := n0_; have HO363 := n1_; clear n0_ n1_; clear ho hb hg hat))
  go_ret
  exact ⟨_, rfl, HO363.out, HB.out⟩
mutual
def impl_stepsFrom.l0 : Nat → List (List Int) → List Int → List Int → List Int → Int → Int → Option (List Int)
 | 0, _, _, _, _, _, _ => none
 | k + 1, x0, x5, x6, x17, x18, x19 => if x19 < x18 then (if 0 ≤ x19 then (if x19 < (x17.length : Int) then (if 0 ≤ (rd x17 x19) then (if (rd x17 x19) < (x5.length : Int) then (impl_stepsFrom.l0 k x0 (x5.set ((rd x17 x19) : Int).toNat 0) x6 x17 x18 (wrap64 (x19 + 1))) else (none)) else (none)) else (none)) else (none)) else (impl_stepsFrom.l1 k x0 x5 x6)
def impl_stepsFrom.l1 : Nat → List (List Int) → List Int → List Int → Option (List Int)
 | 0, _, _, _ => none
 | k + 1, x0, x5, x6 => if (x6.length : Int) > 0 then (if 0 < (x6.length : Int) then (if 0 ≤ (rd x6 0) then (if (rd x6 0) < (x0.length : Int) then (impl_stepsFrom.l2 k x0 x5 x6 (rd_L1 x0 (rd x6 0)) ((rd_L1 x0 (rd x6 0)).length : Int) 0) else (none)) else (none)) else (none)) else (some x5)
def impl_stepsFrom.l2 : Nat → List (List Int) → List Int → List Int → List Int → Int → Int → Option (List Int)
 | 0, _, _, _, _, _, _ => none
 | k + 1, x0, x5, x6, x37, x38, x39 => if x39 < x38 then (if 0 ≤ x39 then (if x39 < (x37.length : Int) then (if 0 ≤ (rd x37 x39) then (if (rd x37 x39) < (x5.length : Int) then (if (rd x5 (rd x37 x39)) < 0 then (if 0 < (x6.length : Int) then (if 0 ≤ (rd x6 0) then (if (rd x6 0) < (x5.length : Int) then (if x6.length < 17592186044416 then (impl_stepsFrom.l2 k x0 (x5.set ((rd x37 x39) : Int).toNat (wrap64 ((rd x5 (rd x6 0)) + 1))) (x6 ++ [rd x37 x39]) x37 x38 (wrap64 (x39 + 1))) else (none)) else (none)) else (none)) else (none)) else (impl_stepsFrom.l2 k x0 x5 x6 x37 x38 (wrap64 (x39 + 1)))) else (none)) else (none)) else (none)) else (none)) else (if 1 ≤ (x6.length : Int) then (impl_stepsFrom.l1 k x0 x5 (x6.drop (1 : Int).toNat)) else (none))
end
def impl_stepsFrom.f (k : Nat) (l0 : List (List Int)) (l1 : List Int) : Option (List Int) := (slices_Repeat_int_int.f (([(-1)] : List Int)) (l0.length : Int)).bind fun t377 => ((slices_Clone_int_int.f l1).bind fun t380 => (impl_stepsFrom.l0 k l0 t377 t380 l1 (l1.length : Int) 0))
theorem impl_stepsFrom.mono_l : ∀ k, (∀ y0 y1 y2 y3 y4 y5, LeO (impl_stepsFrom.l0 k y0 y1 y2 y3 y4 y5) (impl_stepsFrom.l0 (k + 1) y0 y1 y2 y3 y4 y5)) ∧ (∀ y0 y1 y2, LeO (impl_stepsFrom.l1 k y0 y1 y2) (impl_stepsFrom.l1 (k + 1) y0 y1 y2)) ∧ (∀ y0 y1 y2 y3 y4 y5, LeO (impl_stepsFrom.l2 k y0 y1 y2 y3 y4 y5) (impl_stepsFrom.l2 (k + 1) y0 y1 y2 y3 y4 y5))
 | 0 => ⟨fun _ _ _ _ _ _ r h => by simp [impl_stepsFrom.l0] at h, fun _ _ _ r h => by simp [impl_stepsFrom.l1] at h, fun _ _ _ _ _ _ r h => by simp [impl_stepsFrom.l2] at h⟩
 | k + 1 => by
  obtain ⟨ih0, ih1, ih2⟩ := impl_stepsFrom.mono_l k
  and_intros <;> intros
  all_goals (first | unfold impl_stepsFrom.l0 | unfold impl_stepsFrom.l1 | unfold impl_stepsFrom.l2)
  all_goals repeat' with_reducible first | apply ih0 | apply ih1 | apply ih2 | exact LeO.refl _ | exact LeO.none _ | apply LeO.ite | refine LeO.bind ?_ fun _ => ?_
theorem impl_stepsFrom.mono : ∀ a0 a1 k, LeO (impl_stepsFrom.f k a0 a1) (impl_stepsFrom.f (k + 1) a0 a1) := by
 intro a0 a1 k
 obtain ⟨ih0, ih1, ih2⟩ := impl_stepsFrom.mono_l k
 unfold impl_stepsFrom.f
 repeat' with_reducible first | apply ih0 | apply ih1 | apply ih2 | exact LeO.refl _ | exact LeO.none _ | apply LeO.ite | refine LeO.bind ?_ fun _ => ?_
theorem impl_stepsFrom.calls (k : Nat) (A0 : Option Addr) (c0 : Nat) (l0 : List (List Int)) (A1 : Option Addr) (c1 : Nat) (l1 : List Int) (r : List Int) (w : World) (hr0 : Kd.C (Kd.slice 3 (Kd.int .i64)) w A0 l0.length l0) (hc0 : l0.length ≤ c0) (hr1 : Kd.C (Kd.int .i64) w A1 l1.length l1) (hc1 : l1.length ≤ c1) (h : impl_stepsFrom.f k l0 l1 = some r) :
  Calls Try.prog 72 #[.slice A0 l0.length c0, .slice A1 l1.length c1] w fun e w' => ∃ v0_ : Value, e = .returned (v0_) ∧ Kd.R (Kd.int .i64) 3 w' w.heap.size (fun _ => True) v0_ r ∧ Below w.heap.size w w' := by
 have HR0 := am_ hr0
 have HC0 := am_ hc0
 clear hr0 hc0
 have HR1 := am_ hr1
 have HC1 := am_ hc1
 clear hr1 hc1
 have HB := am_ (Below.refl w.heap.size w)
 have H := h
 clear h
 unfold impl_stepsFrom.f at H
 obtain ⟨y374, hy374⟩ : ∃ y_ : List Int, y_ = (([(-1)] : List Int)) := ⟨_, rfl⟩
 replace H : ((slices_Repeat_int_int.f y374 (l0.length : Int)).bind fun t377 => ((slices_Clone_int_int.f l1).bind fun t380 => (impl_stepsFrom.l0 k l0 t377 t380 l1 (l1.length : Int) 0))) = some r := by first | (rw [hy374]; with_reducible exact H) | (have H2_ := (Option.bind_some _ _).symm.trans H; rw [hy374]; with_reducible exact H2_) | (have H2_ := (Option.bind_some _ _).symm.trans H; with_reducible exact H2_) | with_reducible exact H | (rw [hy374]; exact H) | exact H
 have Ny374 := am_ hy374
 clear hy374
 obtain ⟨t377, A3, H⟩ := Sh.ba H
 obtain ⟨t380, A4, H⟩ := Sh.ba H
 have H' := am_ H
 clear H
 go_enter Try.func72, Try.ntmps72
 go_wp2_with (first | ((with_reducible refine Sh.d 11 ?_); refine Kd.R_lit (Kd.int .i64) _ 3 ?hg (N := 11) ?hd (xs := ([(-1)] : List Int)) (inner := [.int .i64 (-1)]) (ok := fun _ => True) (okp := fun _ => True) ?hr ?hp (fun _ hk => hk) trivial (Below.refl _ _) (Nat.le_refl _) (by simp) ?_; (case hd => rfl); (case hg => rfl); (case hr => first | (go_simp; done) | (go_simp; rfl)); (case hp => exact (Reps.one (show Kd.M (Kd.int .i64) _ _ _ (-1) [.int .i64 (-1)] from rfl) (Reps.none _ _))); intro v375 w5 ho6 hb hg_ hnew_; clear hg_ hnew_; (first | rw [← Ny374.out] at ho6 | (simp only [Int.reduceToNat] at ho6; rw [← Ny374.out] at ho6)); have HO376 := am_ (Kd.R_lower ho6 (below_size Sh.bw)); replace HB := Sh.hb hb; clear hb ho6; obtain ⟨Ao7, co7, eo7⟩ := Kd.R_slice HO376.out; subst eo7) | ((with_reducible refine Sh.k 32 ?_); refine Sh.gL (some 14) Try.func32 #[.slice Ao7 y374.length co7, .int .i64 (l0.length : Int)] (h := ?_); (with_reducible refine (slices_Repeat_int_int.calls _ _ y374 (l0.length : Int) t377 _ (Sh.cR (Kd.R_reads' HO376.out).2.2) (Kd.R_reads' HO376.out).2.1 A3.out).mono ?_); rintro e w8 ⟨v378, rfl, ho0, hb⟩; refine ⟨_, rfl, ?_⟩; have HO379 := am_ (Kd.R_lower (Kd.R_new' ho0 (Kd.R_lt (Sh.rl HO376.out))) (below_size Sh.bw)); replace HO376 := am_ (Kd.R_elder' (Sh.rl HO376.out) (Kd.R_base ho0) hb); replace HB := Sh.hb hb; (try clear hb); (try clear hb2); (try clear hk); (try clear hi); (try clear ho0)) | ((with_reducible refine Sh.k 64 ?_); refine Sh.gL (some 16) Try.func64 #[.slice A1 l1.length c1] (h := ?_); (with_reducible refine (slices_Clone_int_int.calls _ _ l1 t380 _ (Sh.cB HR1.out) HC1.out A4.out).mono ?_); rintro e w9 ⟨v381, rfl, ho0, hb⟩; refine ⟨_, rfl, ?_⟩; have HO382 := am_ (Kd.R_lower (Kd.R_new' (Kd.R_new' ho0 (Kd.R_lt (Sh.rl HO376.out))) (Kd.R_lt (Sh.rl HO379.out))) (below_size Sh.bw)); replace HO376 := am_ (Kd.R_elder' (Sh.rl HO376.out) (Kd.R_base ho0) hb); replace HO379 := am_ (Kd.R_elder' (Sh.rl HO379.out) (Kd.R_base ho0) hb); replace HB := Sh.hb hb; (try clear hb); (try clear hb2); (try clear hk); (try clear hi); (try clear ho0)))
 go_loopg [19] k (fun kq v19 w' => ∃ (x5_1 : List Int) (x19_1 : Int), v19 = .int .i64 x19_1 ∧ Aside0 (impl_stepsFrom.l0 kq l0 x5_1 t380 l1 (l1.length : Int) x19_1 = some r) ∧ Aside0 (kq ≤ k) ∧ Aside0 (Kd.R (Kd.int .i64) 3 w' w.heap.size (fun k_ => some k_ ≠ (v381 : Value).ownBlock) v378 x5_1) ∧ Aside0 (Kd.Q (Kd.int .i64) 3 w' w.heap.size (fun k_ => some k_ ≠ (v378 : Value).ownBlock) v381 t380) ∧ Aside0 (Below w.heap.size w w'))
 case atStart => exact ⟨(t377), (0), (Sh.es), H', ⟨Nat.le_refl _⟩, ⟨Sh.rl (Kd.R_mono HO379.out (fun _ hk => hk.2))⟩, ⟨Kd.Q_of_R (Sh.rl (Kd.R_mono HO382.out (fun _ hk => hk.2)))⟩, ⟨Sh.bw⟩⟩
 case round =>
  clear H'
  obtain ⟨x5_1, x19_1, rfl, HA, HK1, HO_5, HO_6, HB⟩ := hrel
  cases gk with
  | zero => exact absurd HA.out (by simp [impl_stepsFrom.l0])
  | succ k1 =>
   have H := HA.out
   clear HA
   simp only [impl_stepsFrom.l0] at H
   by_cases c10 : x19_1 < (l1.length : Int)
   ·rw [if_pos c10] at H
    have c10b0 := decide_eq_true c10
    clear c10
    by_cases c11 : 0 ≤ x19_1
    ·rw [if_pos c11] at H
     have c11b0 := decide_eq_true c11
     clear c11
     by_cases c12 : x19_1 < (l1.length : Int)
     ·rw [if_pos c12] at H
      have c12b0 := decide_eq_true c12
      clear c12
      by_cases c13 : 0 ≤ (rd l1 x19_1)
      ·rw [if_pos c13] at H
       have c13b0 := decide_eq_true c13
       clear c13
       by_cases c14 : (rd l1 x19_1) < (x5_1.length : Int)
       ·rw [if_pos c14] at H
        have c14b0 := decide_eq_true c14
        clear c14
        obtain ⟨y384, hy384⟩ : ∃ y_ : List Int, y_ = (x5_1.set ((rd l1 x19_1) : Int).toNat 0) := ⟨_, rfl⟩
        replace H : (impl_stepsFrom.l0 k1 l0 y384 t380 l1 (l1.length : Int) (wrap64 (x19_1 + 1))) = some r := by first | (rw [hy384]; with_reducible exact H) | (have H2_ := (Option.bind_some _ _).symm.trans H; rw [hy384]; with_reducible exact H2_) | (have H2_ := (Option.bind_some _ _).symm.trans H; with_reducible exact H2_) | with_reducible exact H | (rw [hy384]; exact H) | exact H
        have Ny384 := am_ hy384
        clear hy384
        have H' := am_ H
        clear H
        have p383 : 0 ≤ (x19_1 : Int) := Sh.od
        have q383 : x19_1 < (l1.length : Int) := Sh.od
        obtain ⟨ad383, e383, hx383_0⟩ := Kd.at_int HR1.out x19_1 p383 q383
        cases e383
        try replace hx383_0 := Sh.cw hx383_0
        replace p383 := eq_true p383
        replace q383 := eq_true q383
        have p15 : 0 ≤ ((rd l1 x19_1) : Int) := Sh.od
        have q15 : ((rd l1 x19_1) : Int) < ((x5_1.length : Int) : Int) := Sh.od
        obtain ⟨go15, co15, eo15, gb15, gl15, cl15, HG15⟩ := Kd.R_form HO_5.out (by omega)
        (first | cases eo15 | (injection eo15 with ea_ en_ ec_; (first | subst ea_ | (injection ea_ with ea_; subst ea_)); subst ec_; clear en_))
        have GB15 := am_ gb15
        have GG15 := am_ HG15
        clear gb15 gl15 HG15
        obtain ⟨hx15_0, hf15_0⟩ := Kd.R_celln 0 HO_5.out ((rd l1 x19_1) : Int) p15 q15
        replace p15 := eq_true p15
        replace q15 := eq_true q15
        have HP16 := Kd.R_putg HO_5.out ((rd l1 x19_1) : Int) 0
        go_wp2_with (first | ((with_reducible refine gate_store (t := 3) (p := 25) rfl ?_); refine store_event (t := 3) (p := 25) (v := ?vo_w17) (w1 := (wr.setCell ⟨go15, ((rd l1 x19_1) : Int).toNat, none⟩ (.int .i64 0))) ?hg ?ho ?hn ?hr ?_; (case ho => rfl); (case hg => rfl); (case hn => rfl); (case hr => first | (go_simp; done) | (go_simp; rfl)); intro w17 hw; have hg : wr.grownBy w17 (some go15) := (by rw [hw]; exact HP16.2); have hp_ : Kd.R (Kd.int .i64) 3 w17 w.heap.size (fun k_ => some k_ ≠ (v381 : Value).ownBlock) (.slice (some ⟨go15, 0, none⟩) x5_1.length co15) y384 := (by rw [hw, Ny384.out]; exact HP16.1); clear HP16; replace HO_5 := am_ hp_; replace HO_6 := am_ (Kd.Q_after (v := (.slice (some ⟨go15, 0, none⟩) x5_1.length co15)) (v1 := (.slice (some ⟨go15, 0, none⟩) x5_1.length co15)) (ok := (fun _ => True)) (by (with_reducible repeat (first | apply Kd.Q_alloc | apply Kd.Q_drewN | apply Kd.Q_drew)); exact Kd.Q_mono HO_6.out (fun _ hk => ⟨trivial, hk⟩)) hg (.inl rfl)); replace HB := am_ ((by rw [hw]; exact below_set (HB.out) GB15.out : Below w.heap.size w w17)); clear hg hw hp_))
        go_roundg k1
        case measure => have := HK1.out; omega
        case rel => exact ⟨(y384), (wrap64 (x19_1 + 1)), (Sh.es), H', ⟨by have := HK1.out; omega⟩, ⟨Sh.rl HO_5.out⟩, ⟨by (with_reducible repeat (first | apply Kd.Q_alloc | apply Kd.Q_drewN | apply Kd.Q_drew)); exact Kd.Q_mono HO_6.out (fun _ hk => hk.2)⟩, ⟨Sh.bw⟩⟩
       ·rw [if_neg c14] at H
        exact absurd H (by simp)
      ·rw [if_neg c13] at H
       exact absurd H (by simp)
     ·rw [if_neg c12] at H
      exact absurd H (by simp)
    ·rw [if_neg c11] at H
     exact absurd H (by simp)
   ·rw [if_neg c10] at H
    have c10b0 := decide_eq_false c10
    clear c10
    have H' := am_ H
    clear H
    go_wp2
    go_loopg [6] k1 (fun kq v6 w' => ∃ (x5_2 : List Int) (x6_2 : List Int), Aside0 (impl_stepsFrom.l1 kq l0 x5_2 x6_2 = some r) ∧ Aside0 (kq ≤ k1) ∧ Aside0 (Kd.R (Kd.int .i64) 3 w' w.heap.size (fun k_ => some k_ ≠ (v6 : Value).ownBlock) v378 x5_2) ∧ Aside0 (Kd.Q (Kd.int .i64) 3 w' w.heap.size (fun k_ => some k_ ≠ (v378 : Value).ownBlock) v6 x6_2) ∧ Aside0 (Below w.heap.size w w'))
    case atStart => exact ⟨(x5_1), (t380), H', ⟨Nat.le_refl _⟩, ⟨Sh.rl HO_5.out⟩, ⟨by (with_reducible repeat (first | apply Kd.Q_alloc | apply Kd.Q_drewN | apply Kd.Q_drew)); exact HO_6.out⟩, ⟨Sh.bw⟩⟩
    case round =>
     clear H'
     try clear hx1
     try clear hx3
     try clear hx15
     try clear hf15
     try clear hx15_0
     try clear hx383_0
     obtain ⟨x5_2, x6_2, HA, HK2, HO_5, HO_6, HB⟩ := hrel
     cases gk with
     | zero => exact absurd HA.out (by simp [impl_stepsFrom.l1])
     | succ k2 =>
      have H := HA.out
      clear HA
      simp only [impl_stepsFrom.l1] at H
      by_cases c18 : (x6_2.length : Int) > 0
      ·rw [if_pos c18] at H
       have c18b0 : decide (0 < (x6_2.length : Int)) = true := decide_eq_true c18
       have c18b1 : decide (0 < x6_2.length) = true := decide_eq_true (by omega)
       clear c18
       by_cases c19 : 0 < (x6_2.length : Int)
       ·rw [if_pos c19] at H
        have c19b0 := decide_eq_true c19
        have c19b1 : decide (0 < x6_2.length) = true := decide_eq_true (by omega)
        clear c19
        by_cases c20 : 0 ≤ (rd x6_2 0)
        ·rw [if_pos c20] at H
         have c20b0 := decide_eq_true c20
         clear c20
         by_cases c21 : (rd x6_2 0) < (l0.length : Int)
         ·rw [if_pos c21] at H
          have c21b0 := decide_eq_true c21
          clear c21
          have H' := am_ H
          clear H
          obtain ⟨Ao22, co22, eo22, _⟩ := Kd.Q_slice HO_6.out
          subst eo22
          have p385 : 0 ≤ (0 : Int) := (by omega)
          have q385 : 0 < (x6_2.length : Int) := Sh.od
          obtain ⟨ad385, e385, hx385_0⟩ := Kd.at_int (Kd.Q_reads' HO_6.out).2.2 0 p385 q385
          cases e385
          have qi385 : (0 < x6_2.length) = True := eq_true (by omega)
          (try rw [show ((0 : Int)).toNat = 0 from rfl] at hx385_0)
          (try rw [Addr.add_zero'] at hx385_0)
          replace p385 := eq_true p385
          replace q385 := eq_true q385
          have p386 : 0 ≤ ((rd x6_2 0) : Int) := Sh.od
          have q386 : (rd x6_2 0) < (l0.length : Int) := Sh.od
          obtain ⟨ad386, A386_0, c386_0, e386, hx386_0, hl386_0, hi386_0⟩ := at_L1 HR0.out (rd x6_2 0) p386 q386
          cases e386
          try replace hx386_0 := Sh.cw hx386_0
          have HR386_0 := am_ hi386_0
          have HC386_0 := am_ hl386_0
          clear hi386_0 hl386_0
          replace p386 := eq_true p386
          replace q386 := eq_true q386
          go_wp2
          go_loopg [6, 39] k2 (fun kq v6 v39 w' => ∃ (x5_3 : List Int) (x6_3 : List Int) (x39_3 : Int), v39 = .int .i64 x39_3 ∧ Aside0 (impl_stepsFrom.l2 kq l0 x5_3 x6_3 (rd_L1 l0 (rd x6_2 0)) ((rd_L1 l0 (rd x6_2 0)).length : Int) x39_3 = some r) ∧ Aside0 (kq ≤ k2) ∧ Aside0 (Kd.R (Kd.int .i64) 3 w' w.heap.size (fun k_ => some k_ ≠ (v6 : Value).ownBlock) v378 x5_3) ∧ Aside0 (Kd.Q (Kd.int .i64) 3 w' w.heap.size (fun k_ => some k_ ≠ (v378 : Value).ownBlock) v6 x6_3) ∧ Aside0 (Below w.heap.size w w'))
          case atStart => exact ⟨(x5_2), (x6_2), (0), (Sh.es), H', ⟨Nat.le_refl _⟩, ⟨Sh.rl HO_5.out⟩, ⟨by (with_reducible repeat (first | apply Kd.Q_alloc | apply Kd.Q_drewN | apply Kd.Q_drew)); exact HO_6.out⟩, ⟨Sh.bw⟩⟩
          case round =>
           clear H'
           try clear hx1
           try clear hx3
           try clear qi3
           try clear hx15
           try clear hf15
           try clear hx15_0
           try clear hx383_0
           try clear hx385_0
           try clear hx386_0
           obtain ⟨x5_3, x6_3, x39_3, rfl, HA, HK3, HO_5, HO_6, HB⟩ := hrel
           cases gk with
           | zero => exact absurd HA.out (by simp [impl_stepsFrom.l2])
           | succ k3 =>
            have H := HA.out
            clear HA
            simp only [impl_stepsFrom.l2] at H
            by_cases c23 : x39_3 < ((rd_L1 l0 (rd x6_2 0)).length : Int)
            ·rw [if_pos c23] at H
             have c23b0 := decide_eq_true c23
             clear c23
             by_cases c24 : 0 ≤ x39_3
             ·rw [if_pos c24] at H
              have c24b0 := decide_eq_true c24
              clear c24
              by_cases c25 : x39_3 < ((rd_L1 l0 (rd x6_2 0)).length : Int)
              ·rw [if_pos c25] at H
               have c25b0 := decide_eq_true c25
               clear c25
               by_cases c26 : 0 ≤ (rd (rd_L1 l0 (rd x6_2 0)) x39_3)
               ·rw [if_pos c26] at H
                have c26b0 := decide_eq_true c26
                clear c26
                by_cases c27 : (rd (rd_L1 l0 (rd x6_2 0)) x39_3) < (x5_3.length : Int)
                ·rw [if_pos c27] at H
                 have c27b0 := decide_eq_true c27
                 clear c27
                 by_cases c28 : (rd x5_3 (rd (rd_L1 l0 (rd x6_2 0)) x39_3)) < 0
                 ·rw [if_pos c28] at H
                  have c28b0 := decide_eq_true c28
                  clear c28
                  by_cases c29 : 0 < (x6_3.length : Int)
                  ·rw [if_pos c29] at H
                   have c29b0 := decide_eq_true c29
                   have c29b1 : decide (0 < x6_3.length) = true := decide_eq_true (by omega)
                   clear c29
                   by_cases c30 : 0 ≤ (rd x6_3 0)
                   ·rw [if_pos c30] at H
                    have c30b0 := decide_eq_true c30
                    clear c30
                    by_cases c31 : (rd x6_3 0) < (x5_3.length : Int)
                    ·rw [if_pos c31] at H
                     have c31b0 := decide_eq_true c31
                     clear c31
                     obtain ⟨y391, hy391⟩ : ∃ y_ : List Int, y_ = (x5_3.set ((rd (rd_L1 l0 (rd x6_2 0)) x39_3) : Int).toNat (wrap64 ((rd x5_3 (rd x6_3 0)) + 1))) := ⟨_, rfl⟩
                     replace H : (if x6_3.length < 17592186044416 then (impl_stepsFrom.l2 k3 l0 y391 (x6_3 ++ [rd (rd_L1 l0 (rd x6_2 0)) x39_3]) (rd_L1 l0 (rd x6_2 0)) ((rd_L1 l0 (rd x6_2 0)).length : Int) (wrap64 (x39_3 + 1))) else (none)) = some r := by first | (rw [hy391]; with_reducible exact H) | (have H2_ := (Option.bind_some _ _).symm.trans H; rw [hy391]; with_reducible exact H2_) | (have H2_ := (Option.bind_some _ _).symm.trans H; with_reducible exact H2_) | with_reducible exact H | (rw [hy391]; exact H) | exact H
                     have Ny391 := am_ hy391
                     clear hy391
                     by_cases c33 : x6_3.length < 17592186044416
                     ·rw [if_pos c33] at H
                      have LMc33 := am_ c33
                      clear c33
                      obtain ⟨y392, hy392⟩ : ∃ y_ : List Int, y_ = (x6_3 ++ [rd (rd_L1 l0 (rd x6_2 0)) x39_3]) := ⟨_, rfl⟩
                      replace H : (impl_stepsFrom.l2 k3 l0 y391 y392 (rd_L1 l0 (rd x6_2 0)) ((rd_L1 l0 (rd x6_2 0)).length : Int) (wrap64 (x39_3 + 1))) = some r := by first | (rw [hy392]; with_reducible exact H) | (have H2_ := (Option.bind_some _ _).symm.trans H; rw [hy392]; with_reducible exact H2_) | (have H2_ := (Option.bind_some _ _).symm.trans H; with_reducible exact H2_) | with_reducible exact H | (rw [hy392]; exact H) | exact H
                      have Ny392 := am_ hy392
                      clear hy392
                      have H' := am_ H
                      clear H
                      have p387 : 0 ≤ (x39_3 : Int) := Sh.od
                      have q387 : x39_3 < ((rd_L1 l0 (rd x6_2 0)).length : Int) := Sh.od
                      obtain ⟨ad387, e387, hx387_0⟩ := Kd.at_int HR386_0.out x39_3 p387 q387
                      cases e387
                      try replace hx387_0 := Sh.cw hx387_0
                      replace p387 := eq_true p387
                      replace q387 := eq_true q387
                      obtain ⟨Ao34, co34, eo34⟩ := Kd.R_slice HO_5.out
                      subst eo34
                      have p388 : 0 ≤ ((rd (rd_L1 l0 (rd x6_2 0)) x39_3) : Int) := Sh.od
                      have q388 : (rd (rd_L1 l0 (rd x6_2 0)) x39_3) < (x5_3.length : Int) := Sh.od
                      obtain ⟨ad388, e388, hx388_0⟩ := Kd.at_int (Kd.R_reads' HO_5.out).2.2 (rd (rd_L1 l0 (rd x6_2 0)) x39_3) p388 q388
                      cases e388
                      replace p388 := eq_true p388
                      replace q388 := eq_true q388
                      obtain ⟨Ao35, co35, eo35, _⟩ := Kd.Q_slice HO_6.out
                      subst eo35
                      have p389 : 0 ≤ (0 : Int) := (by omega)
                      have q389 : 0 < (x6_3.length : Int) := Sh.od
                      obtain ⟨ad389, e389, hx389_0⟩ := Kd.at_int (Kd.Q_reads' HO_6.out).2.2 0 p389 q389
                      cases e389
                      have qi389 : (0 < x6_3.length) = True := eq_true (by omega)
                      (try rw [show ((0 : Int)).toNat = 0 from rfl] at hx389_0)
                      (try rw [Addr.add_zero'] at hx389_0)
                      replace p389 := eq_true p389
                      replace q389 := eq_true q389
                      have p390 : 0 ≤ ((rd x6_3 0) : Int) := Sh.od
                      have q390 : (rd x6_3 0) < (x5_3.length : Int) := Sh.od
                      obtain ⟨ad390, e390, hx390_0⟩ := Kd.at_int (Kd.R_reads' HO_5.out).2.2 (rd x6_3 0) p390 q390
                      obtain rfl : ad388 = ad390 := (by injection e390)
                      replace p390 := eq_true p390
                      replace q390 := eq_true q390
                      have p32 : 0 ≤ ((rd (rd_L1 l0 (rd x6_2 0)) x39_3) : Int) := Sh.od
                      have q32 : ((rd (rd_L1 l0 (rd x6_2 0)) x39_3) : Int) < ((x5_3.length : Int) : Int) := Sh.od
                      obtain ⟨go32, co32, eo32, gb32, gl32, cl32, HG32⟩ := Kd.R_form HO_5.out (by omega)
                      (first | cases eo32 | (injection eo32 with ea_ en_ ec_; (first | subst ea_ | (injection ea_ with ea_; subst ea_)); subst ec_; clear en_))
                      have GB32 := am_ gb32
                      have GG32 := am_ HG32
                      clear gb32 gl32 HG32
                      (first | simp only [add_plain] at hx388_0 | skip)
                      (first | simp only [add_plain] at hx390_0 | skip)
                      obtain ⟨hx32_0, hf32_0⟩ := Kd.R_celln 0 HO_5.out ((rd (rd_L1 l0 (rd x6_2 0)) x39_3) : Int) p32 q32
                      replace p32 := eq_true p32
                      replace q32 := eq_true q32
                      have HP36 := Kd.R_putg HO_5.out ((rd (rd_L1 l0 (rd x6_2 0)) x39_3) : Int) (wrap64 ((rd x5_3 (rd x6_3 0)) + 1))
                      go_wp2_with (first | ((with_reducible refine gate_store (t := 3) (p := 57) rfl ?_); refine store_event (t := 3) (p := 57) (v := ?vo_w37) (w1 := (wr.setCell ⟨go32, ((rd (rd_L1 l0 (rd x6_2 0)) x39_3) : Int).toNat, none⟩ (.int .i64 (wrap64 ((rd x5_3 (rd x6_3 0)) + 1))))) ?hg ?ho ?hn ?hr ?_; (case ho => rfl); (case hg => rfl); (case hn => rfl); (case hr => first | (go_simp; done) | (go_simp; rfl)); intro w37 hw; have hg : wr.grownBy w37 (some go32) := (by rw [hw]; exact HP36.2); have hp_ : Kd.R (Kd.int .i64) 3 w37 w.heap.size (fun k_ => some k_ ≠ (.slice (some ad389) x6_3.length co35 : Value).ownBlock) (.slice (some ⟨go32, 0, none⟩) x5_3.length co34) y391 := (by rw [hw, Ny391.out]; exact HP36.1); clear HP36; replace HO_5 := am_ hp_; replace HO_6 := am_ (Kd.Q_after (v := (.slice (some ⟨go32, 0, none⟩) x5_3.length co34)) (v1 := (.slice (some ⟨go32, 0, none⟩) x5_3.length co34)) (ok := (fun _ => True)) (by (with_reducible repeat (first | apply Kd.Q_alloc | apply Kd.Q_drewN | apply Kd.Q_drew)); exact Kd.Q_mono HO_6.out (fun _ hk => ⟨trivial, hk⟩)) hg (.inl rfl)); replace HB := am_ ((by rw [hw]; exact below_set (HB.out) GB32.out : Below w.heap.size w w37)); clear hg hw hp_) | ((with_reducible refine gate_builtin (b := .append) (xs := #[.tmp 58, .tmp 60]) rfl ?_); at_builtin; refine Kd.Q_append (Kd.int .i64) (w0 := w) w.heap.size rfl (.tmp 58) (.tmp 60) 26 3 (.int .i64 0) 8 rfl Try.underlying26 info3 rfl (by decide) (by omega) (.slice (some ad389) x6_3.length co35) x6_3 (rd (rd_L1 l0 (rd x6_2 0)) x39_3) [.int .i64 (rd (rd_L1 l0 (rd x6_2 0)) x39_3)] (fun k_ => some k_ ≠ (.slice (some ⟨go32, 0, none⟩) x5_3.length co34 : Value).ownBlock) (fun _ => False) rfl rfl ?aP (fun _ hk => hk.elim) ?aF ?aO ?aB ?aS ?aL ?_; (case aP => exact rfl); (case aB => exact Sh.bw); (case aF => exact (fun k_ hk => Kd.fresh' (Kd.R_lt (Sh.rl HO_5.out)) k_ hk)); (case aO => exact (by (with_reducible repeat (first | apply Kd.Q_alloc | apply Kd.Q_drewN | apply Kd.Q_drew)); exact Kd.Q_mono HO_6.out (fun _ hk => hk.2))); (case aS => exact (below_size Sh.bw)); (case aL => have := LMc33.out; omega); intro v393 w38 ho hb hg hat; rw [← Ny392.out] at ho; have n0_ := am_ (Kd.R_after (ok := (fun _ => True)) (Sh.rl (Kd.R_mono HO_5.out (fun _ hk => ⟨trivial, hk⟩))) hg hat); have n1_ := am_ hb; have n2_ := am_ ho; clear HO_5; clear HB; clear HO_6; have HO_5 := n0_; have HB := n1_; have HO394 := n2_; clear n0_ n1_ n2_; clear ho hb hg hat))
                      go_roundg k3
                      case measure => have := HK1.out; have := HK2.out; have := HK3.out; omega
                      case rel => exact ⟨(y391), (y392), (wrap64 (x39_3 + 1)), (Sh.es), H', ⟨by have := HK1.out; have := HK2.out; have := HK3.out; omega⟩, ⟨Sh.rl (Kd.R_mono HO_5.out (fun _ hk => hk.2))⟩, ⟨by (with_reducible repeat (first | apply Kd.Q_alloc | apply Kd.Q_drewN | apply Kd.Q_drew)); exact HO394.out⟩, ⟨Sh.bw⟩⟩
                     ·rw [if_neg c33] at H
                      exact absurd H (by simp)
                    ·rw [if_neg c31] at H
                     exact absurd H (by simp)
                   ·rw [if_neg c30] at H
                    exact absurd H (by simp)
                  ·rw [if_neg c29] at H
                   exact absurd H (by simp)
                 ·rw [if_neg c28] at H
                  have c28b0 := decide_eq_false c28
                  clear c28
                  have H' := am_ H
                  clear H
                  have p387 : 0 ≤ (x39_3 : Int) := Sh.od
                  have q387 : x39_3 < ((rd_L1 l0 (rd x6_2 0)).length : Int) := Sh.od
                  obtain ⟨ad387, e387, hx387_0⟩ := Kd.at_int HR386_0.out x39_3 p387 q387
                  cases e387
                  try replace hx387_0 := Sh.cw hx387_0
                  replace p387 := eq_true p387
                  replace q387 := eq_true q387
                  obtain ⟨Ao39, co39, eo39⟩ := Kd.R_slice HO_5.out
                  subst eo39
                  have p388 : 0 ≤ ((rd (rd_L1 l0 (rd x6_2 0)) x39_3) : Int) := Sh.od
                  have q388 : (rd (rd_L1 l0 (rd x6_2 0)) x39_3) < (x5_3.length : Int) := Sh.od
                  obtain ⟨ad388, e388, hx388_0⟩ := Kd.at_int (Kd.R_reads' HO_5.out).2.2 (rd (rd_L1 l0 (rd x6_2 0)) x39_3) p388 q388
                  cases e388
                  replace p388 := eq_true p388
                  replace q388 := eq_true q388
                  go_wp2
                  go_roundg k3
                  case measure => have := HK1.out; have := HK2.out; have := HK3.out; omega
                  case rel => exact ⟨(x5_3), (x6_3), (wrap64 (x39_3 + 1)), (Sh.es), H', ⟨by have := HK1.out; have := HK2.out; have := HK3.out; omega⟩, ⟨Sh.rl HO_5.out⟩, ⟨by (with_reducible repeat (first | apply Kd.Q_alloc | apply Kd.Q_drewN | apply Kd.Q_drew)); exact HO_6.out⟩, ⟨Sh.bw⟩⟩
                ·rw [if_neg c27] at H
                 exact absurd H (by simp)
               ·rw [if_neg c26] at H
                exact absurd H (by simp)
              ·rw [if_neg c25] at H
               exact absurd H (by simp)
             ·rw [if_neg c24] at H
              exact absurd H (by simp)
            ·rw [if_neg c23] at H
             have c23b0 := decide_eq_false c23
             clear c23
             by_cases c40 : 1 ≤ (x6_3.length : Int)
             ·rw [if_pos c40] at H
              have c40b0 := eq_true c40
              have c40b1 := decide_eq_true c40
              clear c40
              obtain ⟨y395, hy395⟩ : ∃ y_ : List Int, y_ = (x6_3.drop (1 : Int).toNat) := ⟨_, rfl⟩
              replace H : (impl_stepsFrom.l1 k3 l0 x5_3 y395) = some r := by first | (rw [hy395]; with_reducible exact H) | (have H2_ := (Option.bind_some _ _).symm.trans H; rw [hy395]; with_reducible exact H2_) | (have H2_ := (Option.bind_some _ _).symm.trans H; with_reducible exact H2_) | with_reducible exact H | (rw [hy395]; exact H) | exact H
              have Ny395 := am_ hy395
              clear hy395
              have H' := am_ H
              clear H
              obtain ⟨Ao41, co41, eo41, _⟩ := Kd.Q_slice HO_6.out
              subst eo41
              have q42 : (1 : Int) ≤ ((x6_3.length : Int) : Int) := Sh.od
              obtain ⟨i042, hi042, _, hsz42, _⟩ := info_parts info3
              have hcut42 := cut_from (P := Try.prog) 26 3 .i64 Try.underlying26 hi042 1 hsz42 Ao41 x6_3.length co41 1 (by omega) q42
              have hr42 := Kd.Q_drop (k := (1 : Int).toNat) HO_6.out (by omega)
              obtain ⟨A42, hA42⟩ : ∃ A1, A1 = (if co41 = (1 : Int).toNat then Ao41 else (Ao41 : Option Addr).map (·.add ((1 : Int).toNat * 1))) := ⟨_, rfl⟩
              obtain ⟨c42, hc42⟩ : ∃ c1, c1 = co41 - (1 : Int).toNat := ⟨_, rfl⟩
              have hy42 : y395.length = x6_3.length - (1 : Int).toNat := (by rw [Ny395.out, List.length_drop])
              rw [← Ny395.out] at hr42
              rw [← hy42, ← hA42, ← hc42] at hcut42
              replace hr42 : Kd.Q (Kd.int .i64) 3 wr w.heap.size (fun k_ => some k_ ≠ (v378 : Value).ownBlock) (.slice A42 y395.length c42) y395 := (by rw [hA42, hc42, hy42]; exact hr42)
              have HE42 : Aside0 ((Value.slice A42 y395.length c42).ownBlock = (.slice Ao41 x6_3.length co41 : Value).ownBlock) := ⟨by rw [hA42]; split <;> (cases (Ao41 : Option Addr) <;> rfl)⟩
              clear hy42 hi042 hsz42 HO_6 hA42 hc42
              have HO397 := am_ hr42
              clear hr42
              replace q42 := eq_true q42
              have n_ := am_ (Kd.R_mono (ok' := fun k_ => some k_ ≠ (.slice A42 y395.length c42 : Value).ownBlock) HO_5.out (fun k_ hk => (by rw [HE42.out]; exact hk)))
              clear HO_5
              have HO_5 := n_
              clear n_
              go_wp2
              go_roundg k3
              case measure => have := HK1.out; have := HK2.out; have := HK3.out; omega
              case rel => exact ⟨(x5_3), (y395), H', ⟨by have := HK1.out; have := HK2.out; have := HK3.out; omega⟩, ⟨Sh.rl HO_5.out⟩, ⟨by (with_reducible repeat (first | apply Kd.Q_alloc | apply Kd.Q_drewN | apply Kd.Q_drew)); exact HO397.out⟩, ⟨Sh.bw⟩⟩
             ·rw [if_neg c40] at H
              exact absurd H (by simp)
         ·rw [if_neg c21] at H
          exact absurd H (by simp)
        ·rw [if_neg c20] at H
         exact absurd H (by simp)
       ·rw [if_neg c19] at H
        exact absurd H (by simp)
      ·rw [if_neg c18] at H
       have c18b0 : decide (0 < (x6_2.length : Int)) = false := decide_eq_false c18
       have c18b1 : decide (0 < x6_2.length) = false := decide_eq_false (by omega)
       clear c18
       obtain rfl := Option.some.inj H
       obtain ⟨Ao43, co43, eo43, _⟩ := Kd.Q_slice HO_6.out
       subst eo43
       go_wp2
       go_ret
       exact ⟨_, Sh.eR, Sh.rl (Kd.R_mono HO_5.out (fun _ hk => trivial)), Sh.bw⟩
def impl_reachedFrom.l0 : Nat → List Int → List Int → Int → Int → Option (List Int)
 | 0, _, _, _, _ => none
 | k + 1, x5, x11, x12, x13 => if x13 < x12 then (if 0 ≤ x13 then (if x13 < (x11.length : Int) then (if (rd x11 x13) ≥ 0 then (if x5.length < 17592186044416 then (impl_reachedFrom.l0 k (x5 ++ [x13]) x11 x12 (wrap64 (x13 + 1))) else (none)) else (impl_reachedFrom.l0 k x5 x11 x12 (wrap64 (x13 + 1)))) else (none)) else (none)) else (some x5)
def impl_reachedFrom.f (k : Nat) (l0 : List (List Int)) (l1 : List Int) : Option (List Int) := (impl_stepsFrom.f k l0 l1).bind fun t506 => (impl_reachedFrom.l0 k (([] : List Int)) t506 (t506.length : Int) 0)
theorem impl_reachedFrom.mono_l : ∀ k, (∀ y0 y1 y2 y3, LeO (impl_reachedFrom.l0 k y0 y1 y2 y3) (impl_reachedFrom.l0 (k + 1) y0 y1 y2 y3))
 | 0 => fun _ _ _ _ r h => by simp [impl_reachedFrom.l0] at h
 | k + 1 => by
  have ih0 := impl_reachedFrom.mono_l k
  ·intro y0 y1 y2 y3
   unfold impl_reachedFrom.l0
   repeat' with_reducible first | apply ih0 | apply impl_stepsFrom.mono | exact LeO.refl _ | exact LeO.none _ | apply LeO.ite | refine LeO.bind ?_ fun _ => ?_
theorem impl_reachedFrom.mono : ∀ a0 a1 k, LeO (impl_reachedFrom.f k a0 a1) (impl_reachedFrom.f (k + 1) a0 a1) := by
 intro a0 a1 k
 have ih0 := impl_reachedFrom.mono_l k
 unfold impl_reachedFrom.f
 repeat' with_reducible first | apply ih0 | apply impl_stepsFrom.mono | exact LeO.refl _ | exact LeO.none _ | apply LeO.ite | refine LeO.bind ?_ fun _ => ?_
theorem impl_reachedFrom.calls (k : Nat) (A0 : Option Addr) (c0 : Nat) (l0 : List (List Int)) (A1 : Option Addr) (c1 : Nat) (l1 : List Int) (r : List Int) (w : World) (hr0 : Kd.C (Kd.slice 3 (Kd.int .i64)) w A0 l0.length l0) (hc0 : l0.length ≤ c0) (hr1 : Kd.C (Kd.int .i64) w A1 l1.length l1) (hc1 : l1.length ≤ c1) (h : impl_reachedFrom.f k l0 l1 = some r) :
  Calls Try.prog 54 #[.slice A0 l0.length c0, .slice A1 l1.length c1] w fun e w' => ∃ v0_ : Value, e = .returned (v0_) ∧ Kd.R (Kd.int .i64) 3 w' w.heap.size (fun _ => True) v0_ r ∧ Below w.heap.size w w' := by
 have HR0 := am_ hr0
 have HC0 := am_ hc0
 clear hr0 hc0
 have HR1 := am_ hr1
 have HC1 := am_ hc1
 clear hr1 hc1
 have HB := am_ (Below.refl w.heap.size w)
 have H := h
 clear h
 unfold impl_reachedFrom.f at H
 obtain ⟨y503, hy503⟩ : ∃ y_ : List Int, y_ = (([] : List Int)) := ⟨_, rfl⟩
 replace H : ((impl_stepsFrom.f k l0 l1).bind fun t506 => (impl_reachedFrom.l0 k y503 t506 (t506.length : Int) 0)) = some r := by first | (rw [hy503]; with_reducible exact H) | (have H2_ := (Option.bind_some _ _).symm.trans H; rw [hy503]; with_reducible exact H2_) | (have H2_ := (Option.bind_some _ _).symm.trans H; with_reducible exact H2_) | with_reducible exact H | (rw [hy503]; exact H) | exact H
 have Ny503 := am_ hy503
 clear hy503
 obtain ⟨t506, A3, H⟩ := Sh.ba H
 have H' := am_ H
 clear H
 go_enter Try.func54, Try.ntmps54
 go_wp2_with (first | ((with_reducible refine Sh.d 8 ?_); refine Kd.R_lit (Kd.int .i64) _ 3 ?hg (N := 8) ?hd (xs := ([] : List Int)) (inner := []) (ok := fun _ => True) (okp := fun _ => True) ?hr ?hp (fun _ hk => hk) trivial (Below.refl _ _) (Nat.le_refl _) (by simp) ?_; (case hd => rfl); (case hg => rfl); (case hr => first | (go_simp; done) | (go_simp; rfl)); (case hp => exact (Reps.none _ _)); intro v504 w4 ho5 hb hg_ hnew_; clear hg_ hnew_; (first | rw [← Ny503.out] at ho5 | (simp only [Int.reduceToNat] at ho5; rw [← Ny503.out] at ho5)); have HO505 := am_ (Kd.R_lower ho5 (below_size Sh.bw)); replace HB := Sh.hb hb; clear hb ho5) | ((with_reducible refine Sh.k 72 ?_); refine Sh.gL (some 11) Try.func72 #[.slice A0 l0.length c0, .slice A1 l1.length c1] (h := ?_); (with_reducible refine (impl_stepsFrom.calls k _ _ l0 _ _ l1 t506 _ (Sh.cB HR0.out) HC0.out (Sh.cB HR1.out) HC1.out A3.out).mono ?_); rintro e w6 ⟨v507, rfl, ho0, hb⟩; refine ⟨_, rfl, ?_⟩; have HO508 := am_ (Kd.R_lower (Kd.R_new' ho0 (Kd.R_lt (Sh.rl HO505.out))) (below_size Sh.bw)); replace HO505 := am_ (Kd.R_elder' (Sh.rl HO505.out) (Kd.R_base ho0) hb); replace HB := Sh.hb hb; (try clear hb); (try clear hb2); (try clear hk); (try clear hi); (try clear ho0); obtain ⟨Ao7, co7, eo7⟩ := Kd.R_slice HO508.out; subst eo7))
 go_loopg [5, 13] k (fun kq v5 v13 w' => ∃ (x5_1 : List Int) (x13_1 : Int), v13 = .int .i64 x13_1 ∧ Aside0 (impl_reachedFrom.l0 kq x5_1 t506 (t506.length : Int) x13_1 = some r) ∧ Aside0 (kq ≤ k) ∧ Aside0 (Kd.R (Kd.int .i64) 3 w' w.heap.size (fun k_ => some k_ ≠ ((.slice Ao7 t506.length co7) : Value).ownBlock) v5 x5_1) ∧ Aside0 (Kd.R (Kd.int .i64) 3 w' w.heap.size (fun k_ => some k_ ≠ (v5 : Value).ownBlock) (.slice Ao7 t506.length co7) t506) ∧ Aside0 (Below w.heap.size w w'))
 case atStart => exact ⟨(y503), (0), (Sh.es), H', ⟨Nat.le_refl _⟩, ⟨Sh.rl (Kd.R_mono HO505.out (fun _ hk => hk.2))⟩, ⟨Sh.rl (Kd.R_mono HO508.out (fun _ hk => hk.2))⟩, ⟨Sh.bw⟩⟩
 case round =>
  clear H'
  obtain ⟨x5_1, x13_1, rfl, HA, HK1, HO_5, HO_11, HB⟩ := hrel
  cases gk with
  | zero => exact absurd HA.out (by simp [impl_reachedFrom.l0])
  | succ k1 =>
   have H := HA.out
   clear HA
   simp only [impl_reachedFrom.l0] at H
   by_cases c8 : x13_1 < (t506.length : Int)
   ·rw [if_pos c8] at H
    have c8b0 := decide_eq_true c8
    clear c8
    by_cases c9 : 0 ≤ x13_1
    ·rw [if_pos c9] at H
     have c9b0 := decide_eq_true c9
     clear c9
     by_cases c10 : x13_1 < (t506.length : Int)
     ·rw [if_pos c10] at H
      have c10b0 := decide_eq_true c10
      clear c10
      by_cases c11 : (rd t506 x13_1) ≥ 0
      ·rw [if_pos c11] at H
       have c11b0 : decide (0 ≤ (rd t506 x13_1)) = true := decide_eq_true c11
       clear c11
       by_cases c12 : x5_1.length < 17592186044416
       ·rw [if_pos c12] at H
        have LMc12 := am_ c12
        clear c12
        obtain ⟨y510, hy510⟩ : ∃ y_ : List Int, y_ = (x5_1 ++ [x13_1]) := ⟨_, rfl⟩
        replace H : (impl_reachedFrom.l0 k1 y510 t506 (t506.length : Int) (wrap64 (x13_1 + 1))) = some r := by first | (rw [hy510]; with_reducible exact H) | (have H2_ := (Option.bind_some _ _).symm.trans H; rw [hy510]; with_reducible exact H2_) | (have H2_ := (Option.bind_some _ _).symm.trans H; with_reducible exact H2_) | with_reducible exact H | (rw [hy510]; exact H) | exact H
        have Ny510 := am_ hy510
        clear hy510
        have H' := am_ H
        clear H
        have p509 : 0 ≤ (x13_1 : Int) := Sh.od
        have q509 : x13_1 < (t506.length : Int) := Sh.od
        obtain ⟨ad509, e509, hx509_0⟩ := Kd.at_int (Kd.R_reads' HO_11.out).2.2 x13_1 p509 q509
        cases e509
        replace p509 := eq_true p509
        replace q509 := eq_true q509
        go_wp2_with (first | ((with_reducible refine gate_builtin (b := .append) (xs := #[.tmp 20, .tmp 22]) rfl ?_); at_builtin; refine Kd.R_append (Kd.int .i64) (w0 := w) w.heap.size rfl (.tmp 20) (.tmp 22) 26 3 (.int .i64 0) 8 rfl Try.underlying26 info3 rfl (by decide) (by omega) u5 x5_1 x13_1 [.int .i64 x13_1] (fun k_ => some k_ ≠ (.slice (some ad509) t506.length co7 : Value).ownBlock) (fun _ => False) rfl rfl ?aP (fun _ hk => hk.elim) ?aF ?aO ?aB ?aS ?aL ?_; (case aP => exact rfl); (case aB => exact Sh.bw); (case aF => exact (fun k_ hk => Kd.fresh' (Kd.R_lt (Sh.rl HO_11.out)) k_ hk)); (case aO => exact (Sh.rl HO_5.out)); (case aS => exact (below_size Sh.bw)); (case aL => have := LMc12.out; omega); intro v511 w13 ho hb hg hat; rw [← Ny510.out] at ho; have n0_ := am_ (Kd.R_after (ok := (fun _ => True)) (Sh.rl (Kd.R_mono HO_11.out (fun _ hk => ⟨trivial, hk⟩))) hg hat); have n1_ := am_ hb; have n2_ := am_ ho; clear HO_11; clear HB; clear HO_5; have HO_11 := n0_; have HB := n1_; have HO512 := n2_; clear n0_ n1_ n2_; clear ho hb hg hat))
        go_roundg k1
        case measure => have := HK1.out; omega
        case rel => exact ⟨(y510), (wrap64 (x13_1 + 1)), (Sh.es), H', ⟨by have := HK1.out; omega⟩, ⟨Sh.rl HO512.out⟩, ⟨Sh.rl (Kd.R_mono HO_11.out (fun _ hk => hk.2))⟩, ⟨Sh.bw⟩⟩
       ·rw [if_neg c12] at H
        exact absurd H (by simp)
      ·rw [if_neg c11] at H
       have c11b0 : decide (0 ≤ (rd t506 x13_1)) = false := decide_eq_false c11
       clear c11
       have H' := am_ H
       clear H
       have p509 : 0 ≤ (x13_1 : Int) := Sh.od
       have q509 : x13_1 < (t506.length : Int) := Sh.od
       obtain ⟨ad509, e509, hx509_0⟩ := Kd.at_int (Kd.R_reads' HO_11.out).2.2 x13_1 p509 q509
       cases e509
       replace p509 := eq_true p509
       replace q509 := eq_true q509
       go_wp2
       go_roundg k1
       case measure => have := HK1.out; omega
       case rel => exact ⟨(x5_1), (wrap64 (x13_1 + 1)), (Sh.es), H', ⟨by have := HK1.out; omega⟩, ⟨Sh.rl HO_5.out⟩, ⟨Sh.rl HO_11.out⟩, ⟨Sh.bw⟩⟩
     ·rw [if_neg c10] at H
      exact absurd H (by simp)
    ·rw [if_neg c9] at H
     exact absurd H (by simp)
   ·rw [if_neg c8] at H
    have c8b0 := decide_eq_false c8
    clear c8
    obtain rfl := Option.some.inj H
    go_wp2
    go_ret
    exact ⟨_, Sh.eR, Sh.rl (Kd.R_mono HO_5.out (fun _ hk => trivial)), Sh.bw⟩
def impl_marked.l0 : Nat → List Int → List Bool → Int → Int → Option (List Int)
 | 0, _, _, _, _ => none
 | k + 1, x3, x7, x8, x9 => if x9 < x8 then (if 0 ≤ x9 then (if x9 < (x7.length : Int) then (if rdOf false x7 x9 = true then (if x3.length < 17592186044416 then (impl_marked.l0 k (x3 ++ [x9]) x7 x8 (wrap64 (x9 + 1))) else (none)) else (impl_marked.l0 k x3 x7 x8 (wrap64 (x9 + 1)))) else (none)) else (none)) else (some x3)
def impl_marked.f (k : Nat) (l0 : List Bool) : Option (List Int) := impl_marked.l0 k (([] : List Int)) l0 (l0.length : Int) 0
theorem impl_marked.mono_l : ∀ k, (∀ y0 y1 y2 y3, LeO (impl_marked.l0 k y0 y1 y2 y3) (impl_marked.l0 (k + 1) y0 y1 y2 y3))
 | 0 => fun _ _ _ _ r h => by simp [impl_marked.l0] at h
 | k + 1 => by
  have ih0 := impl_marked.mono_l k
  ·intro y0 y1 y2 y3
   unfold impl_marked.l0
   repeat' with_reducible first | apply ih0 | exact LeO.refl _ | exact LeO.none _ | apply LeO.ite | refine LeO.bind ?_ fun _ => ?_
theorem impl_marked.mono : ∀ a0 k, LeO (impl_marked.f k a0) (impl_marked.f (k + 1) a0) := by
 intro a0 k
 have ih0 := impl_marked.mono_l k
 unfold impl_marked.f
 repeat' with_reducible first | apply ih0 | exact LeO.refl _ | exact LeO.none _ | apply LeO.ite | refine LeO.bind ?_ fun _ => ?_
theorem impl_marked.calls (k : Nat) (A0 : Option Addr) (c0 : Nat) (l0 : List Bool) (r : List Int) (w : World) (hr0 : Kd.C Kd.bool w A0 l0.length l0) (hc0 : l0.length ≤ c0) (h : impl_marked.f k l0 = some r) :
  Calls Try.prog 56 #[.slice A0 l0.length c0] w fun e w' => ∃ v0_ : Value, e = .returned (v0_) ∧ Kd.R (Kd.int .i64) 3 w' w.heap.size (fun _ => True) v0_ r ∧ Below w.heap.size w w' := by
 have HR0 := am_ hr0
 have HC0 := am_ hc0
 clear hr0 hc0
 have HB := am_ (Below.refl w.heap.size w)
 have H := h
 clear h
 unfold impl_marked.f at H
 obtain ⟨y513, hy513⟩ : ∃ y_ : List Int, y_ = (([] : List Int)) := ⟨_, rfl⟩
 replace H : (impl_marked.l0 k y513 l0 (l0.length : Int) 0) = some r := by first | (rw [hy513]; with_reducible exact H) | (have H2_ := (Option.bind_some _ _).symm.trans H; rw [hy513]; with_reducible exact H2_) | (have H2_ := (Option.bind_some _ _).symm.trans H; with_reducible exact H2_) | with_reducible exact H | (rw [hy513]; exact H) | exact H
 have Ny513 := am_ hy513
 clear hy513
 have H' := am_ H
 clear H
 go_enter Try.func56, Try.ntmps56
 go_wp2_with (first | ((with_reducible refine Sh.d 6 ?_); refine Kd.R_lit (Kd.int .i64) _ 3 ?hg (N := 6) ?hd (xs := ([] : List Int)) (inner := []) (ok := fun _ => True) (okp := fun _ => True) ?hr ?hp (fun _ hk => hk) trivial (Below.refl _ _) (Nat.le_refl _) (by simp) ?_; (case hd => rfl); (case hg => rfl); (case hr => first | (go_simp; done) | (go_simp; rfl)); (case hp => exact (Reps.none _ _)); intro v514 w2 ho3 hb hg_ hnew_; clear hg_ hnew_; (first | rw [← Ny513.out] at ho3 | (simp only [Int.reduceToNat] at ho3; rw [← Ny513.out] at ho3)); have HO515 := am_ (Kd.R_lower ho3 (below_size Sh.bw)); replace HB := Sh.hb hb; clear hb ho3))
 go_loopg [3, 9] k (fun kq v3 v9 w' => ∃ (x3_1 : List Int) (x9_1 : Int), v9 = .int .i64 x9_1 ∧ Aside0 (impl_marked.l0 kq x3_1 l0 (l0.length : Int) x9_1 = some r) ∧ Aside0 (kq ≤ k) ∧ Aside0 (Kd.R (Kd.int .i64) 3 w' w.heap.size (fun _ => True) v3 x3_1) ∧ Aside0 (Below w.heap.size w w'))
 case atStart => exact ⟨(y513), (0), (Sh.es), H', ⟨Nat.le_refl _⟩, ⟨Sh.rl HO515.out⟩, ⟨Sh.bw⟩⟩
 case round =>
  clear H'
  obtain ⟨x3_1, x9_1, rfl, HA, HK1, HO_3, HB⟩ := hrel
  cases gk with
  | zero => exact absurd HA.out (by simp [impl_marked.l0])
  | succ k1 =>
   have H := HA.out
   clear HA
   simp only [impl_marked.l0] at H
   by_cases c4 : x9_1 < (l0.length : Int)
   ·rw [if_pos c4] at H
    have c4b0 := decide_eq_true c4
    clear c4
    by_cases c5 : 0 ≤ x9_1
    ·rw [if_pos c5] at H
     have c5b0 := decide_eq_true c5
     clear c5
     by_cases c6 : x9_1 < (l0.length : Int)
     ·rw [if_pos c6] at H
      have c6b0 := decide_eq_true c6
      clear c6
      obtain ⟨bq7, hbq7⟩ : ∃ b_ : Bool, b_ = (rdOf false l0 x9_1) := ⟨_, rfl⟩
      replace H : (if bq7 = true then (if x3_1.length < 17592186044416 then (impl_marked.l0 k1 (x3_1 ++ [x9_1]) l0 (l0.length : Int) (wrap64 (x9_1 + 1))) else (none)) else (impl_marked.l0 k1 x3_1 l0 (l0.length : Int) (wrap64 (x9_1 + 1)))) = some r := by rw [← hbq7] at H; exact H
      have Nbq7 := am_ hbq7
      clear hbq7
      by_cases c8 : bq7 = true
      ·subst c8
       rw [if_pos rfl] at H
       by_cases c9 : x3_1.length < 17592186044416
       ·rw [if_pos c9] at H
        have LMc9 := am_ c9
        clear c9
        obtain ⟨y517, hy517⟩ : ∃ y_ : List Int, y_ = (x3_1 ++ [x9_1]) := ⟨_, rfl⟩
        replace H : (impl_marked.l0 k1 y517 l0 (l0.length : Int) (wrap64 (x9_1 + 1))) = some r := by first | (rw [hy517]; with_reducible exact H) | (have H2_ := (Option.bind_some _ _).symm.trans H; rw [hy517]; with_reducible exact H2_) | (have H2_ := (Option.bind_some _ _).symm.trans H; with_reducible exact H2_) | with_reducible exact H | (rw [hy517]; exact H) | exact H
        have Ny517 := am_ hy517
        clear hy517
        have H' := am_ H
        clear H
        have p516 : 0 ≤ (x9_1 : Int) := Sh.od
        have q516 : x9_1 < (l0.length : Int) := Sh.od
        obtain ⟨ad516, e516, hx516_0⟩ := Kd.at_bool HR0.out x9_1 p516 q516
        (try rw [← Nbq7.out] at hx516_0)
        cases e516
        try replace hx516_0 := Sh.cw hx516_0
        replace p516 := eq_true p516
        replace q516 := eq_true q516
        go_wp2_with (first | ((with_reducible refine gate_builtin (b := .append) (xs := #[.tmp 15, .tmp 17]) rfl ?_); at_builtin; refine Kd.R_append (Kd.int .i64) (w0 := w) w.heap.size rfl (.tmp 15) (.tmp 17) 26 3 (.int .i64 0) 8 rfl Try.underlying26 info3 rfl (by decide) (by omega) u3 x3_1 x9_1 [.int .i64 x9_1] (fun _ => True) (fun _ => False) rfl rfl ?aP (fun _ hk => hk.elim) ?aF ?aO ?aB ?aS ?aL ?_; (case aP => exact rfl); (case aB => exact Sh.bw); (case aF => exact (fun _ _ => trivial)); (case aO => exact (Sh.rl HO_3.out)); (case aS => exact (below_size Sh.bw)); (case aL => have := LMc9.out; omega); intro v518 w10 ho hb hg hat; rw [← Ny517.out] at ho; have n0_ := am_ hb; have n1_ := am_ ho; clear HB; clear HO_3; have HB := n0_; have HO519 := n1_; clear n0_ n1_; clear ho hb hg hat))
        go_roundg k1
        case measure => have := HK1.out; omega
        case rel => exact ⟨(y517), (wrap64 (x9_1 + 1)), (Sh.es), H', ⟨by have := HK1.out; omega⟩, ⟨Sh.rl HO519.out⟩, ⟨Sh.bw⟩⟩
       ·rw [if_neg c9] at H
        exact absurd H (by simp)
      ·replace c8 := Bool.eq_false_iff.mpr c8
       subst c8
       rw [Sh.nf] at H
       have H' := am_ H
       clear H
       have p516 : 0 ≤ (x9_1 : Int) := Sh.od
       have q516 : x9_1 < (l0.length : Int) := Sh.od
       obtain ⟨ad516, e516, hx516_0⟩ := Kd.at_bool HR0.out x9_1 p516 q516
       (try rw [← Nbq7.out] at hx516_0)
       cases e516
       try replace hx516_0 := Sh.cw hx516_0
       replace p516 := eq_true p516
       replace q516 := eq_true q516
       go_wp2
       go_roundg k1
       case measure => have := HK1.out; omega
       case rel => exact ⟨(x3_1), (wrap64 (x9_1 + 1)), (Sh.es), H', ⟨by have := HK1.out; omega⟩, ⟨Sh.rl HO_3.out⟩, ⟨Sh.bw⟩⟩
     ·rw [if_neg c6] at H
      exact absurd H (by simp)
    ·rw [if_neg c5] at H
     exact absurd H (by simp)
   ·rw [if_neg c4] at H
    have c4b0 := decide_eq_false c4
    clear c4
    obtain rfl := Option.some.inj H
    go_wp2
    go_ret
    exact ⟨_, Sh.eR, Sh.rl HO_3.out, Sh.bw⟩
def impl_fairPoints.f (k : Nat) (l0 : List (List Int)) (l1 : List (List Int)) : Option (List Int) := (impl_turned.f k l0).bind fun t520 => ((impl_fairVertices.f k l0 l1).bind fun t523 => ((impl_marked.f k t523).bind fun t526 => ((impl_reachedFrom.f k t520 t526).bind fun t529 => (some t529))))
theorem impl_fairPoints.mono : ∀ a0 a1 k, LeO (impl_fairPoints.f k a0 a1) (impl_fairPoints.f (k + 1) a0 a1) := by
 intro a0 a1 k
 unfold impl_fairPoints.f
 repeat' with_reducible first | apply impl_fairVertices.mono | apply impl_marked.mono | apply impl_reachedFrom.mono | apply impl_turned.mono | exact LeO.refl _ | exact LeO.none _ | apply LeO.ite | refine LeO.bind ?_ fun _ => ?_
theorem impl_fairPoints.calls (k : Nat) (A0 : Option Addr) (c0 : Nat) (l0 : List (List Int)) (A1 : Option Addr) (c1 : Nat) (l1 : List (List Int)) (r : List Int) (w : World) (hr0 : Kd.C (Kd.slice 3 (Kd.int .i64)) w A0 l0.length l0) (hc0 : l0.length ≤ c0) (hr1 : Kd.C (Kd.slice 3 (Kd.int .i64)) w A1 l1.length l1) (hc1 : l1.length ≤ c1) (h : impl_fairPoints.f k l0 l1 = some r) :
  Calls Try.prog 40 #[.slice A0 l0.length c0, .slice A1 l1.length c1] w fun e w' => ∃ v0_ : Value, e = .returned (v0_) ∧ Kd.R (Kd.int .i64) 3 w' w.heap.size (fun _ => True) v0_ r ∧ Below w.heap.size w w' := by
 have HR0 := am_ hr0
 have HC0 := am_ hc0
 clear hr0 hc0
 have HR1 := am_ hr1
 have HC1 := am_ hc1
 clear hr1 hc1
 have HB := am_ (Below.refl w.heap.size w)
 have H := h
 clear h
 unfold impl_fairPoints.f at H
 obtain ⟨t520, A3, H⟩ := Sh.ba H
 obtain ⟨t523, A4, H⟩ := Sh.ba H
 obtain ⟨t526, A5, H⟩ := Sh.ba H
 obtain ⟨t529, A6, H⟩ := Sh.ba H
 obtain rfl := Option.some.inj H
 go_enter Try.func40, Try.ntmps40
 go_wp2_with (first | ((with_reducible refine Sh.k 55 ?_); refine Sh.gL (some 6) Try.func55 #[.slice A0 l0.length c0] (h := ?_); (with_reducible refine (impl_turned.calls k _ _ l0 t520 _ ?side1 ?side2 A3.out).mono ?_); (case side1 => repeat (first | exact HR0.out | (with_reducible first | refine Kd.C_alloc ?_ _ | refine Kd.C_drewN ?_ _ | refine Kd.C_drew ?_))); (case side2 => exact HC0.out); rintro e w7 ⟨v521, rfl, ho0, hb⟩; refine ⟨_, rfl, ?_⟩; have HO522 := am_ (Kd.S_lower ho0 (below_size Sh.bw)); replace HB := Sh.hb hb; (try clear hb); (try clear hb2); (try clear hk); (try clear hi); (try clear ho0)) | ((with_reducible refine Sh.k 57 ?_); refine Sh.gL (some 9) Try.func57 #[.slice A0 l0.length c0, .slice A1 l1.length c1] (h := ?_); (with_reducible refine (impl_fairVertices.calls k _ _ l0 _ _ l1 t523 _ (Sh.cB HR0.out) HC0.out (Sh.cB HR1.out) HC1.out A4.out).mono ?_); rintro e w8 ⟨v524, rfl, ho0, hb⟩; refine ⟨_, rfl, ?_⟩; replace HO522 := am_ (Kd.S_below (by (with_reducible repeat (first | apply Kd.S_alloc | apply Kd.S_drewN | apply Kd.S_drew)); exact HO522.out) hb); have HO525 := am_ (Kd.R_lower ho0 (below_size Sh.bw)); replace HB := Sh.hb hb; (try clear hb); (try clear hb2); (try clear hk); (try clear hi); (try clear ho0); obtain ⟨Ao9, co9, eo9⟩ := Kd.R_slice HO525.out; subst eo9) | ((with_reducible refine Sh.k 56 ?_); refine Sh.gL (some 10) Try.func56 #[.slice Ao9 t523.length co9] (h := ?_); (with_reducible refine (impl_marked.calls k _ _ t523 t526 _ (Sh.cR (Kd.R_reads' HO525.out).2.2) (Kd.R_reads' HO525.out).2.1 A5.out).mono ?_); rintro e w10 ⟨v527, rfl, ho0, hb⟩; refine ⟨_, rfl, ?_⟩; replace HO522 := am_ (Kd.S_elder' (by (with_reducible repeat (first | apply Kd.S_alloc | apply Kd.S_drewN | apply Kd.S_drew)); exact HO522.out) (Kd.R_base ho0) hb); replace HO525 := am_ (Kd.R_below (Sh.rl HO525.out) hb); have HO528 := am_ (Kd.R_lower ho0 (below_size Sh.bw)); replace HB := Sh.hb hb; (try clear hb); (try clear hb2); (try clear hk); (try clear hi); (try clear ho0); obtain ⟨Ao11, co11, eo11⟩ := Kd.S_slice HO522.out; subst eo11; obtain ⟨Ao12, co12, eo12⟩ := Kd.R_slice HO528.out; subst eo12) | ((with_reducible refine Sh.k 54 ?_); refine Sh.gL (some 11) Try.func54 #[.slice Ao11 t520.length co11, .slice Ao12 t526.length co12] (h := ?_); (with_reducible refine (impl_reachedFrom.calls k _ _ t520 _ _ t526 t529 _ (Sh.cR (Kd.S_reads' HO522.out).2.2) (Kd.S_reads' HO522.out).2.1 (Sh.cR (Kd.R_reads' HO528.out).2.2) (Kd.R_reads' HO528.out).2.1 A6.out).mono ?_); rintro e w13 ⟨v530, rfl, ho0, hb⟩; refine ⟨_, rfl, ?_⟩; replace HO522 := am_ (Kd.S_elder' (by (with_reducible repeat (first | apply Kd.S_alloc | apply Kd.S_drewN | apply Kd.S_drew)); exact HO522.out) (Kd.R_base ho0) hb); replace HO525 := am_ (Kd.R_below (Sh.rl HO525.out) hb); have HO531 := am_ (Kd.R_lower (Kd.R_new' ho0 (Kd.R_lt (Sh.rl HO528.out))) (below_size Sh.bw)); replace HO528 := am_ (Kd.R_elder' (Sh.rl HO528.out) (Kd.R_base ho0) hb); replace HB := Sh.hb hb; (try clear hb); (try clear hb2); (try clear hk); (try clear hi); (try clear ho0)))
 go_ret
 exact ⟨_, Sh.eR, Sh.rl (Kd.R_mono HO531.out (fun _ hk => trivial)), Sh.bw⟩
def impl_FairPoints.f (k : Nat) (l0_0 : List (List Int)) (l1 : List (List Int)) : Option (List Int × Bool) := (impl_GoodGraph.f k l0_0).bind fun t533 => (if t533 = true then ((impl_areGoals.f k l1 (l0_0.length : Int)).bind fun t534 => (if t534 = true then ((impl_fairPoints.f k l0_0 l1).bind fun t535 => (some (t535, true))) else (some (([] : List Int), false)))) else (some (([] : List Int), false)))
theorem impl_FairPoints.mono : ∀ a0 a1 k, LeO (impl_FairPoints.f k a0 a1) (impl_FairPoints.f (k + 1) a0 a1) := by
 intro a0 a1 k
 unfold impl_FairPoints.f
 repeat' with_reducible first | apply impl_GoodGraph.mono | apply impl_areGoals.mono | apply impl_fairPoints.mono | exact LeO.refl _ | exact LeO.none _ | apply LeO.ite | refine LeO.bind ?_ fun _ => ?_
theorem impl_FairPoints.calls (k : Nat) (A0_0 : Option Addr) (c0_0 : Nat) (l0_0 : List (List Int)) (A1 : Option Addr) (c1 : Nat) (l1 : List (List Int)) (r1 : List Int) (r2 : Bool) (w : World) (hr0_0 : Kd.C (Kd.slice 3 (Kd.int .i64)) w A0_0 l0_0.length l0_0) (hc0_0 : l0_0.length ≤ c0_0) (hr1 : Kd.C (Kd.slice 3 (Kd.int .i64)) w A1 l1.length l1) (hc1 : l1.length ≤ c1) (h : impl_FairPoints.f k l0_0 l1 = some (r1, r2)) :
  Calls Try.prog 21 #[.agg #[.slice A0_0 l0_0.length c0_0], .slice A1 l1.length c1] w fun e w' => ∃ v0_ : Value, e = .returned (.tuple #[v0_, .bool r2]) ∧ Kd.R (Kd.int .i64) 3 w' w.heap.size (fun _ => True) v0_ r1 ∧ Below w.heap.size w w' := by
 have hu29 := Try.underlying29
 have HR0_0 := am_ hr0_0
 have HC0_0 := am_ hc0_0
 clear hr0_0 hc0_0
 have HR1 := am_ hr1
 have HC1 := am_ hc1
 clear hr1 hc1
 have HB := am_ (Below.refl w.heap.size w)
 have H := h
 clear h
 unfold impl_FairPoints.f at H
 obtain ⟨t533, A3, H⟩ := Sh.ba H
 by_cases c4 : t533 = true
 ·subst c4
  rw [if_pos rfl] at H
  obtain ⟨t534, A5, H⟩ := Sh.ba H
  by_cases c6 : t534 = true
  ·subst c6
   rw [if_pos rfl] at H
   obtain ⟨t535, A7, H⟩ := Sh.ba H
   simp only [Option.some.injEq, Prod.mk.injEq] at H
   obtain ⟨rfl, rfl⟩ := H
   go_enter Try.func21, Try.ntmps21
   go_wp2_with (first | ((with_reducible refine Sh.d 2 ?_); (try (refine gate_guard (by rfl) ?_; dsimp only)); refine Sh.bz w (N := 2) (cs := #[.slice A0_0 l0_0.length c0_0]) (t := 29) (h := ?_); clear HB; intro gb532 w8 BK532 GE532 HB; have hcz9_0 := Sh.bc BK532.out 0; have hfz9_0 := blk_frozen BK532.out 0) | ((with_reducible refine Sh.k 29 ?_); refine Sh.gB (some 7) Try.func29 #[.agg #[.slice A0_0 l0_0.length c0_0]] (impl_GoodGraph.calls k _ _ l0_0 true _ (Sh.cB HR0_0.out) HC0_0.out A3.out) fun w10 hb => ?_; replace BK532 := Sh.ab BK532 hb; replace HB := Sh.hb hb; (try clear hb); (try clear hb2); (try clear hk); (try clear hi); have hcz11_0 := Sh.bc BK532.out 0; have hfz11_0 := blk_frozen BK532.out 0) | (go_at_call 39; (with_reducible refine (impl_areGoals.calls k _ _ l1 (l0_0.length : Int) true _ (Sh.cB HR1.out) HC1.out A5.out).mono ?_); rintro e w12 ⟨rfl, hb⟩; replace BK532 := Sh.ab BK532 hb; replace HB := Sh.hb hb; (try clear hb); (try clear hb2); (try clear hk); (try clear hi); have hcz13_0 := Sh.bc BK532.out 0; have hfz13_0 := blk_frozen BK532.out 0) | ((with_reducible refine Sh.k 40 ?_); refine Sh.gL (some 20) Try.func40 #[.slice A0_0 l0_0.length c0_0, .slice A1 l1.length c1] (h := ?_); (with_reducible refine (impl_fairPoints.calls k _ _ l0_0 _ _ l1 t535 _ (Sh.cB HR0_0.out) HC0_0.out (Sh.cB HR1.out) HC1.out A7.out).mono ?_); rintro e w14 ⟨v536, rfl, ho0, hb⟩; refine ⟨_, rfl, ?_⟩; have HO537 := am_ (Kd.R_lower ho0 (below_size Sh.bw)); replace BK532 := Sh.ab BK532 hb; replace HB := Sh.hb hb; (try clear hb); (try clear hb2); (try clear hk); (try clear hi); (try clear ho0)))
   go_ret2
   exact ⟨_, Sh.eR, Sh.rl HO537.out, Sh.bw⟩
  ·replace c6 := Bool.eq_false_iff.mpr c6
   subst c6
   rw [Sh.nf] at H
   simp only [Option.some.injEq, Prod.mk.injEq] at H
   obtain ⟨rfl, rfl⟩ := H
   go_enter Try.func21, Try.ntmps21
   go_wp2_with (first | ((with_reducible refine Sh.d 2 ?_); (try (refine gate_guard (by rfl) ?_; dsimp only)); refine Sh.bz w (N := 2) (cs := #[.slice A0_0 l0_0.length c0_0]) (t := 29) (h := ?_); clear HB; intro gb532 w15 BK532 GE532 HB; have hcz16_0 := Sh.bc BK532.out 0; have hfz16_0 := blk_frozen BK532.out 0) | ((with_reducible refine Sh.k 29 ?_); refine Sh.gB (some 7) Try.func29 #[.agg #[.slice A0_0 l0_0.length c0_0]] (impl_GoodGraph.calls k _ _ l0_0 true _ (Sh.cB HR0_0.out) HC0_0.out A3.out) fun w17 hb => ?_; replace BK532 := Sh.ab BK532 hb; replace HB := Sh.hb hb; (try clear hb); (try clear hb2); (try clear hk); (try clear hi); have hcz18_0 := Sh.bc BK532.out 0; have hfz18_0 := blk_frozen BK532.out 0) | (go_at_call 39; (with_reducible refine (impl_areGoals.calls k _ _ l1 (l0_0.length : Int) false _ (Sh.cB HR1.out) HC1.out A5.out).mono ?_); rintro e w19 ⟨rfl, hb⟩; replace BK532 := Sh.ab BK532 hb; replace HB := Sh.hb hb; (try clear hb); (try clear hb2); (try clear hk); (try clear hi)))
   go_ret2
   exact ⟨_, Sh.eR, by first | exact Kd.R_nil _ _ _ _ _ | exact Kd.N_nil _ _ _ _ _ | exact Kd.V_nil _ _ _ _ _ | exact Kd.Q_nil _ _ _ _ _ | exact Kd.S_nil _ _ _ _ _, Sh.bw⟩
 ·replace c4 := Bool.eq_false_iff.mpr c4
  subst c4
  rw [Sh.nf] at H
  simp only [Option.some.injEq, Prod.mk.injEq] at H
  obtain ⟨rfl, rfl⟩ := H
  go_enter Try.func21, Try.ntmps21
  go_wp2_with (first | ((with_reducible refine Sh.d 2 ?_); (try (refine gate_guard (by rfl) ?_; dsimp only)); refine Sh.bz w (N := 2) (cs := #[.slice A0_0 l0_0.length c0_0]) (t := 29) (h := ?_); clear HB; intro gb532 w20 BK532 GE532 HB; have hcz21_0 := Sh.bc BK532.out 0; have hfz21_0 := blk_frozen BK532.out 0) | ((with_reducible refine Sh.k 29 ?_); refine Sh.gB (some 7) Try.func29 #[.agg #[.slice A0_0 l0_0.length c0_0]] (impl_GoodGraph.calls k _ _ l0_0 false _ (Sh.cB HR0_0.out) HC0_0.out A3.out) fun w22 hb => ?_; replace BK532 := Sh.ab BK532 hb; replace HB := Sh.hb hb; (try clear hb); (try clear hb2); (try clear hk); (try clear hi)))
  go_ret2
  exact ⟨_, Sh.eR, by first | exact Kd.R_nil _ _ _ _ _ | exact Kd.N_nil _ _ _ _ _ | exact Kd.V_nil _ _ _ _ _ | exact Kd.Q_nil _ _ _ _ _ | exact Kd.S_nil _ _ _ _ _, Sh.bw⟩
open Go.Proofs.Ytnfpolhpanpeiaa.Lw
def laws_FnExactFairPoints.Holds (k : Nat) (l0_0 : List (List Int)) (l1 : List (List Int)) : Prop :=
 ∃ s6 : Int, laws_szGraph.f k l0_0 1048576 = some s6 ∧ ((s6 < 0) ∨ (¬ (s6 < 0)) ∧ (∃ s8 : Int, laws_szIntSS.f k l1 s6 = some s8 ∧ ((s8 < 0) ∨ (¬ (s8 < 0)) ∧ (∃ (y29 : List Int) (y30 : Bool) (m97 : Int) (y98 : List (List Int)) (m100 : Int) (y101 : List (List Int)) (m104 : Int) (y105 : List Int), laws_toGraph.f k l0_0 = some l0_0 ∧ laws_toIntSS.f k l1 = some l1 ∧ spec_FairPoints.f k l0_0 l1 = some (y29, y30) ∧ impl_FairPoints.f k l0_0 l1 = some (y29, y30) ∧ laws_eqIntS.f k y29 y29 = some true ∧ laws_eqGraph.f k l0_0 l0_0 = some true ∧ laws_eqIntSS.f k l1 l1 = some true ∧ laws_markGraph.f k l0_0 1 = some (m97, y98) ∧ laws_markIntSS.f k l1 m97 = some (m100, y101) ∧ laws_markIntS.f k y29 1 = some (m104, y105) ∧ laws_heldIntS.f k y105 1 = some m104 ∧ ¬ m100 < 0 ∧ ¬ m104 < 0))))
theorem laws_FnExactFairPoints.calls (k : Nat) (A0_0 : Option Addr) (c0_0 : Nat) (l0_0 : List (List Int)) (A1 : Option Addr) (c1 : Nat) (l1 : List (List Int)) (w : World) (hr0_0 : Kd.C (Kd.slice 3 (Kd.int .i64)) w A0_0 l0_0.length l0_0) (hc0_0 : l0_0.length ≤ c0_0) (hr1 : Kd.C (Kd.slice 3 (Kd.int .i64)) w A1 l1.length l1) (hc1 : l1.length ≤ c1) (h : laws_FnExactFairPoints.Holds k l0_0 l1) :
  Calls Try.prog 5 #[.agg #[.slice A0_0 l0_0.length c0_0], .slice A1 l1.length c1] w fun e w' => e = .returned (.bool true) ∧ Below w.heap.size w w' := by
 have hu24 := Try.underlying24
 have hu29 := Try.underlying29
 have HR0_0 := am_ hr0_0
 have HC0_0 := am_ hc0_0
 clear hr0_0 hc0_0
 have HR1 := am_ hr1
 have HC1 := am_ hc1
 clear hr1 hc1
 have HB := am_ (Below.refl w.heap.size w)
 have NW : 0 ≤ w.heap.size := Nat.zero_le _
 obtain ⟨s6, ESs6, h⟩ := h
 replace ESs6 := am_ ESs6
 rcases h with c | ⟨c, h⟩
 ·have cb : decide (s6 < 0) = true := decide_eq_true c
  clear c
  go_enter Try.func5, Try.ntmps5
  go_wp2_with (first | ((with_reducible refine Sh.d 2 ?_); refine Sh.bx (N := 2) (cs := #[.slice A0_0 l0_0.length c0_0]) (t := 24) (h := ?_); intro g1 hg w3 hbox hb; have BK2 := box_new (w := w) (W := w) HB.out hg hbox; have oa4 := new_g (W := w) hg NW; replace HB := am_ (below_step HB.out hb); replace NW := Nat.le_trans NW hb.size; replace NW := BK2.lt; clear hb hbox hg; have hczq5_0 : w3.cell? ⟨g1, 0, none⟩ = some (.slice A0_0 l0_0.length c0_0) := (blk_cell BK2.b 0).trans rfl; have hfzq5_0 := blk_frozen BK2.b 0) | ((with_reducible refine Sh.k 7 ?_); refine Sh.gL (some 19) Try.func7 #[.agg #[.slice A0_0 l0_0.length c0_0], .int .i64 1048576] (h := ?_); (with_reducible refine (laws_szGraph.calls k _ _ l0_0 1048576 s6 _ (Kd.C_below HR0_0.out HB.out) HC0_0.out ESs6.out).mono ?_); rintro e w7 ⟨rfl, hb⟩; refine ⟨_, rfl, ?_⟩; replace BK2 := BK2.same hb; replace HB := am_ (below_step HB.out hb); replace NW := Nat.le_trans NW hb.size; clear hb))
  go_ret
  exact ⟨rfl, HB.out⟩
 have cb0 : decide (s6 < 0) = false := decide_eq_false c
 clear c
 obtain ⟨s8, ESs8, h⟩ := h
 replace ESs8 := am_ ESs8
 rcases h with c | ⟨c, h⟩
 ·have cb : decide (s8 < 0) = true := decide_eq_true c
  clear c
  go_enter Try.func5, Try.ntmps5
  go_wp2_with (first | ((with_reducible refine Sh.d 2 ?_); refine Sh.bx (N := 2) (cs := #[.slice A0_0 l0_0.length c0_0]) (t := 24) (h := ?_); intro g1 hg w3 hbox hb; have BK2 := box_new (w := w) (W := w) HB.out hg hbox; have oa4 := new_g (W := w) hg NW; replace HB := am_ (below_step HB.out hb); replace NW := Nat.le_trans NW hb.size; replace NW := BK2.lt; clear hb hbox hg; have hczq5_0 : w3.cell? ⟨g1, 0, none⟩ = some (.slice A0_0 l0_0.length c0_0) := (blk_cell BK2.b 0).trans rfl; have hfzq5_0 := blk_frozen BK2.b 0) | ((with_reducible refine Sh.k 7 ?_); refine Sh.gL (some 19) Try.func7 #[.agg #[.slice A0_0 l0_0.length c0_0], .int .i64 1048576] (h := ?_); (with_reducible refine (laws_szGraph.calls k _ _ l0_0 1048576 s6 _ (Kd.C_below HR0_0.out HB.out) HC0_0.out ESs6.out).mono ?_); rintro e w7 ⟨rfl, hb⟩; refine ⟨_, rfl, ?_⟩; replace BK2 := BK2.same hb; replace HB := am_ (below_step HB.out hb); replace NW := Nat.le_trans NW hb.size; clear hb) | ((with_reducible refine Sh.k 18 ?_); refine Sh.gL (some 24) Try.func18 #[.slice A1 l1.length c1, .int .i64 s6] (h := ?_); (with_reducible refine (laws_szIntSS.calls k _ _ l1 s6 s8 _ (Kd.C_below HR1.out HB.out) HC1.out ESs8.out).mono ?_); rintro e w9 ⟨rfl, hb⟩; refine ⟨_, rfl, ?_⟩; replace hb := hb.below; replace BK2 := BK2.same hb; replace HB := am_ (below_step HB.out hb); replace NW := Nat.le_trans NW hb.size; clear hb; have hczq10_0 : w9.cell? ⟨g1, 0, none⟩ = some (.slice A0_0 l0_0.length c0_0) := (blk_cell BK2.b 0).trans rfl; have hfzq10_0 := blk_frozen BK2.b 0))
  go_ret
  exact ⟨rfl, HB.out⟩
 have cb1 : decide (s8 < 0) = false := decide_eq_false c
 clear c
 obtain ⟨y29, y30, m97, y98, m100, y101, m104, y105, E1, E2, E3, E4, E5, E6, E7, E8, E9, E10, E11, cd0, cd1⟩ := h
 replace E1 := am_ E1
 replace E2 := am_ E2
 replace E3 := am_ E3
 replace E4 := am_ E4
 replace E5 := am_ E5
 replace E6 := am_ E6
 replace E7 := am_ E7
 replace E8 := am_ E8
 replace E9 := am_ E9
 replace E10 := am_ E10
 replace E11 := am_ E11
 have ce0 : decide (m100 < 0) = false := decide_eq_false cd0
 clear cd0
 have ce1 : decide (m104 < 0) = false := decide_eq_false cd1
 clear cd1
 have cr0 : (y30 != y30) = false := bne_self_eq_false _
 go_enter Try.func5, Try.ntmps5
 go_upto_region 14 with (first | ((with_reducible refine Sh.d 2 ?_); refine Sh.bx (N := 2) (cs := #[.slice A0_0 l0_0.length c0_0]) (t := 24) (h := ?_); intro g1 hg w3 hbox hb; have BK2 := box_new (w := w) (W := w) HB.out hg hbox; have oa4 := new_g (W := w) hg NW; replace HB := am_ (below_step HB.out hb); replace NW := Nat.le_trans NW hb.size; replace NW := BK2.lt; clear hb hbox hg; have hczq5_0 : w3.cell? ⟨g1, 0, none⟩ = some (.slice A0_0 l0_0.length c0_0) := (blk_cell BK2.b 0).trans rfl; have hfzq5_0 := blk_frozen BK2.b 0) | ((with_reducible refine Sh.k 7 ?_); refine Sh.gL (some 19) Try.func7 #[.agg #[.slice A0_0 l0_0.length c0_0], .int .i64 1048576] (h := ?_); (with_reducible refine (laws_szGraph.calls k _ _ l0_0 1048576 s6 _ (Kd.C_below HR0_0.out HB.out) HC0_0.out ESs6.out).mono ?_); rintro e w7 ⟨rfl, hb⟩; refine ⟨_, rfl, ?_⟩; replace BK2 := BK2.same hb; replace HB := am_ (below_step HB.out hb); replace NW := Nat.le_trans NW hb.size; clear hb) | ((with_reducible refine Sh.k 18 ?_); refine Sh.gL (some 24) Try.func18 #[.slice A1 l1.length c1, .int .i64 s6] (h := ?_); (with_reducible refine (laws_szIntSS.calls k _ _ l1 s6 s8 _ (Kd.C_below HR1.out HB.out) HC1.out ESs8.out).mono ?_); rintro e w9 ⟨rfl, hb⟩; refine ⟨_, rfl, ?_⟩; replace hb := hb.below; replace BK2 := BK2.same hb; replace HB := am_ (below_step HB.out hb); replace NW := Nat.le_trans NW hb.size; clear hb; have hczq10_0 : w9.cell? ⟨g1, 0, none⟩ = some (.slice A0_0 l0_0.length c0_0) := (blk_cell BK2.b 0).trans rfl; have hfzq10_0 := blk_frozen BK2.b 0) | ((with_reducible refine Sh.k 9 ?_); refine Sh.gL (some 29) Try.func9 #[.agg #[.slice A0_0 l0_0.length c0_0]] (h := ?_); (with_reducible refine (laws_toGraph.calls k _ _ l0_0 l0_0 _ (Kd.C_below HR0_0.out HB.out) HC0_0.out E1.out).mono ?_); rintro e w11 ⟨v0_, rfl, ho0, hb⟩; refine ⟨_, rfl, ?_⟩; obtain ⟨lo13, hi14, HO12, oa15, ob16, NW2⟩ := new1 (F := fun lo_ hi_ => HeldS (Kd.slice 3 (Kd.int .i64)) 26 w11 w.heap.size lo_ hi_ v0_ l0_0) (heldS_new ho0 hb HB.out) hb NW; replace BK2 := BK2.same hb; replace HB := am_ (below_step HB.out hb); replace NW := Nat.le_trans NW hb.size; replace NW := NW2; skip; obtain ⟨A17, c18, e19⟩ := HO12.slice; subst e19; clear hb ho0) | ((with_reducible refine Sh.k 20 ?_); refine Sh.gL (some 31) Try.func20 #[.slice A1 l1.length c1] (h := ?_); (with_reducible refine (laws_toIntSS.calls k _ _ l1 l1 _ (Kd.C_below HR1.out HB.out) HC1.out E2.out).mono ?_); rintro e w20 ⟨v0_, rfl, ho0, hb⟩; refine ⟨_, rfl, ?_⟩; obtain ⟨lo22, hi23, HO21, oa24, ob25, NW2⟩ := new1 (F := fun lo_ hi_ => HeldS (Kd.slice 3 (Kd.int .i64)) 26 w20 w.heap.size lo_ hi_ v0_ l1) (heldS_new ho0 hb HB.out) hb NW; replace BK2 := BK2.same hb; replace HO12 := HO12.same hb; replace HB := am_ (below_step HB.out hb); replace NW := Nat.le_trans NW hb.size; replace NW := NW2; skip; obtain ⟨A26, c27, e28⟩ := HO21.slice; subst e28; clear hb ho0) | ((with_reducible refine Sh.k 19 ?_); refine Sh.gL (some 32) Try.func19 #[.agg #[.slice A17 l0_0.length c18], .slice A26 l1.length c27] (h := ?_); (with_reducible refine (spec_FairPoints.calls k _ _ l0_0 _ _ l1 y29 y30 _ HO12.C HO12.c HO21.C HO21.c E3.out).mono ?_); rintro e w31 ⟨v0_, rfl, ho0, hb⟩; refine ⟨_, rfl, ?_⟩; obtain ⟨lo33, hi34, HO32, oa35, ob36, NW2⟩ := new1 (F := fun lo_ hi_ => Held (Kd.int .i64) 3 w31 w.heap.size lo_ hi_ v0_ y29) (held_new ho0 hb HB.out) hb NW; replace BK2 := BK2.same hb; replace HO12 := HO12.same hb; replace HO21 := HO21.same hb; replace HB := am_ (below_step HB.out hb); replace NW := Nat.le_trans NW hb.size; replace NW := NW2; skip; obtain ⟨A37, c38, e39⟩ := HO32.slice; subst e39; clear hb ho0; have hczq40_0 : w31.cell? ⟨g1, 0, none⟩ = some (.slice A0_0 l0_0.length c0_0) := (blk_cell BK2.b 0).trans rfl; have hfzq40_0 := blk_frozen BK2.b 0) | ((with_reducible refine Sh.k 9 ?_); refine Sh.gL (some 36) Try.func9 #[.agg #[.slice A0_0 l0_0.length c0_0]] (h := ?_); (with_reducible refine (laws_toGraph.calls k _ _ l0_0 l0_0 _ (Kd.C_below HR0_0.out HB.out) HC0_0.out E1.out).mono ?_); rintro e w41 ⟨v0_, rfl, ho0, hb⟩; refine ⟨_, rfl, ?_⟩; obtain ⟨lo43, hi44, HO42, oa45, ob46, NW2⟩ := new1 (F := fun lo_ hi_ => HeldS (Kd.slice 3 (Kd.int .i64)) 26 w41 w.heap.size lo_ hi_ v0_ l0_0) (heldS_new ho0 hb HB.out) hb NW; replace BK2 := BK2.same hb; replace HO12 := HO12.same hb; replace HO21 := HO21.same hb; replace HO32 := HO32.same hb; replace HB := am_ (below_step HB.out hb); replace NW := Nat.le_trans NW hb.size; replace NW := NW2; skip; obtain ⟨A47, c48, e49⟩ := HO42.slice; subst e49; clear hb ho0) | ((with_reducible refine Sh.d 8 ?_); refine Sh.bx (N := 8) (cs := #[.slice none 0 0]) (t := 29) (h := ?_); intro g50 hg w52 hbox hb; have BK51 := box_new (w := w) (W := w41) HB.out hg hbox; have oa53 := new_g (W := w41) hg NW; replace BK2 := BK2.same hb; replace HO12 := HO12.same hb; replace HO21 := HO21.same hb; replace HO32 := HO32.same hb; replace HO42 := HO42.same hb; replace HB := am_ (below_step HB.out hb); replace NW := Nat.le_trans NW hb.size; replace NW := BK51.lt; clear hb hbox hg) | ((with_reducible refine gate_ (.store 29 (.tmp 8) (.tmp 36)) rfl ?_); refine store_event 8 (.tmp 36) rfl rfl rfl BK51 rfl [.slice A47 l0_0.length c48] rfl rfl ?hs rfl ?h1 ?_; (case hs => kernel_rfl); (case h1 => (simp only [List.mem_cons, List.not_mem_nil, or_false]; intro q_ h_; (subst h_; rfl))); intro w54 hbx hb hk; replace BK2 := BK2.move hk (by omega); replace HO12 := HO12.move hk (by omega); replace HO21 := HO21.move hk (by omega); replace HO32 := HO32.move hk (by omega); replace HO42 := HO42.move hk (by omega); replace BK51 := hbx; replace NW := Nat.le_trans NW hk.1; replace HB := am_ (HB.out.trans hb); clear hk hb) | ((with_reducible refine Sh.k 20 ?_); refine Sh.gL (some 38) Try.func20 #[.slice A1 l1.length c1] (h := ?_); (with_reducible refine (laws_toIntSS.calls k _ _ l1 l1 _ (Kd.C_below HR1.out HB.out) HC1.out E2.out).mono ?_); rintro e w55 ⟨v0_, rfl, ho0, hb⟩; refine ⟨_, rfl, ?_⟩; obtain ⟨lo57, hi58, HO56, oa59, ob60, NW2⟩ := new1 (F := fun lo_ hi_ => HeldS (Kd.slice 3 (Kd.int .i64)) 26 w55 w.heap.size lo_ hi_ v0_ l1) (heldS_new ho0 hb HB.out) hb NW; replace BK2 := BK2.same hb; replace HO12 := HO12.same hb; replace HO21 := HO21.same hb; replace HO32 := HO32.same hb; replace HO42 := HO42.same hb; replace BK51 := BK51.same hb; replace HB := am_ (below_step HB.out hb); replace NW := Nat.le_trans NW hb.size; replace NW := NW2; skip; obtain ⟨A61, c62, e63⟩ := HO56.slice; subst e63; clear hb ho0; have hczq64_0 : w55.cell? ⟨g50, 0, none⟩ = some (.slice A47 l0_0.length c48) := (blk_cell BK51.b 0).trans rfl; have hfzq64_0 := blk_frozen BK51.b 0) | ((with_reducible refine Sh.k 21 ?_); refine Sh.gL (some 42) Try.func21 #[.agg #[.slice A47 l0_0.length c48], .slice A61 l1.length c62] (h := ?_); (with_reducible refine (impl_FairPoints.calls k _ _ l0_0 _ _ l1 y29 y30 _ HO42.C HO42.c HO56.C HO56.c E4.out).mono ?_); rintro e w65 ⟨v0_, rfl, ho0, hb⟩; refine ⟨_, rfl, ?_⟩; obtain ⟨lo67, hi68, HO66, oa69, ob70, NW2⟩ := new1 (F := fun lo_ hi_ => Held (Kd.int .i64) 3 w65 w.heap.size lo_ hi_ v0_ y29) (held_new ho0 hb HB.out) hb NW; replace BK2 := BK2.same hb; replace HO12 := HO12.same hb; replace HO21 := HO21.same hb; replace HO32 := HO32.same hb; replace HO42 := HO42.same hb; replace BK51 := BK51.same hb; replace HO56 := HO56.same hb; replace HB := am_ (below_step HB.out hb); replace NW := Nat.le_trans NW hb.size; replace NW := NW2; skip; obtain ⟨A71, c72, e73⟩ := HO66.slice; subst e73; clear hb ho0) | ((with_reducible refine Sh.k 11 ?_); refine Sh.gL (some 47) Try.func11 #[.slice A71 y29.length c72, .slice A37 y29.length c38] (h := ?_); (with_reducible refine (laws_eqIntS.calls k _ _ y29 _ _ y29 true _ HO66.C HO66.c HO32.C HO32.c E5.out).mono ?_); rintro e w74 ⟨rfl, hb⟩; refine ⟨_, rfl, ?_⟩; replace hb := hb.below; replace BK2 := BK2.same hb; replace HO12 := HO12.same hb; replace HO21 := HO21.same hb; replace HO32 := HO32.same hb; replace HO42 := HO42.same hb; replace BK51 := BK51.same hb; replace HO56 := HO56.same hb; replace HO66 := HO66.same hb; replace HB := am_ (below_step HB.out hb); replace NW := Nat.le_trans NW hb.size; clear hb))
 (try simp only [Act.put, List.setIfInBounds_toArray, List.set_cons_zero, List.set_cons_succ])
 try go_wp2
 have hb : Below w74.heap.size w74 w74.drew := below_drew (Below.refl _ _)
 replace BK2 := BK2.same hb
 replace HO12 := HO12.same hb
 replace HO21 := HO21.same hb
 replace HO32 := HO32.same hb
 replace HO42 := HO42.same hb
 replace BK51 := BK51.same hb
 replace HO56 := HO56.same hb
 replace HO66 := HO66.same hb
 replace HB := am_ (below_step HB.out hb)
 replace NW := Nat.le_trans NW hb.size
 clear hb
 have hL_ : 0 ≤ 0 := Nat.le_refl 0
 refine start_ (n := 5) (S := fun w' => w'.cell? ⟨g50, 0, none⟩ = some (.slice A47 l0_0.length c48) ∧ w'.cell? ⟨g1, 0, none⟩ = some (.slice A0_0 l0_0.length c0_0)) (ds := []) (Sh.nm 5 0) (by kernel_rfl) rfl rfl ⟨(blk_cell BK51.b 0).trans rfl, (blk_cell BK2.b 0).trans rfl⟩ (fun hHeld => ?_)
 generalize w74.drew = w75 at BK2 HO12 HO21 HO32 HO42 BK51 HO56 HO66 HB NW hHeld ⊢
 clear hL_
 refine Sh.tA 0 54 (Sh.nm 5 1) (by kernel_rfl) hHeld ?_ (hy := by rintro w' ⟨s0, s1⟩; go_simp; with_reducible rfl)
 refine Sh.tA 1 55 (Sh.nm 5 3) (by kernel_rfl) hHeld ?_ (hy := by rintro w' ⟨s0, s1⟩; go_simp; with_reducible rfl)
 refine one_ (i := 2) (N := some 56) (Sh.nm 5 7) rfl rfl (by kernel_rfl) (by decide) (fun K hK => ?_)
 refine goes_ Try.func9 (by kernel_rfl) rfl #[.agg #[.slice A0_0 l0_0.length c0_0]] (by rfl) rfl rfl (by (try simp only [List.map_toArray, List.map_cons, List.map_nil]); first | done | rfl | (simp only [List.length_drop, List.length_take]; rfl)) ?_
 with_reducible refine (laws_toGraph.calls k _ _ l0_0 l0_0 _ (Kd.C_below HR0_0.out HB.out) HC0_0.out E1.out).mono ?_
 rintro e w76 ⟨v0_, rfl, ho0, hb⟩
 refine ⟨_, rfl, ?_⟩
 obtain ⟨lo78, hi79, HO77, oa80, ob81, NW2⟩ := new1 (F := fun lo_ hi_ => HeldS (Kd.slice 3 (Kd.int .i64)) 26 w76 w.heap.size lo_ hi_ v0_ l0_0) (heldS_new ho0 hb HB.out) hb NW
 replace BK2 := BK2.same hb
 replace HO12 := HO12.same hb
 replace HO21 := HO21.same hb
 replace HO32 := HO32.same hb
 replace HO42 := HO42.same hb
 replace BK51 := BK51.same hb
 replace HO56 := HO56.same hb
 replace HO66 := HO66.same hb
 replace HB := am_ (below_step HB.out hb)
 replace NW := Nat.le_trans NW hb.size
 replace NW := NW2
 skip
 obtain ⟨A82, c83, e84⟩ := HO77.slice
 subst e84
 clear hb ho0
 refine Sh.kN hK ⟨(blk_cell BK51.b 0).trans rfl, (blk_cell BK2.b 0).trans rfl⟩ fun hHeld => ?_
 clear hK K
 refine one_ (i := 3) (N := some 57) (Sh.nm 5 15) rfl rfl (by kernel_rfl) (by decide) (fun K hK => ?_)
 refine goes_ Try.func12 (by kernel_rfl) rfl #[.agg #[.slice A47 l0_0.length c48], .agg #[.slice A82 l0_0.length c83]] (by rfl) rfl rfl (by (try simp only [List.map_toArray, List.map_cons, List.map_nil]); first | done | rfl | (simp only [List.length_drop, List.length_take]; rfl)) ?_
 with_reducible refine (laws_eqGraph.calls k _ _ l0_0 _ _ l0_0 true _ HO42.C HO42.c HO77.C HO77.c E6.out).mono ?_
 rintro e w85 ⟨rfl, hb⟩
 refine ⟨_, rfl, ?_⟩
 replace BK2 := BK2.same hb
 replace HO12 := HO12.same hb
 replace HO21 := HO21.same hb
 replace HO32 := HO32.same hb
 replace HO42 := HO42.same hb
 replace BK51 := BK51.same hb
 replace HO56 := HO56.same hb
 replace HO66 := HO66.same hb
 replace HO77 := HO77.same hb
 replace HB := am_ (below_step HB.out hb)
 replace NW := Nat.le_trans NW hb.size
 clear hb
 refine Sh.kN hK ⟨(blk_cell BK51.b 0).trans rfl, (blk_cell BK2.b 0).trans rfl⟩ fun hHeld => ?_
 clear hK K
 refine Sh.pA 4 58 (Sh.nm 5 31) (by kernel_rfl) ?_
 refine done_ (by kernel_rfl) ?_
 go_wp2_with (first | ((with_reducible refine Sh.k 20 ?_); refine Sh.gL (some 61) Try.func20 #[.slice A1 l1.length c1] (h := ?_); (with_reducible refine (laws_toIntSS.calls k _ _ l1 l1 _ (Kd.C_below HR1.out HB.out) HC1.out E2.out).mono ?_); rintro e w86 ⟨v0_, rfl, ho0, hb⟩; refine ⟨_, rfl, ?_⟩; obtain ⟨lo88, hi89, HO87, oa90, ob91, NW2⟩ := new1 (F := fun lo_ hi_ => HeldS (Kd.slice 3 (Kd.int .i64)) 26 w86 w.heap.size lo_ hi_ v0_ l1) (heldS_new ho0 hb HB.out) hb NW; replace BK2 := BK2.same hb; replace HO12 := HO12.same hb; replace HO21 := HO21.same hb; replace HO32 := HO32.same hb; replace HO42 := HO42.same hb; replace BK51 := BK51.same hb; replace HO56 := HO56.same hb; replace HO66 := HO66.same hb; replace HO77 := HO77.same hb; replace HB := am_ (below_step HB.out hb); replace NW := Nat.le_trans NW hb.size; replace NW := NW2; skip; obtain ⟨A92, c93, e94⟩ := HO87.slice; subst e94; clear hb ho0) | ((with_reducible refine Sh.k 22 ?_); refine Sh.gL (some 62) Try.func22 #[.slice A61 l1.length c62, .slice A92 l1.length c93] (h := ?_); (with_reducible refine (laws_eqIntSS.calls k _ _ l1 _ _ l1 true _ HO56.C HO56.c HO87.C HO87.c E7.out).mono ?_); rintro e w95 ⟨rfl, hb⟩; refine ⟨_, rfl, ?_⟩; replace hb := hb.below; replace BK2 := BK2.same hb; replace HO12 := HO12.same hb; replace HO21 := HO21.same hb; replace HO32 := HO32.same hb; replace HO42 := HO42.same hb; replace BK51 := BK51.same hb; replace HO56 := HO56.same hb; replace HO66 := HO66.same hb; replace HO77 := HO77.same hb; replace HO87 := HO87.same hb; replace HB := am_ (below_step HB.out hb); replace NW := Nat.le_trans NW hb.size; clear hb; have hczq96_0 : w95.cell? ⟨g50, 0, none⟩ = some (.slice A47 l0_0.length c48) := (blk_cell BK51.b 0).trans rfl; have hfzq96_0 := blk_frozen BK51.b 0) | ((with_reducible refine Sh.k 13 ?_); refine Sh.gL (some 66) Try.func13 #[.agg #[.slice A47 l0_0.length c48], .int .i64 1] (h := ?_); (with_reducible refine (laws_markGraph.calls k (fun k_ => lo43 ≤ k_ ∧ k_ < hi44) _ l0_0 1 m97 y98 w _ HB.out HO42.r E8.out).mono ?_); rintro e w99 ⟨rfl, hm0, hb, hk⟩; refine ⟨_, rfl, ?_⟩; replace hk : Kept w95 w99 (fun k_ => lo43 ≤ k_ ∧ k_ < hi44) := hk; replace BK2 := BK2.move hk (by omega); replace HO12 := HO12.move hk (by omega); replace HO21 := HO21.move hk (by omega); replace HO32 := HO32.move hk (by omega); replace BK51 := BK51.move hk (by omega); replace HO56 := HO56.move hk (by omega); replace HO66 := HO66.move hk (by omega); replace HO77 := HO77.move hk (by omega); replace HO87 := HO87.move hk (by omega); replace HO42 := HO42.marked hm0 hk; replace NW := Nat.le_trans NW hk.1; replace HB := am_ hb; clear hk hb hm0) | ((with_reducible refine Sh.k 23 ?_); refine Sh.gL (some 69) Try.func23 #[.slice A61 l1.length c62, .int .i64 m97] (h := ?_); (with_reducible refine (laws_markIntSS.calls k (fun k_ => lo57 ≤ k_ ∧ k_ < hi58) _ l1 m97 m100 y101 w _ HB.out HO56.r E9.out).mono ?_); rintro e w102 ⟨rfl, hm0, hb, hk⟩; refine ⟨_, rfl, ?_⟩; replace hk : Kept w99 w102 (fun k_ => lo57 ≤ k_ ∧ k_ < hi58) := hk; replace BK2 := BK2.move hk (by omega); replace HO12 := HO12.move hk (by omega); replace HO21 := HO21.move hk (by omega); replace HO32 := HO32.move hk (by omega); replace HO42 := HO42.move hk (by omega); replace BK51 := BK51.move hk (by omega); replace HO66 := HO66.move hk (by omega); replace HO77 := HO77.move hk (by omega); replace HO87 := HO87.move hk (by omega); replace HO56 := HO56.marked hm0 hk; replace NW := Nat.le_trans NW hk.1; replace HB := am_ hb; clear hk hb hm0) | ((with_reducible refine Sh.k 11 ?_); (with_reducible refine Sh.d 75 ?_); (try simp only [ce0, ce1, cr0]); refine gate_guard (by rfl) ?_; dsimp only; refine Sh.gL (some 75) Try.func11 #[.slice A71 y29.length c72, .slice A37 y29.length c38] (h := ?_); (with_reducible refine (laws_eqIntS.calls k _ _ y29 _ _ y29 true _ HO66.C HO66.c HO32.C HO32.c E5.out).mono ?_); rintro e w103 ⟨rfl, hb⟩; refine ⟨_, rfl, ?_⟩; replace hb := hb.below; replace BK2 := BK2.same hb; replace HO12 := HO12.same hb; replace HO21 := HO21.same hb; replace HO32 := HO32.same hb; replace HO42 := HO42.same hb; replace BK51 := BK51.same hb; replace HO56 := HO56.same hb; replace HO66 := HO66.same hb; replace HO77 := HO77.same hb; replace HO87 := HO87.same hb; replace HB := am_ (below_step HB.out hb); replace NW := Nat.le_trans NW hb.size; clear hb) | ((with_reducible refine Sh.k 14 ?_); refine Sh.gL (some 85) Try.func14 #[.slice A71 y29.length c72, .int .i64 1] (h := ?_); (with_reducible refine (laws_markIntS.calls k (fun k_ => lo67 ≤ k_ ∧ k_ < hi68) _ y29 1 m104 y105 w _ HB.out HO66.r E10.out).mono ?_); rintro e w106 ⟨rfl, hm0, hb, hk⟩; refine ⟨_, rfl, ?_⟩; replace hk : Kept w103 w106 (fun k_ => lo67 ≤ k_ ∧ k_ < hi68) := hk; replace BK2 := BK2.move hk (by omega); replace HO12 := HO12.move hk (by omega); replace HO21 := HO21.move hk (by omega); replace HO32 := HO32.move hk (by omega); replace HO42 := HO42.move hk (by omega); replace BK51 := BK51.move hk (by omega); replace HO56 := HO56.move hk (by omega); replace HO77 := HO77.move hk (by omega); replace HO87 := HO87.move hk (by omega); replace HO66 := HO66.marked rfl hm0 hk; replace NW := Nat.le_trans NW hk.1; replace HB := am_ hb; clear hk hb hm0) | ((with_reducible refine Sh.k 15 ?_); refine Sh.gL (some 88) Try.func15 #[.slice A71 y29.length c72, .int .i64 1] (h := ?_); refine calls_of_args (args' := #[.slice A71 y105.length c72, .int .i64 1]) (by rw [← HO66.n]) ?_; (with_reducible refine (laws_heldIntS.calls k _ _ y105 1 m104 _ HO66.C HO66.c E11.out).mono ?_); rintro e w107 ⟨rfl, hb⟩; refine ⟨_, rfl, ?_⟩; replace hb := hb.below; replace BK2 := BK2.same hb; replace HO12 := HO12.same hb; replace HO21 := HO21.same hb; replace HO32 := HO32.same hb; replace HO42 := HO42.same hb; replace BK51 := BK51.same hb; replace HO56 := HO56.same hb; replace HO66 := HO66.same hb; replace HO77 := HO77.same hb; replace HO87 := HO87.same hb; replace HB := am_ (below_step HB.out hb); replace NW := Nat.le_trans NW hb.size; clear hb; have hczq108_0 : w107.cell? ⟨g1, 0, none⟩ = some (.slice A0_0 l0_0.length c0_0) := (blk_cell BK2.b 0).trans rfl; have hfzq108_0 := blk_frozen BK2.b 0) | ((with_reducible refine Sh.k 9 ?_); refine Sh.gL (some 96) Try.func9 #[.agg #[.slice A0_0 l0_0.length c0_0]] (h := ?_); (with_reducible refine (laws_toGraph.calls k _ _ l0_0 l0_0 _ (Kd.C_below HR0_0.out HB.out) HC0_0.out E1.out).mono ?_); rintro e w109 ⟨v0_, rfl, ho0, hb⟩; refine ⟨_, rfl, ?_⟩; obtain ⟨lo111, hi112, HO110, oa113, ob114, NW2⟩ := new1 (F := fun lo_ hi_ => HeldS (Kd.slice 3 (Kd.int .i64)) 26 w109 w.heap.size lo_ hi_ v0_ l0_0) (heldS_new ho0 hb HB.out) hb NW; replace BK2 := BK2.same hb; replace HO12 := HO12.same hb; replace HO21 := HO21.same hb; replace HO32 := HO32.same hb; replace HO42 := HO42.same hb; replace BK51 := BK51.same hb; replace HO56 := HO56.same hb; replace HO66 := HO66.same hb; replace HO77 := HO77.same hb; replace HO87 := HO87.same hb; replace HB := am_ (below_step HB.out hb); replace NW := Nat.le_trans NW hb.size; replace NW := NW2; skip; obtain ⟨A115, c116, e117⟩ := HO110.slice; subst e117; clear hb ho0) | ((with_reducible refine Sh.k 20 ?_); refine Sh.gL (some 98) Try.func20 #[.slice A1 l1.length c1] (h := ?_); (with_reducible refine (laws_toIntSS.calls k _ _ l1 l1 _ (Kd.C_below HR1.out HB.out) HC1.out E2.out).mono ?_); rintro e w118 ⟨v0_, rfl, ho0, hb⟩; refine ⟨_, rfl, ?_⟩; obtain ⟨lo120, hi121, HO119, oa122, ob123, NW2⟩ := new1 (F := fun lo_ hi_ => HeldS (Kd.slice 3 (Kd.int .i64)) 26 w118 w.heap.size lo_ hi_ v0_ l1) (heldS_new ho0 hb HB.out) hb NW; replace BK2 := BK2.same hb; replace HO12 := HO12.same hb; replace HO21 := HO21.same hb; replace HO32 := HO32.same hb; replace HO42 := HO42.same hb; replace BK51 := BK51.same hb; replace HO56 := HO56.same hb; replace HO66 := HO66.same hb; replace HO77 := HO77.same hb; replace HO87 := HO87.same hb; replace HO110 := HO110.same hb; replace HB := am_ (below_step HB.out hb); replace NW := Nat.le_trans NW hb.size; replace NW := NW2; skip; obtain ⟨A124, c125, e126⟩ := HO119.slice; subst e126; clear hb ho0) | ((with_reducible refine Sh.k 21 ?_); refine Sh.gL (some 99) Try.func21 #[.agg #[.slice A115 l0_0.length c116], .slice A124 l1.length c125] (h := ?_); (with_reducible refine (impl_FairPoints.calls k _ _ l0_0 _ _ l1 y29 y30 _ HO110.C HO110.c HO119.C HO119.c E4.out).mono ?_); rintro e w127 ⟨v0_, rfl, ho0, hb⟩; refine ⟨_, rfl, ?_⟩; obtain ⟨lo129, hi130, HO128, oa131, ob132, NW2⟩ := new1 (F := fun lo_ hi_ => Held (Kd.int .i64) 3 w127 w.heap.size lo_ hi_ v0_ y29) (held_new ho0 hb HB.out) hb NW; replace BK2 := BK2.same hb; replace HO12 := HO12.same hb; replace HO21 := HO21.same hb; replace HO32 := HO32.same hb; replace HO42 := HO42.same hb; replace BK51 := BK51.same hb; replace HO56 := HO56.same hb; replace HO66 := HO66.same hb; replace HO77 := HO77.same hb; replace HO87 := HO87.same hb; replace HO110 := HO110.same hb; replace HO119 := HO119.same hb; replace HB := am_ (below_step HB.out hb); replace NW := Nat.le_trans NW hb.size; replace NW := NW2; skip; obtain ⟨A133, c134, e135⟩ := HO128.slice; subst e135; clear hb ho0) | ((with_reducible refine Sh.k 11 ?_); refine Sh.gL (some 104) Try.func11 #[.slice A133 y29.length c134, .slice A37 y29.length c38] (h := ?_); (with_reducible refine (laws_eqIntS.calls k _ _ y29 _ _ y29 true _ HO128.C HO128.c HO32.C HO32.c E5.out).mono ?_); rintro e w136 ⟨rfl, hb⟩; refine ⟨_, rfl, ?_⟩; replace hb := hb.below; replace BK2 := BK2.same hb; replace HO12 := HO12.same hb; replace HO21 := HO21.same hb; replace HO32 := HO32.same hb; replace HO42 := HO42.same hb; replace BK51 := BK51.same hb; replace HO56 := HO56.same hb; replace HO66 := HO66.same hb; replace HO77 := HO77.same hb; replace HO87 := HO87.same hb; replace HO110 := HO110.same hb; replace HO119 := HO119.same hb; replace HO128 := HO128.same hb; replace HB := am_ (below_step HB.out hb); replace NW := Nat.le_trans NW hb.size; clear hb) | ((with_reducible refine Sh.k 15 ?_); refine Sh.gL (some 113) Try.func15 #[.slice A71 y29.length c72, .int .i64 1] (h := ?_); refine calls_of_args (args' := #[.slice A71 y105.length c72, .int .i64 1]) (by rw [← HO66.n]) ?_; (with_reducible refine (laws_heldIntS.calls k _ _ y105 1 m104 _ HO66.C HO66.c E11.out).mono ?_); rintro e w137 ⟨rfl, hb⟩; refine ⟨_, rfl, ?_⟩; replace hb := hb.below; replace BK2 := BK2.same hb; replace HO12 := HO12.same hb; replace HO21 := HO21.same hb; replace HO32 := HO32.same hb; replace HO42 := HO42.same hb; replace BK51 := BK51.same hb; replace HO56 := HO56.same hb; replace HO66 := HO66.same hb; replace HO77 := HO77.same hb; replace HO87 := HO87.same hb; replace HO110 := HO110.same hb; replace HO119 := HO119.same hb; replace HO128 := HO128.same hb; replace HB := am_ (below_step HB.out hb); replace NW := Nat.le_trans NW hb.size; clear hb))
 go_ret
 exact ⟨rfl, HB.out⟩
end Go.Proofs.Ytnfpolhpanpeiaa.P
